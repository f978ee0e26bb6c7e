/- Joined by a program (wip/shake.py): the declarations that 'YtlkheeegkifblaaDoorCardFnOutIn' reaches. -/
import Derived.Test.YtlkheeegkifblaaDoorZFh4
set_option linter.unusedVariables false
set_option linter.unusedSimpArgs false
set_option linter.unusedSectionVars false
namespace Go.Proofs.YtlkheeegkifblaaDoor.FP
open Go.Proofs.YtlkheeegkifblaaDoor.P
theorem mem_insFirst (p i : Nat) (t : ByteArray) (s : Fo) (y : Nat) : ∀ (F : Fo), y ∈ (insFirst p i t s F).ids ↔ y ∈ F.ids ∨ (p ∈ F.ids ∧ (y = i ∨ y ∈ s.ids))
 | .nil => by simp [insFirst, Fo.ids]
 | .nd j u k n => by
  rw [insFirst]
  have h1 := mem_insFirst p i t s y k
  have h2 := mem_insFirst p i t s y n
  by_cases e : j = p
  ·rw [if_pos e]
   simp only [Fo.ids, List.mem_cons, List.mem_append, e]
   grind
  ·rw [if_neg e]
   simp only [Fo.ids, List.mem_cons, List.mem_append, h1, h2]
   grind
theorem mem_insAfter (a i : Nat) (t : ByteArray) (s : Fo) (y : Nat) : ∀ (F : Fo), y ∈ (insAfter a i t s F).ids ↔ y ∈ F.ids ∨ (a ∈ F.ids ∧ (y = i ∨ y ∈ s.ids))
 | .nil => by simp [insAfter, Fo.ids]
 | .nd j u k n => by
  rw [insAfter]
  have h1 := mem_insAfter a i t s y k
  have h2 := mem_insAfter a i t s y n
  by_cases e : j = a
  ·rw [if_pos e]
   simp only [Fo.ids, List.mem_cons, List.mem_append, e]
   grind
  ·rw [if_neg e]
   simp only [Fo.ids, List.mem_cons, List.mem_append, h1, h2]
   grind
theorem del_insFirst (p i : Nat) (t : ByteArray) (s : Fo) : ∀ {F : Fo}, i ∉ F.ids → del i (insFirst p i t s F) = F
 | .nil, _ => rfl
 | .nd j u k n, h => by
  simp only [Fo.ids, List.mem_cons, List.mem_append, not_or] at h
  have hj : ¬ j = i := fun e => h.1 e.symm
  rw [insFirst]
  by_cases e : j = p
  ·rw [if_pos e, del, if_neg hj, del, if_pos rfl, del_id i h.2.2]
  ·rw [if_neg e, del, if_neg hj, del_insFirst p i t s h.2.1, del_insFirst p i t s h.2.2]
theorem del_insAfter (a i : Nat) (t : ByteArray) (s : Fo) : ∀ {F : Fo}, i ∉ F.ids → del i (insAfter a i t s F) = F
 | .nil, _ => rfl
 | .nd j u k n, h => by
  simp only [Fo.ids, List.mem_cons, List.mem_append, not_or] at h
  have hj : ¬ j = i := fun e => h.1 e.symm
  rw [insAfter]
  by_cases e : j = a
  ·rw [if_pos e, del, if_neg hj, del, if_pos rfl, del_id i h.2.1]
  ·rw [if_neg e, del, if_neg hj, del_insAfter a i t s h.2.1, del_insAfter a i t s h.2.2]
theorem sub_insFirst_new (p i : Nat) (t : ByteArray) (s : Fo) : ∀ {F : Fo}, i ∉ F.ids → p ∈ F.ids → sub i (insFirst p i t s F) = s
 | .nil, _, h => by simp [Fo.ids] at h
 | .nd j u k n, h, hp => by
  simp only [Fo.ids, List.mem_cons, List.mem_append, not_or] at h hp
  have hj : ¬ j = i := fun e => h.1 e.symm
  rw [insFirst]
  by_cases e : j = p
  ·rw [if_pos e, sub, if_neg hj, if_pos (by simp [Fo.ids]), sub, if_pos rfl]
  ·rw [if_neg e, sub, if_neg hj]
   by_cases hk : p ∈ k.ids
   ·rw [if_pos ((mem_insFirst p i t s i k).2 (Or.inr ⟨hk, Or.inl rfl⟩)), sub_insFirst_new p i t s h.2.1 hk]
   ·rw [if_neg (by rw [mem_insFirst]; grind), sub_insFirst_new p i t s h.2.2 (by grind)]
theorem sub_insAfter_new (a i : Nat) (t : ByteArray) (s : Fo) : ∀ {F : Fo}, i ∉ F.ids → a ∈ F.ids → sub i (insAfter a i t s F) = s
 | .nil, _, h => by simp [Fo.ids] at h
 | .nd j u k n, h, hp => by
  simp only [Fo.ids, List.mem_cons, List.mem_append, not_or] at h hp
  have hj : ¬ j = i := fun e => h.1 e.symm
  rw [insAfter]
  by_cases e : j = a
  ·rw [if_pos e, sub, if_neg hj, if_neg h.2.1, sub, if_pos rfl]
  ·rw [if_neg e, sub, if_neg hj]
   by_cases hk : a ∈ k.ids
   ·rw [if_pos ((mem_insAfter a i t s i k).2 (Or.inr ⟨hk, Or.inl rfl⟩)), sub_insAfter_new a i t s h.2.1 hk]
   ·rw [if_neg (by rw [mem_insAfter]; grind), sub_insAfter_new a i t s h.2.2 (by grind)]
theorem txt_insFirst_new (p i : Nat) (t : ByteArray) (s : Fo) : ∀ {F : Fo}, i ∉ F.ids → p ∈ F.ids → txtF i (insFirst p i t s F) = t
 | .nil, _, h => by simp [Fo.ids] at h
 | .nd j u k n, h, hp => by
  simp only [Fo.ids, List.mem_cons, List.mem_append, not_or] at h hp
  have hj : ¬ j = i := fun e => h.1 e.symm
  rw [insFirst]
  by_cases e : j = p
  ·rw [if_pos e, txtF, if_neg hj, if_pos (by simp [Fo.ids]), txtF, if_pos rfl]
  ·rw [if_neg e, txtF, if_neg hj]
   by_cases hk : p ∈ k.ids
   ·rw [if_pos ((mem_insFirst p i t s i k).2 (Or.inr ⟨hk, Or.inl rfl⟩)), txt_insFirst_new p i t s h.2.1 hk]
   ·rw [if_neg (by rw [mem_insFirst]; grind), txt_insFirst_new p i t s h.2.2 (by grind)]
theorem txt_insAfter_new (a i : Nat) (t : ByteArray) (s : Fo) : ∀ {F : Fo}, i ∉ F.ids → a ∈ F.ids → txtF i (insAfter a i t s F) = t
 | .nil, _, h => by simp [Fo.ids] at h
 | .nd j u k n, h, hp => by
  simp only [Fo.ids, List.mem_cons, List.mem_append, not_or] at h hp
  have hj : ¬ j = i := fun e => h.1 e.symm
  rw [insAfter]
  by_cases e : j = a
  ·rw [if_pos e, txtF, if_neg hj, if_neg h.2.1, txtF, if_pos rfl]
  ·rw [if_neg e, txtF, if_neg hj]
   by_cases hk : a ∈ k.ids
   ·rw [if_pos ((mem_insAfter a i t s i k).2 (Or.inr ⟨hk, Or.inl rfl⟩)), txt_insAfter_new a i t s h.2.1 hk]
   ·rw [if_neg (by rw [mem_insAfter]; grind), txt_insAfter_new a i t s h.2.2 (by grind)]
theorem par_insFirst_new (p i : Nat) (t : ByteArray) (s : Fo) : ∀ {F : Fo} (up : Nat), i ∉ F.ids → p ∈ F.ids → par i up (insFirst p i t s F) = p
 | .nil, _, _, h => by simp [Fo.ids] at h
 | .nd j u k n, up, h, hp => by
  simp only [Fo.ids, List.mem_cons, List.mem_append, not_or] at h hp
  have hj : ¬ j = i := fun e => h.1 e.symm
  rw [insFirst]
  by_cases e : j = p
  ·rw [if_pos e, par, if_neg hj, if_pos (by simp [Fo.ids]), par, if_pos rfl, e]
  ·rw [if_neg e, par, if_neg hj]
   by_cases hk : p ∈ k.ids
   ·rw [if_pos ((mem_insFirst p i t s i k).2 (Or.inr ⟨hk, Or.inl rfl⟩)), par_insFirst_new p i t s j h.2.1 hk]
   ·rw [if_neg (by rw [mem_insFirst]; grind), par_insFirst_new p i t s up h.2.2 (by grind)]
theorem par_insAfter_new (a i : Nat) (t : ByteArray) (s : Fo) : ∀ {F : Fo} (up : Nat), i ∉ F.ids → a ∈ F.ids → par i up (insAfter a i t s F) = par a up F
 | .nil, _, _, h => by simp [Fo.ids] at h
 | .nd j u k n, up, h, hp => by
  simp only [Fo.ids, List.mem_cons, List.mem_append, not_or] at h hp
  have hj : ¬ j = i := fun e => h.1 e.symm
  rw [insAfter]
  by_cases e : j = a
  ·rw [if_pos e, par, if_neg hj, if_neg h.2.1, par, if_pos rfl, par, if_pos e]
  ·rw [if_neg e, par, if_neg hj, par, if_neg e]
   by_cases hk : a ∈ k.ids
   ·rw [if_pos ((mem_insAfter a i t s i k).2 (Or.inr ⟨hk, Or.inl rfl⟩)), if_pos hk, par_insAfter_new a i t s j h.2.1 hk]
   ·rw [if_neg (by rw [mem_insAfter]; grind), if_neg hk, par_insAfter_new a i t s up h.2.2 (by grind)]
theorem sub_insFirst_in (p i : Nat) (t : ByteArray) (s : Fo) {x : Nat} (hx : x ∈ s.ids) (hxi : x ≠ i) : ∀ {F : Fo}, x ∉ F.ids → p ∈ F.ids → sub x (insFirst p i t s F) = sub x s
 | .nil, _, h => by simp [Fo.ids] at h
 | .nd j u k n, h, hp => by
  simp only [Fo.ids, List.mem_cons, List.mem_append, not_or] at h hp
  have hj : ¬ j = x := fun e => h.1 e.symm
  rw [insFirst]
  by_cases e : j = p
  ·rw [if_pos e, sub, if_neg hj, if_pos (by simp [Fo.ids, hx]), sub, if_neg (fun e => hxi e.symm), if_pos hx]
  ·rw [if_neg e, sub, if_neg hj]
   by_cases hk : p ∈ k.ids
   ·rw [if_pos ((mem_insFirst p i t s x k).2 (Or.inr ⟨hk, Or.inr hx⟩)), sub_insFirst_in p i t s hx hxi h.2.1 hk]
   ·rw [if_neg (by rw [mem_insFirst]; grind), sub_insFirst_in p i t s hx hxi h.2.2 (by grind)]
theorem sub_insAfter_in (a i : Nat) (t : ByteArray) (s : Fo) {x : Nat} (hx : x ∈ s.ids) (hxi : x ≠ i) : ∀ {F : Fo}, x ∉ F.ids → a ∈ F.ids → sub x (insAfter a i t s F) = sub x s
 | .nil, _, h => by simp [Fo.ids] at h
 | .nd j u k n, h, hp => by
  simp only [Fo.ids, List.mem_cons, List.mem_append, not_or] at h hp
  have hj : ¬ j = x := fun e => h.1 e.symm
  rw [insAfter]
  by_cases e : j = a
  ·rw [if_pos e, sub, if_neg hj, if_neg h.2.1, sub, if_neg (fun e => hxi e.symm), if_pos hx]
  ·rw [if_neg e, sub, if_neg hj]
   by_cases hk : a ∈ k.ids
   ·rw [if_pos ((mem_insAfter a i t s x k).2 (Or.inr ⟨hk, Or.inr hx⟩)), sub_insAfter_in a i t s hx hxi h.2.1 hk]
   ·rw [if_neg (by rw [mem_insAfter]; grind), sub_insAfter_in a i t s hx hxi h.2.2 (by grind)]
theorem par_insFirst_in (p i : Nat) (t : ByteArray) (s : Fo) {x : Nat} (hx : x ∈ s.ids) (hxi : x ≠ i) : ∀ {F : Fo} (up : Nat), x ∉ F.ids → p ∈ F.ids → par x up (insFirst p i t s F) = par x i s
 | .nil, _, _, h => by simp [Fo.ids] at h
 | .nd j u k n, up, h, hp => by
  simp only [Fo.ids, List.mem_cons, List.mem_append, not_or] at h hp
  have hj : ¬ j = x := fun e => h.1 e.symm
  rw [insFirst]
  by_cases e : j = p
  ·rw [if_pos e, par, if_neg hj, if_pos (by simp [Fo.ids, hx]), par, if_neg (fun e => hxi e.symm), if_pos hx]
  ·rw [if_neg e, par, if_neg hj]
   by_cases hk : p ∈ k.ids
   ·rw [if_pos ((mem_insFirst p i t s x k).2 (Or.inr ⟨hk, Or.inr hx⟩)), par_insFirst_in p i t s hx hxi j h.2.1 hk]
   ·rw [if_neg (by rw [mem_insFirst]; grind), par_insFirst_in p i t s hx hxi up h.2.2 (by grind)]
theorem par_insAfter_in (a i : Nat) (t : ByteArray) (s : Fo) {x : Nat} (hx : x ∈ s.ids) (hxi : x ≠ i) : ∀ {F : Fo} (up : Nat), x ∉ F.ids → a ∈ F.ids → par x up (insAfter a i t s F) = par x i s
 | .nil, _, _, h => by simp [Fo.ids] at h
 | .nd j u k n, up, h, hp => by
  simp only [Fo.ids, List.mem_cons, List.mem_append, not_or] at h hp
  have hj : ¬ j = x := fun e => h.1 e.symm
  rw [insAfter]
  by_cases e : j = a
  ·rw [if_pos e, par, if_neg hj, if_neg h.2.1, par, if_neg (fun e => hxi e.symm), if_pos hx]
  ·rw [if_neg e, par, if_neg hj]
   by_cases hk : a ∈ k.ids
   ·rw [if_pos ((mem_insAfter a i t s x k).2 (Or.inr ⟨hk, Or.inr hx⟩)), par_insAfter_in a i t s hx hxi j h.2.1 hk]
   ·rw [if_neg (by rw [mem_insAfter]; grind), par_insAfter_in a i t s hx hxi up h.2.2 (by grind)]
theorem txt_insFirst_in (p i : Nat) (t : ByteArray) (s : Fo) {x : Nat} (hx : x ∈ s.ids) (hxi : x ≠ i) : ∀ {F : Fo}, x ∉ F.ids → p ∈ F.ids → txtF x (insFirst p i t s F) = txtF x s
 | .nil, _, h => by simp [Fo.ids] at h
 | .nd j u k n, h, hp => by
  simp only [Fo.ids, List.mem_cons, List.mem_append, not_or] at h hp
  have hj : ¬ j = x := fun e => h.1 e.symm
  rw [insFirst]
  by_cases e : j = p
  ·rw [if_pos e, txtF, if_neg hj, if_pos (by simp [Fo.ids, hx]), txtF, if_neg (fun e => hxi e.symm), if_pos hx]
  ·rw [if_neg e, txtF, if_neg hj]
   by_cases hk : p ∈ k.ids
   ·rw [if_pos ((mem_insFirst p i t s x k).2 (Or.inr ⟨hk, Or.inr hx⟩)), txt_insFirst_in p i t s hx hxi h.2.1 hk]
   ·rw [if_neg (by rw [mem_insFirst]; grind), txt_insFirst_in p i t s hx hxi h.2.2 (by grind)]
theorem txt_insAfter_in (a i : Nat) (t : ByteArray) (s : Fo) {x : Nat} (hx : x ∈ s.ids) (hxi : x ≠ i) : ∀ {F : Fo}, x ∉ F.ids → a ∈ F.ids → txtF x (insAfter a i t s F) = txtF x s
 | .nil, _, h => by simp [Fo.ids] at h
 | .nd j u k n, h, hp => by
  simp only [Fo.ids, List.mem_cons, List.mem_append, not_or] at h hp
  have hj : ¬ j = x := fun e => h.1 e.symm
  rw [insAfter]
  by_cases e : j = a
  ·rw [if_pos e, txtF, if_neg hj, if_neg h.2.1, txtF, if_neg (fun e => hxi e.symm), if_pos hx]
  ·rw [if_neg e, txtF, if_neg hj]
   by_cases hk : a ∈ k.ids
   ·rw [if_pos ((mem_insAfter a i t s x k).2 (Or.inr ⟨hk, Or.inr hx⟩)), txt_insAfter_in a i t s hx hxi h.2.1 hk]
   ·rw [if_neg (by rw [mem_insAfter]; grind), txt_insAfter_in a i t s hx hxi h.2.2 (by grind)]
theorem par_insFirst_old (p i : Nat) (t : ByteArray) (s : Fo) {x : Nat} (hx : x ∉ s.ids) (hxi : x ≠ i) : ∀ (F : Fo) (up : Nat), par x up (insFirst p i t s F) = par x up F
 | .nil, _ => rfl
 | .nd j u k n, up => by
  have m1 : x ∈ (insFirst p i t s k).ids ↔ x ∈ k.ids := by rw [mem_insFirst]; grind
  have m2 : x ∈ (Fo.nd i t s k).ids ↔ x ∈ k.ids := by simp only [Fo.ids, List.mem_cons, List.mem_append]; grind
  rw [insFirst]
  by_cases e : j = p
  ·rw [if_pos e]
   simp only [par, m2, if_neg (fun e : i = x => hxi e.symm), if_neg hx]
  ·rw [if_neg e]
   simp only [par, m1, par_insFirst_old p i t s hx hxi k, par_insFirst_old p i t s hx hxi n]
theorem par_insAfter_old (a i : Nat) (t : ByteArray) (s : Fo) {x : Nat} (hx : x ∉ s.ids) (hxi : x ≠ i) : ∀ (F : Fo) (up : Nat), par x up (insAfter a i t s F) = par x up F
 | .nil, _ => rfl
 | .nd j u k n, up => by
  have m1 : x ∈ (insAfter a i t s k).ids ↔ x ∈ k.ids := by rw [mem_insAfter]; grind
  rw [insAfter]
  by_cases e : j = a
  ·rw [if_pos e]
   simp only [par, if_neg (fun e : i = x => hxi e.symm), if_neg hx]
  ·rw [if_neg e]
   simp only [par, m1, par_insAfter_old a i t s hx hxi k, par_insAfter_old a i t s hx hxi n]
theorem txt_insFirst_old (p i : Nat) (t : ByteArray) (s : Fo) {x : Nat} (hx : x ∉ s.ids) (hxi : x ≠ i) : ∀ (F : Fo), txtF x (insFirst p i t s F) = txtF x F
 | .nil => rfl
 | .nd j u k n => by
  have m1 : x ∈ (insFirst p i t s k).ids ↔ x ∈ k.ids := by rw [mem_insFirst]; grind
  have m2 : x ∈ (Fo.nd i t s k).ids ↔ x ∈ k.ids := by simp only [Fo.ids, List.mem_cons, List.mem_append]; grind
  rw [insFirst]
  by_cases e : j = p
  ·rw [if_pos e]
   simp only [txtF, m2, if_neg (fun e : i = x => hxi e.symm), if_neg hx]
  ·rw [if_neg e]
   simp only [txtF, m1, txt_insFirst_old p i t s hx hxi k, txt_insFirst_old p i t s hx hxi n]
theorem txt_insAfter_old (a i : Nat) (t : ByteArray) (s : Fo) {x : Nat} (hx : x ∉ s.ids) (hxi : x ≠ i) : ∀ (F : Fo), txtF x (insAfter a i t s F) = txtF x F
 | .nil => rfl
 | .nd j u k n => by
  have m1 : x ∈ (insAfter a i t s k).ids ↔ x ∈ k.ids := by rw [mem_insAfter]; grind
  rw [insAfter]
  by_cases e : j = a
  ·rw [if_pos e]
   simp only [txtF, if_neg (fun e : i = x => hxi e.symm), if_neg hx]
  ·rw [if_neg e]
   simp only [txtF, m1, txt_insAfter_old a i t s hx hxi k, txt_insAfter_old a i t s hx hxi n]
theorem sub_insAfter_old (a i : Nat) (t : ByteArray) (s : Fo) {x : Nat} (hx : x ∉ s.ids) (hxi : x ≠ i) : ∀ (F : Fo), F.ids.Nodup → x ∈ F.ids → sub x (insAfter a i t s F) = insAfter a i t s (sub x F)
 | .nil, _, h => by simp [Fo.ids] at h
 | .nd j u k n, hn, h => by
  obtain ⟨n1, n2, n3, n4, n5⟩ := nodup_nd hn
  simp only [Fo.ids, List.mem_cons, List.mem_append] at h
  have m1 : x ∈ (insAfter a i t s k).ids ↔ x ∈ k.ids := by rw [mem_insAfter]; grind
  have hix : ¬ i = x := fun e => hxi e.symm
  rw [insAfter]
  by_cases e : j = a
  ·subst e
   rw [if_pos rfl]
   by_cases e2 : j = x
   ·subst e2
    simp only [sub, if_true]
    rw [insAfter_id j i t s n1]
   ·simp only [sub, if_neg e2, if_neg hix, if_neg hx]
    split
    ·rw [insAfter_id j i t s (fun g => n1 (sub_ids x g))]
    ·rw [insAfter_id j i t s (fun g => n2 (sub_ids x g))]
  ·rw [if_neg e]
   by_cases e2 : j = x
   ·subst e2
    simp only [sub, if_true]
   ·simp only [sub, if_neg e2, m1]
    split
    ·exact sub_insAfter_old a i t s hx hxi k n3 (by assumption)
    ·exact sub_insAfter_old a i t s hx hxi n n4 (by grind)
theorem txt_del (i a : Nat) : ∀ (G : Fo), G.ids.Nodup → a ∈ (del i G).ids → txtF a (del i G) = txtF a G
 | .nil, _, h => rfl
 | .nd j u k n, hn, h => by
  obtain ⟨n1, n2, n3, n4, n5⟩ := nodup_nd hn
  rw [FP.del] at h ⊢
  by_cases e : j = i
  ·rw [if_pos e] at h ⊢
   rw [txtF, if_neg (fun (g : j = a) => n2 (by rw [g]; exact h)), if_neg (fun g => n5 a g h)]
  ·rw [if_neg e] at h ⊢
   simp only [Fo.ids, List.mem_cons, List.mem_append] at h
   rw [txtF, txtF]
   by_cases e2 : j = a
   ·rw [if_pos e2, if_pos e2]
   ·rw [if_neg e2, if_neg e2]
    by_cases hk : a ∈ (FP.del i k).ids
    ·rw [if_pos hk, if_pos (del_ids_sub i hk)]; exact txt_del i a k n3 hk
    ·have hn' : a ∈ (FP.del i n).ids := by rcases h with g | g | g; exact absurd g.symm e2; exact absurd g hk; exact g
     rw [if_neg hk, if_neg (fun g => n5 a g (del_ids_sub i hn'))]; exact txt_del i a n n4 hn'
theorem par_sub (i a : Nat) : ∀ (G : Fo) (up : Nat), G.ids.Nodup → a ∈ (sub i G).ids → par a up G = par a i (sub i G)
 | .nil, up, _, h => by simp [sub, Fo.ids] at h
 | .nd j u k n, up, hn, h => by
  obtain ⟨n1, n2, n3, n4, n5⟩ := nodup_nd hn
  rw [sub] at h ⊢
  by_cases e : j = i
  ·rw [if_pos e] at h ⊢
   rw [par, if_neg (fun (g : j = a) => n1 (by rw [g]; exact h)), if_pos h, e]
  ·rw [if_neg e] at h ⊢
   by_cases hk : i ∈ k.ids
   ·rw [if_pos hk] at h ⊢
    have ha := sub_ids i h
    rw [par, if_neg (fun (g : j = a) => n1 (by rw [g]; exact ha)), if_pos ha]
    exact par_sub i a k j n3 h
   ·rw [if_neg hk] at h ⊢
    have ha := sub_ids i h
    rw [par, if_neg (fun (g : j = a) => n2 (by rw [g]; exact ha)), if_neg (fun g => n5 a g ha)]
    exact par_sub i a n up n4 h
theorem txt_sub (i a : Nat) : ∀ (G : Fo), G.ids.Nodup → a ∈ (sub i G).ids → txtF a G = txtF a (sub i G)
 | .nil, _, h => by simp [sub, Fo.ids] at h
 | .nd j u k n, hn, h => by
  obtain ⟨n1, n2, n3, n4, n5⟩ := nodup_nd hn
  rw [sub] at h ⊢
  by_cases e : j = i
  ·rw [if_pos e] at h ⊢
   rw [txtF, if_neg (fun (g : j = a) => n1 (by rw [g]; exact h)), if_pos h]
  ·rw [if_neg e] at h ⊢
   by_cases hk : i ∈ k.ids
   ·rw [if_pos hk] at h ⊢
    have ha := sub_ids i h
    rw [txtF, if_neg (fun (g : j = a) => n1 (by rw [g]; exact ha)), if_pos ha]
    exact txt_sub i a k n3 h
   ·rw [if_neg hk] at h ⊢
    have ha := sub_ids i h
    rw [txtF, if_neg (fun (g : j = a) => n2 (by rw [g]; exact ha)), if_neg (fun g => n5 a g ha)]
    exact txt_sub i a n n4 h
theorem sub_sub (i a : Nat) : ∀ (G : Fo), G.ids.Nodup → a ∈ (sub i G).ids → sub a G = sub a (sub i G)
 | .nil, _, h => by simp [sub, Fo.ids] at h
 | .nd j u k n, hn, h => by
  obtain ⟨n1, n2, n3, n4, n5⟩ := nodup_nd hn
  rw [sub.eq_2 i] at h ⊢
  by_cases e : j = i
  ·rw [if_pos e] at h ⊢
   rw [sub, if_neg (fun (g : j = a) => n1 (by rw [g]; exact h)), if_pos h]
  ·rw [if_neg e] at h ⊢
   by_cases hk : i ∈ k.ids
   ·rw [if_pos hk] at h ⊢
    have ha := sub_ids i h
    rw [sub, if_neg (fun (g : j = a) => n1 (by rw [g]; exact ha)), if_pos ha]
    exact sub_sub i a k n3 h
   ·rw [if_neg hk] at h ⊢
    have ha := sub_ids i h
    rw [sub, if_neg (fun (g : j = a) => n2 (by rw [g]; exact ha)), if_neg (fun g => n5 a g ha)]
    exact sub_sub i a n n4 h
theorem sub_del (i a : Nat) : ∀ (G : Fo), G.ids.Nodup → a ∈ (del i G).ids → sub a (del i G) = del i (sub a G)
 | .nil, _, h => rfl
 | .nd j u k n, hn, h => by
  obtain ⟨n1, n2, n3, n4, n5⟩ := nodup_nd hn
  rw [FP.del] at h ⊢
  by_cases e : j = i
  ·rw [if_pos e] at h ⊢
   rw [sub.eq_2, if_neg (fun (g : j = a) => n2 (by rw [g]; exact h)), if_neg (fun g => n5 a g h), del_id i (fun g => n2 (e ▸ sub_ids a g))]
  ·rw [if_neg e] at h ⊢
   simp only [Fo.ids, List.mem_cons, List.mem_append] at h
   rw [sub.eq_2, sub.eq_2]
   by_cases e2 : j = a
   ·rw [if_pos e2, if_pos e2]
   ·rw [if_neg e2, if_neg e2]
    by_cases hk : a ∈ (FP.del i k).ids
    ·rw [if_pos hk, if_pos (del_ids_sub i hk)]; exact sub_del i a k n3 hk
    ·have hn' : a ∈ (FP.del i n).ids := by rcases h with g | g | g; exact absurd g.symm e2; exact absurd g hk; exact g
     rw [if_neg hk, if_neg (fun g => n5 a g (del_ids_sub i hn'))]; exact sub_del i a n n4 hn'
theorem set_txt_ne (x : Nat) (t' : ByteArray) {i : Nat} (h : i ≠ x) : ∀ (F : Fo), txtF i (setF x t' F) = txtF i F
 | .nil => rfl
 | .nd j u k n => by
  rw [setF, txtF, txtF, setF_ids, set_txt_ne x t' h k, set_txt_ne x t' h n]
  by_cases e : j = i
  ·rw [if_pos e, if_pos e, if_neg (fun g => h (e ▸ g))]
  ·rw [if_neg e, if_neg e]
theorem set_txt_eq (x : Nat) (t' : ByteArray) : ∀ {F : Fo}, x ∈ F.ids → txtF x (setF x t' F) = t'
 | .nil, h => by simp [Fo.ids] at h
 | .nd j u k n, h => by
  simp only [Fo.ids, List.mem_cons, List.mem_append] at h
  rw [setF, txtF, setF_ids]
  by_cases e : j = x
  ·rw [if_pos e, if_pos e]
  ·rw [if_neg e]
   by_cases hk : x ∈ k.ids
   ·rw [if_pos hk]; exact set_txt_eq x t' hk
   ·rw [if_neg hk]; exact set_txt_eq x t' (by grind)
end Go.Proofs.YtlkheeegkifblaaDoor.FP
namespace Go.Proofs.YtlkheeegkifblaaDoor.FP
open Go.Proofs.YtlkheeegkifblaaDoor.P
structure PutOk (H : Fo) (q : Nat × Nat) (i : Nat) (s : Fo) : Prop where
 nd : H.ids.Nodup
 snd : s.ids.Nodup
 iH : i ∉ H.ids
 is : i ∉ s.ids
 dis : ∀ x ∈ s.ids, x ∉ H.ids
 up : q.1 ∈ H.ids
 at_ : q.2 = 0 ∨ (q.2 ∈ H.ids ∧ par q.2 0 H = q.1)
section
variable {H : Fo} {q : Nat × Nat} {i : Nat} {s : Fo} {t : ByteArray}
theorem PutOk.del (o : PutOk H q i s) : del i (putF H q i t s) = H := by
 unfold putF
 split
 ·exact del_insFirst _ _ _ _ o.iH
 ·exact del_insAfter _ _ _ _ o.iH
theorem PutOk.sub (o : PutOk H q i s) : sub i (putF H q i t s) = s := by
 unfold putF
 split
 ·exact sub_insFirst_new _ _ _ _ o.iH o.up
 ·rename_i h; exact sub_insAfter_new _ _ _ _ o.iH (o.at_.resolve_left h).1
theorem PutOk.txt (o : PutOk H q i s) : txtF i (putF H q i t s) = t := by
 unfold putF
 split
 ·exact txt_insFirst_new _ _ _ _ o.iH o.up
 ·rename_i h; exact txt_insAfter_new _ _ _ _ o.iH (o.at_.resolve_left h).1
theorem PutOk.par (o : PutOk H q i s) : par i 0 (putF H q i t s) = q.1 := by
 unfold putF
 split
 ·exact par_insFirst_new _ _ _ _ _ o.iH o.up
 ·rename_i h
  rw [par_insAfter_new _ _ _ _ _ o.iH (o.at_.resolve_left h).1]; exact (o.at_.resolve_left h).2
theorem PutOk.mem (o : PutOk H q i s) (y : Nat) : y ∈ (putF H q i t s).ids ↔ y = i ∨ y ∈ s.ids ∨ y ∈ H.ids := by
 unfold putF
 split
 ·rw [mem_insFirst]; have := o.up; grind
 ·rename_i h; rw [mem_insAfter]; have := (o.at_.resolve_left h).1; grind
theorem PutOk.perm (o : PutOk H q i s) : (putF H q i t s).ids.Perm (i :: (s.ids ++ H.ids)) := putF_ids o.nd o.up (o.at_.imp id And.left)
theorem PutOk.nodup (o : PutOk H q i s) : (putF H q i t s).ids.Nodup := by
 refine o.perm.nodup_iff.2 (List.nodup_cons.2 ⟨?_, List.nodup_append.2 ⟨o.snd, o.nd, fun a ha b hb e => o.dis a ha (e ▸ hb)⟩⟩)
 rw [List.mem_append]
 exact fun h => h.elim o.is o.iH
theorem PutOk.ne {x : Nat} (o : PutOk H q i s) (hx : x ∈ H.ids) : x ≠ i ∧ x ∉ s.ids := ⟨fun e => o.iH (e ▸ hx), fun g => o.dis x g hx⟩
theorem PutOk.par_old (o : PutOk H q i s) {x : Nat} (hx : x ∈ H.ids) : FP.par x 0 (putF H q i t s) = FP.par x 0 H := by
 obtain ⟨h1, h2⟩ := o.ne hx
 unfold putF
 split
 ·exact par_insFirst_old _ _ _ _ h2 h1 _ _
 ·exact par_insAfter_old _ _ _ _ h2 h1 _ _
theorem PutOk.txt_old (o : PutOk H q i s) {x : Nat} (hx : x ∈ H.ids) : txtF x (putF H q i t s) = txtF x H := by
 obtain ⟨h1, h2⟩ := o.ne hx
 unfold putF
 split
 ·exact txt_insFirst_old _ _ _ _ h2 h1 _
 ·exact txt_insAfter_old _ _ _ _ h2 h1 _
theorem PutOk.par_in (o : PutOk H q i s) {x : Nat} (hx : x ∈ s.ids) : FP.par x 0 (putF H q i t s) = FP.par x i s := by
 have h1 : x ≠ i := fun e => o.is (e ▸ hx)
 unfold putF
 split
 ·exact par_insFirst_in _ _ _ _ hx h1 _ (o.dis x hx) o.up
 ·rename_i h; exact par_insAfter_in _ _ _ _ hx h1 _ (o.dis x hx) (o.at_.resolve_left h).1
theorem PutOk.txt_in (o : PutOk H q i s) {x : Nat} (hx : x ∈ s.ids) : txtF x (putF H q i t s) = txtF x s := by
 have h1 : x ≠ i := fun e => o.is (e ▸ hx)
 unfold putF
 split
 ·exact txt_insFirst_in _ _ _ _ hx h1 (o.dis x hx) o.up
 ·rename_i h; exact txt_insAfter_in _ _ _ _ hx h1 (o.dis x hx) (o.at_.resolve_left h).1
theorem PutOk.sub_in (o : PutOk H q i s) {x : Nat} (hx : x ∈ s.ids) : FP.sub x (putF H q i t s) = FP.sub x s := by
 have h1 : x ≠ i := fun e => o.is (e ▸ hx)
 unfold putF
 split
 ·exact sub_insFirst_in _ _ _ _ hx h1 (o.dis x hx) o.up
 ·rename_i h; exact sub_insAfter_in _ _ _ _ hx h1 (o.dis x hx) (o.at_.resolve_left h).1
end
theorem fnd_congr {G G' : Fo} (h : ∀ y, y ∈ G'.ids ↔ y ∈ G.ids) (x : Int) : fndF G' x = fndF G x := by
 unfold fndF; simp only [h]
theorem mem_del {i y : Nat} {G : Fo} (hn : G.ids.Nodup) (hi : i ∈ G.ids) : y ∈ (del i G).ids ↔ y ∈ G.ids ∧ y ≠ i ∧ y ∉ (sub i G).ids := by
 have hp := ids_del i G hn hi
 obtain ⟨m1, m2⟩ := List.nodup_cons.1 (hp.nodup_iff.1 hn)
 have m3 := (List.nodup_append.1 m2).2.2
 have m4 := hp.mem_iff (a := y)
 simp only [List.mem_cons, List.mem_append] at m4 m1
 constructor
 ·intro h
  exact ⟨m4.2 (Or.inr (Or.inr h)), fun e => m1 (Or.inr (e ▸ h)), fun g => m3 y g y h rfl⟩
 ·rintro ⟨h1, h2, h3⟩
  rcases m4.1 h1 with g | g | g
  ·exact absurd g h2
  ·exact absurd g h3
  ·exact g
structure MvOk (G : Fo) (i : Nat) (q : Nat × Nat) : Prop where
 nd : G.ids.Nodup
 mem : i ∈ G.ids
 put : PutOk (del i G) q i (sub i G)
def mvF (G : Fo) (q : Nat × Nat) (i : Nat) : Fo := putF (del i G) q i (txtF i G) (sub i G)
section
variable {G : Fo} {i : Nat} {q : Nat × Nat}
theorem MvOk.ids (o : MvOk G i q) (y : Nat) : y ∈ (mvF G q i).ids ↔ y ∈ G.ids := by
 unfold mvF
 rw [o.put.mem, mem_del o.nd o.mem]
 have := o.mem
 have h2 : y ∈ (sub i G).ids → y ∈ G.ids := sub_ids i
 grind
theorem MvOk.perm (o : MvOk G i q) : (mvF G q i).ids.Perm G.ids := by
 unfold mvF
 exact o.put.perm.trans (ids_del i G o.nd o.mem).symm
theorem MvOk.nodup (o : MvOk G i q) : (mvF G q i).ids.Nodup := o.put.nodup
theorem MvOk.par_ne (o : MvOk G i q) {x : Nat} (hx : x ∈ G.ids) (hne : x ≠ i) : par x 0 (mvF G q i) = par x 0 G := by
 unfold mvF
 by_cases hs : x ∈ (sub i G).ids
 ·rw [o.put.par_in hs, par_sub i x G 0 o.nd hs]
 ·have hd := (mem_del o.nd o.mem).2 ⟨hx, hne, hs⟩
  rw [o.put.par_old hd, par_del i x G 0 o.nd hd]
theorem MvOk.txt (o : MvOk G i q) {x : Nat} (hx : x ∈ G.ids) : txtF x (mvF G q i) = txtF x G := by
 unfold mvF
 by_cases hne : x = i
 ·subst hne; exact o.put.txt
 ·by_cases hs : x ∈ (sub i G).ids
  ·rw [o.put.txt_in hs, txt_sub i x G o.nd hs]
  ·have hd := (mem_del o.nd o.mem).2 ⟨hx, hne, hs⟩
   rw [o.put.txt_old hd, txt_del i x G o.nd hd]
theorem MvOk.sub_self (o : MvOk G i q) : sub i (mvF G q i) = sub i G := o.put.sub
theorem MvOk.sub_in (o : MvOk G i q) {x : Nat} (hx : x ∈ (sub i G).ids) : sub x (mvF G q i) = sub x G := by
 unfold mvF
 rw [o.put.sub_in hx, sub_sub i x G o.nd hx]
theorem MvOk.del (o : MvOk G i q) : del i (mvF G q i) = del i G := o.put.del
theorem MvOk.again (o : MvOk G i q) (q' : Nat × Nat) : mvF (mvF G q i) q' i = mvF G q' i := by
 have h1 := o.del
 have h2 := o.txt o.mem
 have h3 := o.sub_self
 unfold mvF at h1 h2 h3 ⊢
 rw [h1, h2, h3]
theorem MvOk.under (o : MvOk G i q) (x : Nat) : under i x (mvF G q i) ↔ under i x G := by
 unfold FP.under
 rw [o.sub_self, o.ids]
theorem MvOk.fnd (o : MvOk G i q) (x : Int) : fndF (mvF G q i) x = fndF G x := fnd_congr o.ids x
theorem MvOk.near (o : MvOk G i q) (up at_ : Int) : nearF (mvF G q i) (i : Int) up at_ = nearF G (i : Int) up at_ := by
 unfold nearF
 rw [o.fnd, o.fnd]
 by_cases h1 : fndF G up = 0
 ·rw [if_pos h1, if_pos h1]
 ·rw [if_neg h1, if_neg h1]
  by_cases h2 : fndF G at_ = 0
  ·rw [if_pos h2, if_pos h2]
  ·rw [if_neg h2, if_neg h2]
   by_cases h3 : at_ = (i : Int)
   ·simp only [h3, if_true, ite_self]
   ·obtain ⟨m1, m2⟩ := fndF_mem h2
    rw [o.par_ne m1 (fun e => h3 (by rw [← m2, e]))]
end
theorem move_ok {G : Fo} (hn : G.ids.Nodup) (h0 : ∀ x ∈ G.ids, x ≠ 0) (h3 : 3 ∈ G.tops) {i : Nat} (hi : i ∈ G.ids) (hit : i ∉ G.tops) {up at_ : Int} (hw : ¬ under i (fndF G up) G) : MvOk G i (nearF G (i : Int) up at_) := by
 obtain ⟨h, hr⟩ := reptop_ex G hn h0
 have hp := near_del hr hn h3 hi hit (id := (i : Int)) (up := up) (at_ := at_) rfl hw
 have hperm := ids_del i G hn hi
 obtain ⟨m1, m2⟩ := List.nodup_cons.1 (hperm.nodup_iff.1 hn)
 obtain ⟨m3, m4, m5⟩ := List.nodup_append.1 m2
 rw [List.mem_append, not_or] at m1
 refine ⟨hn, hi, ⟨m4, m3, m1.2, m1.1, fun x hx g => m5 x hx x g rfl, hp.1, hp.2.imp id fun ⟨a1, a2, _⟩ => ⟨a1, ?_⟩⟩⟩
 rw [par_del i _ G 0 hn a1, ← reptop_par hr hn (del_ids_sub i a1)]; exact a2
theorem make_ok {G : Fo} (hn : G.ids.Nodup) (h3 : 3 ∈ G.tops) {i : Nat} (hi : i ∉ G.ids) {up at_ : Int} : PutOk G (nearF G (i : Int) up at_) i .nil := by
 have hp := near_ok (G := G) (tops_ids h3) (i : Int) up at_
 exact ⟨hn, by simp [Fo.ids], hi, by simp [Fo.ids], by simp [Fo.ids], hp.up, hp.at_.imp id fun ⟨a1, a2, _⟩ => ⟨a1, a2⟩⟩
inductive Does (G : Fo) (kd : Int) (i : Nat) (up at_ : Int) (s : ByteArray) : Fo → Prop
 | text (h : kd = 2) (hi : i ∈ G.ids) : Does G kd i up at_ s (setF i s G)
 | make (h : kd = 1) (hi : i ∉ G.ids) (o : PutOk G (nearF G (i : Int) up at_) i .nil) : Does G kd i up at_ s (putF G (nearF G (i : Int) up at_) i s .nil)
 | move (h : kd = 3) (hi : i ∈ G.ids) (hw : ¬ under i (fndF G up) G) (o : MvOk G i (nearF G (i : Int) up at_)) : Does G kd i up at_ s (mvF G (nearF G (i : Int) up at_) i)
 | none (h : (kd = 2 ∧ i ∉ G.ids) ∨ (kd = 1 ∧ i ∈ G.ids) ∨ (kd = 3 ∧ i ∉ G.ids) ∨ (kd = 3 ∧ i ∈ G.ids ∧ under i (fndF G up) G)) : Does G kd i up at_ s G
theorem fnd_nat {G : Fo} {y : Nat} (hy : y ∈ G.ids) : fndF G (y : Int) = y := by unfold fndF; rw [if_pos ⟨by omega, by simpa using hy⟩]; rfl
theorem fnd_not {G : Fo} {y : Nat} (hy : y ∉ G.ids) : fndF G (y : Int) = 0 := by unfold fndF; rw [if_neg (by simpa using hy)]
theorem does {G : Fo} (hn : G.ids.Nodup) (h0 : ∀ x ∈ G.ids, x ≠ 0) (h3 : 3 ∈ G.tops) (kd : Int) (i : Nat) (hit : i ∉ G.tops) (up at_ : Int) (s : ByteArray) (hk : kd = 1 ∨ kd = 2 ∨ kd = 3) : Does G kd i up at_ s (doF G kd (i : Int) up at_ s) := by
 unfold doF
 by_cases hi : i ∈ G.ids
 ·have hi0 := h0 i hi
  rw [fnd_nat hi, if_neg hi0, if_neg hi0, if_neg hi0]
  rcases hk with rfl | rfl | rfl
  ·rw [if_neg (by decide), if_pos rfl]; exact .none (Or.inr (Or.inl ⟨rfl, hi⟩))
  ·rw [if_pos rfl]; exact .text rfl hi
  ·rw [if_neg (by decide), if_neg (by decide)]
   by_cases hu : under i (fndF G up) G
   ·rw [if_pos hu]; exact .none (Or.inr (Or.inr (Or.inr ⟨rfl, hi, hu⟩)))
   ·rw [if_neg hu]; exact .move rfl hi hu (move_ok hn h0 h3 hi hit hu)
 ·rw [fnd_not hi, if_pos rfl, if_pos rfl, if_pos rfl]
  rcases hk with rfl | rfl | rfl
  ·rw [if_neg (by decide), if_pos rfl]; exact .make rfl hi (make_ok hn h3 hi)
  ·rw [if_pos rfl]; exact .none (Or.inl ⟨rfl, hi⟩)
  ·rw [if_neg (by decide), if_neg (by decide)]; exact .none (Or.inr (Or.inr (Or.inl ⟨rfl, hi⟩)))
theorem doF_move {G : Fo} {i : Nat} (hi : i ∈ G.ids) (h0 : i ≠ 0) (u a : Int) (s : ByteArray) (hw : ¬ under i (fndF G u) G) : doF G 3 (i : Int) u a s = mvF G (nearF G (i : Int) u a) i := by
 unfold doF mvF; rw [if_neg (by decide), if_neg (by decide), fnd_nat hi, if_neg h0, if_neg hw]
section
variable {G : Fo} (hn : G.ids.Nodup) (h0 : ∀ x ∈ G.ids, x ≠ 0) (h3 : 3 ∈ G.tops) {kd : Int} {i : Nat} (hi0 : i ≠ 0) (hit : i ∉ G.tops) {up at_ : Int} {s : ByteArray} (hk : kd = 1 ∨ kd = 2 ∨ kd = 3)
end
theorem par_top0 {G : Fo} {x : Nat} : ∀ {F : Fo}, F.ids.Nodup → x ∈ F.tops → par x 0 F = 0
 | .nil, _, h => by simp [Fo.tops] at h
 | .nd j u k n, hn, h => by
  obtain ⟨n1, n2, n3, n4, n5⟩ := nodup_nd hn
  simp only [Fo.tops, List.mem_cons] at h
  rw [par]
  by_cases e : j = x
  ·rw [if_pos e]
  ·have hx : x ∈ n.tops := by grind
   rw [if_neg e, if_neg (fun g => n5 x g (tops_ids hx)), par_top0 (G := G) n4 hx]
theorem near_at_top {G : Fo} (hn : G.ids.Nodup) (h0 : ∀ x ∈ G.ids, x ≠ 0) {H : Fo} {q : Nat × Nat} {i : Nat} {s : Fo} (o : PutOk H q i s) (hH : ∀ x ∈ H.ids, x ≠ 0) : q.2 = 0 ∨ q.2 ∉ H.tops := by
 refine o.at_.imp id fun ⟨h1, h2⟩ ht => ?_
 have := par_top0 (G := G) o.nd ht
 rw [h2] at this
 exact hH _ o.up this
theorem do_tops {G : Fo} (hn : G.ids.Nodup) (h0 : ∀ x ∈ G.ids, x ≠ 0) {kd : Int} {i : Nat} (hi0 : i ≠ 0) (hit : i ∉ G.tops) {up at_ : Int} {s : ByteArray} {G' : Fo} (hd : Does G kd i up at_ s G') : G'.tops = G.tops ∧ G'.ids.Nodup ∧ (∀ x, x ∈ G'.ids ↔ x ∈ G.ids ∨ (kd = 1 ∧ x = i)) := by
 cases hd with
 | text h hi => exact ⟨setF_tops _ _ _, by rw [setF_ids]; exact hn, fun x => by rw [setF_ids, h]; simp⟩
 | make h hi o =>
  refine ⟨putF_tops (near_at_top hn h0 o h0), o.nodup, fun x => ?_⟩
  rw [o.mem]; simp [Fo.ids, h, or_comm]
 | move h hi hw o =>
  refine ⟨?_, o.nodup, fun x => by rw [o.ids, h]; simp⟩
  unfold mvF
  rw [putF_tops (near_at_top hn h0 o.put fun x hx => h0 x (del_ids_sub i hx)), tops_del i G hit]
 | none h => exact ⟨rfl, hn, fun x => ⟨Or.inl, fun g => g.elim id fun ⟨g1, g2⟩ => by rcases h with h | h | h | h <;> first | omega | exact g2 ▸ h.2⟩⟩
end Go.Proofs.YtlkheeegkifblaaDoor.FP
namespace Go.Proofs.YtlkheeegkifblaaDoor.PL
open Go.RowKit Go.Proofs.YtlkheeegkifblaaDoor.P Go.Proofs.YtlkheeegkifblaaDoorW.PrintWords Go.Proofs.YtlkheeegkifblaaDoorW.PrintLast
def Bytes (b : List Int) : Prop := b.length ≤ 2000 ∧ ∀ x ∈ b, 0 ≤ x ∧ x ≤ 255
def Rd (p : Int) (m : Nat) : Prop := 0 ≤ p ∧ p + m ≤ 1000000
theorem Rd.less {p : Int} {m n : Nat} (h : Rd p m) (hn : n ≤ m) : Rd p n := ⟨h.1, by have := h.2; omega⟩
theorem wrap_id (x : Int) (h0 : -9223372036854775808 ≤ x) (h1 : x ≤ 9223372036854775807) : wrap64 x = x := by unfold wrap64; omega
theorem wraps_i64 (n : Int) (h0 : 0 ≤ n) (h1 : n < 2 ^ 62) : IntKind.i64.wrap n = n := by rw [IntKind.wrap_i64]; omega
theorem xor_pos (a b : Int) (ha : 0 ≤ a) (hb : 0 ≤ b) (ha' : a < 4611686018427387904) (hb' : b < 4611686018427387904) : 0 ≤ Go.bits .xor .i64 a b := by
 obtain ⟨m, rfl⟩ : ∃ m : Nat, a = m := ⟨a.toNat, by omega⟩
 obtain ⟨n, rfl⟩ : ∃ n : Nat, b = n := ⟨b.toNat, by omega⟩
 have hm : m < 2 ^ 62 := by omega
 have hn : n < 2 ^ 62 := by omega
 have e1 : m % 2 ^ 64 = m := Nat.mod_eq_of_lt (by omega)
 have e2 : n % 2 ^ 64 = n := Nat.mod_eq_of_lt (by omega)
 have hx : m ^^^ n < 2 ^ 62 := Nat.xor_lt_two_pow hm hn
 have hq : (BitVec.ofNat 64 m ^^^ BitVec.ofNat 64 n).toNat = m ^^^ n := by rw [BitVec.toNat_xor, BitVec.toNat_ofNat, BitVec.toNat_ofNat, e1, e2]
 have h2 : Go.bits .xor .i64 (m : Int) (n : Int) = IntKind.i64.wrap (((BitVec.ofNat 64 m ^^^ BitVec.ofNat 64 n).toNat : Nat) : Int) := by simp only [Go.bits, BitVec.ofInt_natCast]; rfl
 rw [h2, hq, wraps_i64 _ (by omega) (by omega)]
 omega
theorem rd_byte {b : List Int} (hb : Bytes b) (i : Int) : 0 ≤ rd b i ∧ rd b i ≤ 255 := by
 unfold rd
 rw [List.getD_eq_getElem?_getD]
 rcases Nat.lt_or_ge i.toNat b.length with h | h
 ·rw [List.getElem?_eq_getElem h]
  exact hb.2 _ (List.getElem_mem h)
 ·rw [List.getElem?_eq_none h]
  simp
theorem tmod_range (x n : Int) (hx : 0 ≤ x) (hn : 1 ≤ n) : 0 ≤ Int.tmod x n ∧ Int.tmod x n < n := by
 rw [Int.tmod_eq_emod_of_nonneg hx]
 exact ⟨Int.emod_nonneg _ (by omega), Int.emod_lt_of_pos _ (by omega)⟩
theorem pick_f (b : List Int) (p n : Int) (m : Nat) (hb : Bytes b) (hp : Rd p (m + 1)) : ∃ r : Int, Ev (fun k => spec_l6Rd_pick.f k b p n) (r, p + 1) ∧ Rd (p + 1) m ∧ 0 ≤ r ∧ (1 ≤ n → r < n) ∧ (n < 1 → r = 0) := by
 obtain ⟨h0, h1⟩ := hp
 have hR : Rd (p + 1) m := ⟨by omega, by omega⟩
 have w1 : wrap64 (p + 1) = p + 1 := wrap_id _ (by omega) (by omega)
 have w2 : wrap64 (p + 1 - 1) = p := by rw [wrap_id (p + 1 - 1) (by omega) (by omega)]; omega
 unfold spec_l6Rd_pick.f
 rw [w1]
 by_cases hn : n < 1
 ·refine ⟨0, ev_pos hn ?_, hR, Int.le_refl _, fun h => by omega, fun _ => rfl⟩
  refine Ev.step (f := fun _ => some (0, p + 1)) (fun k => ?_) (evnow _)
  simp only [spec_l6Rd_pick.j0, if_true]
 ·by_cases hl : b.length = 0
  ·refine ⟨0, ev_neg hn ?_, hR, Int.le_refl _, fun h => by omega, fun _ => rfl⟩
   refine Ev.step (f := fun _ => some (0, p + 1)) (fun k => ?_) (evnow _)
   have : ((b.length : Int) == 0) = true := by simp [hl]
   simp only [spec_l6Rd_pick.j0, this, if_true]
  ·have hf : ((b.length : Int) == 0) = false := beq_eq_false_iff_ne.2 (by omega)
   by_cases hk : p < (b.length : Int)
   ·have hx := rd_byte hb p
    have hr := tmod_range (wrap64 (rd b p)) n (by rw [wrap_id (rd b p) (by omega) (by omega)]; omega) (by omega)
    refine ⟨Int.tmod (wrap64 (rd b p)) n, ev_neg hn ?_, hR, hr.1, fun _ => hr.2, fun h => absurd h hn⟩
    refine Ev.step (f := fun _ => some (Int.tmod (wrap64 (rd b p)) n, p + 1)) (fun k => ?_) (evnow _)
    simp only [spec_l6Rd_pick.j0, hf, Bool.false_eq_true, if_false, w2]
    rw [if_pos hk, if_pos h0, if_neg (show ¬ n = 0 by omega)]
   ·have hlen : (1 : Int) ≤ b.length := by omega
    have m1 := tmod_range p b.length h0 hlen
    have e7 : wrap64 (p * 7) = p * 7 := wrap_id _ (by omega) (by omega)
    have e73 : wrap64 (p * 7 + 3) = p * 7 + 3 := wrap_id _ (by omega) (by omega)
    have m2 := tmod_range (p * 7 + 3) b.length (by omega) hlen
    have x1 := rd_byte hb (Int.tmod p b.length)
    have x2 := rd_byte hb (Int.tmod (p * 7 + 3) b.length)
    have d1 : 0 ≤ Int.tdiv p b.length ∧ Int.tdiv p b.length ≤ 1000000 := by
     rw [Int.tdiv_eq_ediv_of_nonneg h0]
     exact ⟨Int.ediv_nonneg h0 (by omega), Int.le_trans (Int.ediv_le_self _ h0) (by omega)⟩
    obtain ⟨r, hr⟩ : ∃ r, r = Int.tmod (Go.bits .xor .i64 (wrap64 ((wrap64 ((wrap64 ((wrap64 ((wrap64 (rd b (Int.tmod p (b.length : Int)))) * 131)) + (wrap64 ((wrap64 (rd b (Int.tmod (p * 7 + 3) (b.length : Int)))) * 1117)))) + (wrap64 (p * 29)))) + (wrap64 ((wrap64 (Int.tdiv p (b.length : Int))) * 53)))) (wrap64 (Int.tdiv (wrap64 ((wrap64 ((wrap64 ((wrap64 ((wrap64 (rd b (Int.tmod p (b.length : Int)))) * 131)) + (wrap64 ((wrap64 (rd b (Int.tmod (p * 7 + 3) (b.length : Int)))) * 1117)))) + (wrap64 (p * 29)))) + (wrap64 ((wrap64 (Int.tdiv p (b.length : Int))) * 53)))) 64))) n := ⟨_, rfl⟩
    have hrr : 0 ≤ r ∧ r < n := by
     rw [hr]
     refine tmod_range _ n ?_ (by omega)
     generalize rd b (Int.tmod p (b.length : Int)) = u at x1
     generalize rd b (Int.tmod (p * 7 + 3) (b.length : Int)) = v at x2
     generalize Int.tdiv p (b.length : Int) = d at d1
     rw [wrap_id u (by omega) (by omega), wrap_id v (by omega) (by omega), wrap_id d (by omega) (by omega)]
     rw [wrap_id (u * 131) (by omega) (by omega), wrap_id (v * 1117) (by omega) (by omega), wrap_id (p * 29) (by omega) (by omega), wrap_id (d * 53) (by omega) (by omega)]
     rw [wrap_id (u * 131 + v * 1117) (by omega) (by omega)]
     rw [wrap_id (u * 131 + v * 1117 + p * 29) (by omega) (by omega)]
     rw [wrap_id (u * 131 + v * 1117 + p * 29 + d * 53) (by omega) (by omega)]
     have hs : Int.tdiv (u * 131 + v * 1117 + p * 29 + d * 53) 64 = (u * 131 + v * 1117 + p * 29 + d * 53) / 64 := Int.tdiv_eq_ediv_of_nonneg (by omega)
     rw [hs, wrap_id _ (by omega) (by omega)]
     exact xor_pos _ _ (by omega) (by omega) (by omega) (by omega)
    refine ⟨r, ev_neg hn ?_, hR, hrr.1, fun _ => hrr.2, fun h => absurd h hn⟩
    refine Ev.step (f := fun _ => some (r, p + 1)) (fun k => ?_) (evnow _)
    simp only [spec_l6Rd_pick.j0, hf, Bool.false_eq_true, if_false, w2, e7, e73]
    rw [if_neg hk, if_neg (show ¬ (b.length : Int) = 0 by omega), if_pos m1.1, if_pos m1.2, if_pos m2.1, if_pos m2.2, if_neg (show ¬ n = 0 by omega), hr]
theorem rdR_get (t : List S37) (i : Nat) (h : i < t.length) : rd_T37 t i = t[i] := by
 unfold rd_T37
 rw [List.getD_eq_getElem?_getD, show ((i : Int)).toNat = i from rfl, List.getElem?_eq_getElem h]
 rfl
def atFrom (id : Int) : List S37 → Nat → Int
 | [], _ => -1
 | r :: rest, i => if r.f0 = id then (i : Int) else atFrom id rest (i + 1)
def atI (t : List S37) (id : Int) : Int := atFrom id t 0
theorem at_l0 (t : List S37) (id : Int) (hl : t.length ≤ 1099511627776) : ∀ (n i : Nat), i + n = t.length → Ev (fun k => spec_l2At.l0 k t id i) (atFrom id (t.drop i) i)
 | 0, i, h => by
  rw [List.drop_eq_nil_of_le (by omega)]
  refine Ev.step (f := fun _ => some (-1)) (fun k => ?_) (evnow _)
  simp only [spec_l2At.l0]; rw [if_neg (by omega)]
 | n + 1, i, h => by
  have hi : i < t.length := by omega
  rw [List.drop_eq_getElem_cons hi]
  unfold atFrom
  by_cases hq : t[i].f0 = id
  ·rw [if_pos hq]
   refine Ev.step (f := fun _ => some (i : Int)) (fun k => ?_) (evnow _)
   simp only [spec_l2At.l0]
   rw [if_pos (by omega), if_pos (by omega), rdR_get t i hi, if_pos hq]
  ·rw [if_neg hq]
   refine Ev.step (fun k => ?_) (at_l0 t id hl n (i + 1) (by omega))
   simp only [spec_l2At.l0]
   rw [if_pos (by omega), if_pos (by omega), rdR_get t i hi, if_neg hq, wrapS i (by omega) (by omega)]
   rfl
theorem at_f (t : List S37) (id : Int) (hl : t.length ≤ 1099511627776) : Ev (fun k => spec_l2At.f k t id) (atI t id) := at_l0 t id hl t.length 0 (by omega)
theorem atFrom_spec (id : Int) : ∀ (t : List S37) (i : Nat), (atFrom id t i = -1 ∧ ∀ x ∈ t, x.f0 ≠ id) ∨ ∃ (j : Nat) (h : j < t.length), atFrom id t i = ((i + j : Nat) : Int) ∧ t[j].f0 = id
 | [], i => Or.inl ⟨rfl, fun x hx => by cases hx⟩
 | r :: rest, i => by
  unfold atFrom
  by_cases hq : r.f0 = id
  ·rw [if_pos hq]
   exact Or.inr ⟨0, by simp, by simp, hq⟩
  ·rw [if_neg hq]
   rcases atFrom_spec id rest (i + 1) with ⟨h1, h2⟩ | ⟨j, h, h1, h2⟩
   ·refine Or.inl ⟨h1, fun x hx => ?_⟩
    rcases List.mem_cons.1 hx with rfl | hx
    ·exact hq
    ·exact h2 x hx
   ·exact Or.inr ⟨j + 1, by simp; omega, by rw [h1]; congr 1; omega, by simpa using h2⟩
theorem atI_spec (t : List S37) (id : Int) : (atI t id = -1 ∧ ∀ x ∈ t, x.f0 ≠ id) ∨ ∃ (j : Nat) (h : j < t.length), atI t id = (j : Int) ∧ t[j].f0 = id := by
 rcases atFrom_spec id t 0 with h | ⟨j, h, h1, h2⟩
 ·exact Or.inl h
 ·exact Or.inr ⟨j, h, by rw [atI, h1]; congr 1; omega, h2⟩
theorem atI_mem {t : List S37} {id : Int} {x : S37} (hx : x ∈ t) (h : x.f0 = id) : ∃ (j : Nat) (hj : j < t.length), atI t id = (j : Int) ∧ t[j].f0 = id := by
 rcases atI_spec t id with ⟨_, h2⟩ | h2
 ·exact absurd h (h2 x hx)
 ·exact h2
def endFrom (d : Int) : List S37 → Nat → Nat
 | [], e => e
 | r :: rest, e => if r.f1 > d then endFrom d rest (e + 1) else e
def endI (t : List S37) (i : Nat) : Nat := endFrom (t.getD i z37).f1 (t.drop (i + 1)) (i + 1)
theorem getD_get (t : List S37) (i : Nat) (h : i < t.length) : t.getD i z37 = t[i] := by
 rw [List.getD_eq_getElem?_getD, List.getElem?_eq_getElem h]
 rfl
theorem end_l0 (t : List S37) (a : Nat) (ha : a < t.length) (hl : t.length ≤ 1099511627776) : ∀ (n i : Nat), i + n = t.length → Ev (fun k => spec_l2End.l0 k t a i) (endFrom t[a].f1 (t.drop i) i : Int)
 | 0, i, h => by
  rw [List.drop_eq_nil_of_le (by omega)]
  refine Ev.step (f := fun _ => some (i : Int)) (fun k => ?_) (evnow _)
  simp only [spec_l2End.l0]; rw [if_neg (by omega)]
 | n + 1, i, h => by
  have hi : i < t.length := by omega
  rw [List.drop_eq_getElem_cons hi]
  unfold endFrom
  by_cases hq : t[i].f1 > t[a].f1
  ·rw [if_pos hq]
   refine Ev.step (fun k => ?_) (end_l0 t a ha hl n (i + 1) (by omega))
   simp only [spec_l2End.l0]
   rw [if_pos (by omega), if_pos (by omega), if_pos (by omega), if_pos (by omega), rdR_get t i hi, rdR_get t a ha, if_pos hq, wrapS i (by omega) (by omega)]
   rfl
  ·rw [if_neg hq]
   refine Ev.step (f := fun _ => some (i : Int)) (fun k => ?_) (evnow _)
   simp only [spec_l2End.l0]
   rw [if_pos (by omega), if_pos (by omega), if_pos (by omega), if_pos (by omega), rdR_get t i hi, rdR_get t a ha, if_neg hq]
theorem end_f (t : List S37) (a : Nat) (ha : a < t.length) (hl : t.length ≤ 1099511627776) : Ev (fun k => spec_l2End.f k t a) (endI t a : Int) := by
 have := end_l0 t a ha hl (t.length - (a + 1)) (a + 1) (by omega)
 unfold endI
 rw [getD_get t a ha]
 refine Ev.congr (fun k => ?_) this
 unfold spec_l2End.f
 rw [wrapS a (by omega) (by omega)]
 rfl
theorem endFrom_spec (d : Int) : ∀ (t : List S37) (e : Nat), e ≤ endFrom d t e ∧ endFrom d t e ≤ e + t.length ∧ (∀ (j : Nat) (hj : j < t.length), e + j < endFrom d t e → d < t[j].f1) ∧ (∀ (hj : endFrom d t e - e < t.length), t[endFrom d t e - e].f1 ≤ d)
 | [], e => ⟨Nat.le_refl _, by simp [endFrom], fun j hj => by simp at hj, fun hj => by simp at hj⟩
 | r :: rest, e => by
  by_cases hq : r.f1 > d
  ·have he : endFrom d (r :: rest) e = endFrom d rest (e + 1) := if_pos hq
   obtain ⟨h1, h2, h3, h4⟩ := endFrom_spec d rest (e + 1)
   refine ⟨by rw [he]; omega, by rw [he]; simp; omega, fun j hj hlt => ?_, fun hj => ?_⟩
   ·rw [he] at hlt
    cases j with
    | zero => exact hq
    | succ j => exact h3 j (by simpa using hj) (by omega)
   ·have e1 : endFrom d (r :: rest) e - e = (endFrom d rest (e + 1) - (e + 1)) + 1 := by rw [he]; omega
    have hj' : endFrom d rest (e + 1) - (e + 1) < rest.length := by rw [e1] at hj; simpa using hj
    have := h4 hj'
    simp only [e1, List.getElem_cons_succ]
    exact this
  ·have he : endFrom d (r :: rest) e = e := if_neg hq
   refine ⟨by rw [he]; exact Nat.le_refl _, by rw [he]; omega, fun j hj hlt => by rw [he] at hlt; omega, fun hj => ?_⟩
   have e1 : endFrom d (r :: rest) e - e = 0 := by rw [he]; omega
   simp only [e1, List.getElem_cons_zero]
   omega
theorem endI_spec (t : List S37) (a : Nat) (ha : a < t.length) : a < endI t a ∧ endI t a ≤ t.length ∧ (∀ (j : Nat) (hj : j < t.length), a < j → j < endI t a → t[a].f1 < t[j].f1) ∧ (∀ (hj : endI t a < t.length), t[endI t a].f1 ≤ t[a].f1) := by
 unfold endI
 rw [getD_get t a ha]
 obtain ⟨h1, h2, h3, h4⟩ := endFrom_spec t[a].f1 (t.drop (a + 1)) (a + 1)
 rw [List.length_drop] at h2
 refine ⟨by omega, by omega, fun j hj h5 h6 => ?_, fun hj => ?_⟩
 ·have := h3 (j - (a + 1)) (by rw [List.length_drop]; omega) (by omega)
  rw [List.getElem_drop] at this
  simpa [show a + 1 + (j - (a + 1)) = j by omega] using this
 ·have := h4 (by rw [List.length_drop]; omega)
  rw [List.getElem_drop] at this
  simpa [show a + 1 + (endFrom t[a].f1 (t.drop (a + 1)) (a + 1) - (a + 1)) = endFrom t[a].f1 (t.drop (a + 1)) (a + 1) by omega] using this
def KidOf (t : List S37) (a i : Nat) (x : Int) : Prop := ∃ (ha : a < t.length) (j : Nat) (hj : j < t.length), i ≤ j ∧ j < endI t a ∧ t[j].f0 = x ∧ t[j].f1 = wrap64 (t[a].f1 + 1)
theorem kids_l0 (t : List S37) (a : Nat) (ha : a < t.length) (hl : t.length ≤ 1099511627776) : ∀ (n i : Nat) (acc : List Int), i + n = endI t a → acc.length + n ≤ 1099511627776 →
  ∃ r : List Int, Ev (fun k => spec_l2Kids.l0 k t acc a i) (acc ++ r) ∧ r.length ≤ n ∧ ∀ x ∈ r, KidOf t a i x
 | 0, i, acc, h, hacc => by
  refine ⟨[], ?_, by simp, fun x hx => by cases hx⟩
  rw [List.append_nil]
  refine Ev.step (fun k => by simp only [spec_l2Kids.l0]; rfl) ?_
  refine Ev.bind (end_f t a ha hl) ?_
  refine ev_neg (by omega) ?_
  exact evnow _
 | n + 1, i, acc, h, hacc => by
  obtain ⟨e1, e2, _, _⟩ := endI_spec t a ha
  have hi : i < t.length := by omega
  by_cases hq : t[i].f1 = wrap64 (t[a].f1 + 1)
  ·obtain ⟨r, hr, hlen, hk⟩ := kids_l0 t a ha hl n (i + 1) (acc ++ [t[i].f0]) (by omega) (by simp; omega)
   refine ⟨t[i].f0 :: r, ?_, by simp; omega, fun x hx => ?_⟩
   ·rw [List.append_assoc] at hr
    refine Ev.step (fun k => by simp only [spec_l2Kids.l0]; rfl) ?_
    refine Ev.bind (end_f t a ha hl) ?_
    refine ev_pos (by omega) (ev_pos (by omega) (ev_pos (by omega) (ev_pos (by omega) (ev_pos (by omega) ?_))))
    rw [rdR_get t i hi, rdR_get t a ha, wrapS i (by omega) (by omega)]
    refine ev_pos hq (ev_pos (by omega) ?_)
    exact hr
   ·rcases List.mem_cons.1 hx with rfl | hx
    ·exact ⟨ha, i, hi, Nat.le_refl _, by omega, rfl, hq⟩
    ·obtain ⟨h1, j, hj, h2, h3, h4, h5⟩ := hk x hx
     exact ⟨h1, j, hj, by omega, h3, h4, h5⟩
  ·obtain ⟨r, hr, hlen, hk⟩ := kids_l0 t a ha hl n (i + 1) acc (by omega) (by omega)
   refine ⟨r, ?_, by omega, fun x hx => ?_⟩
   ·refine Ev.step (fun k => by simp only [spec_l2Kids.l0]; rfl) ?_
    refine Ev.bind (end_f t a ha hl) ?_
    refine ev_pos (by omega) (ev_pos (by omega) (ev_pos (by omega) (ev_pos (by omega) (ev_pos (by omega) ?_))))
    rw [rdR_get t i hi, rdR_get t a ha, wrapS i (by omega) (by omega)]
    refine ev_neg hq ?_
    exact hr
   ·obtain ⟨h1, j, hj, h2, h3, h4, h5⟩ := hk x hx
    exact ⟨h1, j, hj, by omega, h3, h4, h5⟩
theorem kids_f (t : List S37) (id : Int) (hl : t.length ≤ 1000000) : ∃ r : List Int, Ev (fun k => spec_l2Kids.f k t id) r ∧ r.length ≤ t.length ∧ ∀ x ∈ r, ∃ a : Nat, atI t id = (a : Int) ∧ KidOf t a (a + 1) x := by
 unfold spec_l2Kids.f
 simp only [Option.bind_some]
 rcases atI_spec t id with ⟨h1, _⟩ | ⟨a, ha, h1, _⟩
 ·refine ⟨[], ?_, by simp, fun x hx => by cases hx⟩
  refine Ev.bind (at_f t id (by omega)) ?_
  rw [h1]
  exact ev_pos (by omega) (evnow _)
 ·obtain ⟨e1, e2, _, _⟩ := endI_spec t a ha
  obtain ⟨r, hr, hlen, hk⟩ := kids_l0 t a ha (by omega) (endI t a - (a + 1)) (a + 1) [] (by omega) (by simp; omega)
  refine ⟨r, ?_, by omega, fun x hx => ⟨a, h1, hk x hx⟩⟩
  refine Ev.bind (at_f t id (by omega)) ?_
  rw [h1]
  refine ev_neg (by omega) ?_
  rw [wrapS a (by omega) (by omega)]
  exact hr
def shift (d : Int) (r : S37) : S37 := ⟨r.f0, wrap64 (r.f1 + d), r.f2⟩
theorem put_l0 (t rows : List S37) (d : Int) (p : Nat) (hp : p ≤ t.length) (hl : t.length ≤ 1000000) (hr : rows.length ≤ 1000000) : ∀ (n i : Nat) (acc : List S37), i + n = rows.length → acc.length + n ≤ 3000000 →
  Ev (fun k => spec_l3Put.l0 k t rows d p acc i) (acc ++ (rows.drop i).map (shift d) ++ t.drop p)
 | 0, i, acc, h, ha => by
  rw [List.drop_eq_nil_of_le (show rows.length ≤ i by omega), List.map_nil, List.append_nil]
  refine Ev.step (fun k => by simp only [spec_l3Put.l0]; rfl) ?_
  refine ev_neg (by omega) (ev_pos (by omega) (ev_pos (by omega) ?_))
  simp only [Option.bind_some]
  refine ev_pos (by rw [List.length_drop]; omega) ?_
  exact evnow _
 | n + 1, i, acc, h, ha => by
  have hi : i < rows.length := by omega
  rw [List.drop_eq_getElem_cons hi, List.map_cons]
  have ih := put_l0 t rows d p hp hl hr n (i + 1) (acc ++ [shift d rows[i]]) (by omega) (by simp; omega)
  rw [List.append_assoc acc] at ih
  refine Ev.step (fun k => by simp only [spec_l3Put.l0]; rfl) ?_
  refine ev_pos (by omega) (ev_pos (by omega) (ev_pos (by omega) ?_))
  rw [rdR_get rows i hi, wrapS i (by omega) (by omega)]
  exact ih
theorem put_f (t rows : List S37) (u a : Int) (hl : t.length ≤ 1000000) (hr : rows.length ≤ 1000000) (h0 : 0 < rows.length) (hu : ∃ x ∈ t, x.f0 = u) (ha : a > 0 → ∃ x ∈ t, x.f0 = a) :
  ∃ (y : S37) (p : Nat), y ∈ t ∧ y.f0 = u ∧ p ≤ t.length ∧ Ev (fun k => spec_l3Put.f k t rows u a) (t.take p ++ rows.map (shift (wrap64 (wrap64 (y.f1 + 1) - rows[0].f1))) ++ t.drop p) := by
 obtain ⟨x, hx, hxu⟩ := hu
 obtain ⟨j, hj, e1, e2⟩ := atI_mem hx hxu
 have fin : ∀ (p : Nat), p ≤ t.length → Ev (fun k => spec_l3Put.j0 k t rows (wrap64 (wrap64 (t[j].f1 + 1) - rows[0].f1)) p) (t.take p ++ rows.map (shift (wrap64 (wrap64 (t[j].f1 + 1) - rows[0].f1))) ++ t.drop p) := fun p hp => by
  refine Ev.step (fun k => by simp only [spec_l3Put.j0]; rfl) ?_
  simp only [Option.bind_some]
  refine ev_pos (by omega) (ev_pos (by omega) ?_)
  refine ev_pos (by simp; omega) ?_
  simp only [List.nil_append, Int.toNat_natCast]
  have := put_l0 t rows (wrap64 (wrap64 (t[j].f1 + 1) - rows[0].f1)) p hp hl hr rows.length 0 (t.take p) (by omega) (by rw [List.length_take]; omega)
  simpa using this
 have r0 : rd_T37 rows 0 = rows[0] := rdR_get rows 0 h0
 by_cases h : a > 0
 ·obtain ⟨x2, hx2, hxa⟩ := ha h
  obtain ⟨i, hi, e3, e4⟩ := atI_mem hx2 hxa
  obtain ⟨_, e5, _, _⟩ := endI_spec t i hi
  refine ⟨t[j], endI t i, List.getElem_mem hj, e2, e5, ?_⟩
  unfold spec_l3Put.f
  refine Ev.bind (at_f t u (by omega)) ?_
  rw [e1]
  refine ev_pos (by omega) (ev_pos (by omega) (ev_pos (by omega) (ev_pos h ?_)))
  refine Ev.bind (at_f t a (by omega)) ?_
  rw [e3]
  refine Ev.bind (end_f t i hi (by omega)) ?_
  rw [rdR_get t j hj, r0]
  exact fin _ e5
 ·refine ⟨t[j], j + 1, List.getElem_mem hj, e2, by omega, ?_⟩
  unfold spec_l3Put.f
  refine Ev.bind (at_f t u (by omega)) ?_
  rw [e1]
  refine ev_pos (by omega) (ev_pos (by omega) (ev_pos (by omega) (ev_neg h ?_)))
  rw [rdR_get t j hj, r0, wrapS j (by omega) (by omega)]
  exact fin (j + 1) (by omega)
theorem under_f (t : List S37) (u id : Int) (k : Nat) (hk : k < t.length) (hi : atI t id = (k : Int)) (hl : t.length ≤ 1000000) :
  Ev (fun n => spec_l2Under.f n t u id) (decide (0 ≤ atI t u) && (decide ((k : Int) ≤ atI t u) && decide (atI t u ≤ (endI t k : Int) - 1))) := by
 obtain ⟨e1, e2, _, _⟩ := endI_spec t k hk
 unfold spec_l2Under.f
 refine Ev.bind (at_f t u (by omega)) ?_
 refine Ev.bind (at_f t id (by omega)) ?_
 rw [hi]
 by_cases h : atI t u ≥ 0
 ·refine ev_pos h (ev_pos (by omega) ?_)
  refine Ev.bind (end_f t k hk (by omega)) ?_
  have hw : wrap64 ((endI t k : Int) - 1) = (endI t k : Int) - 1 := by unfold wrap64; omega
  rw [hw, in_f, decide_eq_true (show 0 ≤ atI t u from h), Bool.true_and]
  simp only [Option.bind_some]
  exact evnow _
 ·rw [decide_eq_false (show ¬ 0 ≤ atI t u from h), Bool.false_and]
  exact ev_neg h (evnow _)
theorem where_l0 (u : Int) (ks : List Int) (kd id up at_ : Int) (s : ByteArray) (hl : ks.length ≤ 1000000) : ∀ (n i : Nat) (a : Int), i + n = ks.length → (a > 0 → a ∈ ks ∧ a ≠ id) → ∃ a' : Int, Ev (fun k => spec_l3Where.l0 k u a ks i kd id up at_ s) (u, a', true) ∧ (a' > 0 → a' ∈ ks ∧ a' ≠ id)
 | 0, i, a, h, ha => ⟨a, by
   refine Ev.step (fun k => by simp only [spec_l3Where.l0]; rfl) ?_
   exact ev_neg (by omega) (evnow _), ha⟩
 | n + 1, i, a, h, ha => by
  have hi : i < ks.length := by omega
  have hrd : rd ks i = ks[i] := by
   unfold rd
   rw [List.getD_eq_getElem?_getD, show ((i : Int)).toNat = i from rfl, List.getElem?_eq_getElem hi]
   rfl
  by_cases hq : ks[i] = at_ ∧ at_ ≠ id
  ·obtain ⟨a', h1, h2⟩ := where_l0 u ks kd id up at_ s hl n (i + 1) at_ (by omega) (fun _ => ⟨hq.1 ▸ List.getElem_mem hi, hq.2⟩)
   refine ⟨a', ?_, h2⟩
   refine Ev.step (fun k => by simp only [spec_l3Where.l0]; rfl) ?_
   rw [hrd, wrapS i (by omega) (by omega)]
   exact ev_pos (by omega) (ev_pos (by omega) (ev_pos hq.1 (ev_neg hq.2 h1)))
  ·obtain ⟨a', h1, h2⟩ := where_l0 u ks kd id up at_ s hl n (i + 1) a (by omega) ha
   refine ⟨a', ?_, h2⟩
   refine Ev.step (fun k => by simp only [spec_l3Where.l0]; rfl) ?_
   rw [hrd, wrapS i (by omega) (by omega)]
   refine ev_pos (by omega) (ev_pos (by omega) ?_)
   by_cases h3 : ks[i] = at_
   ·refine ev_pos h3 (ev_pos ?_ h1)
    by_cases h4 : at_ = id
    ·exact h4
    ·exact absurd ⟨h3, h4⟩ hq
   ·exact ev_neg h3 h1
structure Inv (t : List S37) (B : Int) : Prop where
 deep : ∀ x ∈ t, 0 ≤ x.f1 ∧ x.f1 ≤ B
 root : ∀ x ∈ t, x.f0 = 3 → x.f1 = 0
 found : ∃ x ∈ t, x.f0 = 3
 ids : ∀ x ∈ t, I64 x.f0 ∧ x.f2.size ≤ 2000
def Fits (t : List S37) (kd id : Int) (u a : Int) : Prop :=
 kd ≠ 2 ∧ (kd ≠ 3 → atI t id = -1) ∧ (kd = 3 → ∃ k : Nat, k < t.length ∧ atI t id = (k : Int)) ∧
 ∃ (p : Nat) (hp : p < t.length), t[p].f0 = u ∧ (a > 0 → ∃ (q : Nat) (hq : q < t.length), t[q].f0 = a ∧ ∀ k : Nat, kd = 3 → atI t id = (k : Int) → ¬ (k ≤ q ∧ q < endI t k)) ∧
  ∀ k : Nat, kd = 3 → atI t id = (k : Int) → ¬ (k ≤ p ∧ p < endI t k)
theorem where_f (t : List S37) (B kd id up at_ : Int) (s : ByteArray) (hI : Inv t B) (hB : B ≤ 1099511627776) (hid : id ≠ 3) (hl : t.length ≤ 1000000) :
  ∃ (u a : Int) (ok : Bool), Ev (fun n => spec_l3Where.f n t kd id up at_ s) (u, a, ok) ∧ (ok = true → Fits t kd id u a) := by
 have none_ : ∀ f : Nat → Option (Int × Int × Bool), (∀ n, f n = spec_l3Where.j0 n t true kd id up at_ s) → Ev f (0, 0, false) := fun f hf =>
  Ev.congr hf (Ev.step (f := fun _ => some (0, 0, false)) (fun n => by simp only [spec_l3Where.j0, if_true]) (evnow _))
 unfold spec_l3Where.f
 by_cases h2 : kd = 2
 ·exact ⟨0, 0, false, Ev.bind (at_f t id (by omega)) (ev_pos h2 (none_ _ (fun n => rfl))), fun h => by cases h⟩
 ·by_cases h3 : ((decide (atI t id ≥ 0)) != (kd == 3)) = true
  ·exact ⟨0, 0, false, Ev.bind (at_f t id (by omega)) (ev_neg h2 (ev_pos h3 (none_ _ (fun n => rfl)))), fun h => by cases h⟩
  ·have h3' : decide (atI t id ≥ 0) = (kd == 3) := by simpa using h3
   -- the rest: 'up' is there, or it isn't
   have rest : (∀ (p k : Nat), atI t up = (p : Int) → kd = 3 → atI t id = (k : Int) → ¬ (k ≤ p ∧ p < endI t k)) → ∃ (u a : Int), Ev (fun n => spec_l3Where.j0 n t false kd id up at_ s) (u, a, true) ∧ Fits t kd id u a := by
    intro hout
    have c1 : kd ≠ 3 → atI t id = -1 := fun hk => by
     have : (kd == 3) = false := beq_eq_false_iff_ne.2 hk
     rw [this] at h3'
     have h4 := of_decide_eq_false h3'
     rcases atI_spec t id with ⟨h5, _⟩ | ⟨j, hj, h5, _⟩
     ·exact h5
     ·omega
    have c2 : kd = 3 → ∃ k : Nat, k < t.length ∧ atI t id = (k : Int) := fun hk => by
     have : (kd == 3) = true := beq_iff_eq.2 hk
     rw [this] at h3'
     have h4 := of_decide_eq_true h3'
     rcases atI_spec t id with ⟨h5, _⟩ | ⟨j, hj, h5, _⟩
     ·omega
     ·exact ⟨j, hj, h5⟩
    rcases atI_spec t up with ⟨h5, _⟩ | ⟨p, hp, h5, h6⟩
    ·obtain ⟨x, hx, hx3⟩ := hI.found
     obtain ⟨p, hp, rfl⟩ := List.getElem_of_mem hx
     refine ⟨3, 0, ?_, h2, c1, c2, p, hp, hx3, fun h => by omega, fun k hk hik hin => ?_⟩
     ·refine Ev.step (fun n => by simp only [spec_l3Where.j0]; rfl) ?_
      refine ev_neg (by decide) ?_
      refine Ev.bind (at_f t up (by omega)) ?_
      exact ev_pos (by omega) (evnow _)
     ·obtain ⟨k', hk', e⟩ := c2 hk
      obtain rfl : k' = k := by omega
      rcases Nat.eq_or_lt_of_le hin.1 with e6 | e6
      ·subst e6
       rcases atI_spec t id with ⟨h7, _⟩ | ⟨j, hj, h7, h8⟩
       ·omega
       ·obtain rfl : j = k' := by omega
        exact hid (h8.symm.trans hx3)
      ·have := (endI_spec t k' hk').2.2.1 p hp e6 hin.2
       have d1 := (hI.deep _ (List.getElem_mem hk')).1
       have d2 := hI.root _ hx hx3
       omega
    ·obtain ⟨ks, hks, hkl, hkk⟩ := kids_f t up hl
     obtain ⟨a, ha, hak⟩ := where_l0 up ks kd id up at_ s (by omega) ks.length 0 0 (by omega) (fun h => by omega)
     refine ⟨up, a, ?_, h2, c1, c2, p, hp, h6, fun hpos => ?_, fun k hk hik => hout p k h5 hk hik⟩
     ·refine Ev.step (fun n => by simp only [spec_l3Where.j0]; rfl) ?_
      refine ev_neg (by decide) ?_
      refine Ev.bind (at_f t up (by omega)) ?_
      refine ev_neg (by omega) ?_
      exact Ev.bind hks ha
     ·obtain ⟨hmem, hne⟩ := hak hpos
      obtain ⟨p', hp', hpl, q, hq, hq1, hq2, hq3, hq4⟩ := hkk a hmem
      obtain rfl : p' = p := by omega
      refine ⟨q, hq, hq3, fun k hk hik hin => ?_⟩
      obtain ⟨k', hk', e⟩ := c2 hk
      obtain rfl : k' = k := by omega
      have out := hout p' k' h5 hk hik
      have hkq : k' ≠ q := by
       rintro rfl
       rcases atI_spec t id with ⟨h7, _⟩ | ⟨j, hj, h7, h8⟩
       ·omega
       ·obtain rfl : j = k' := by omega
        exact hne (hq3.symm.trans h8)
      have dq := (endI_spec t k' hk').2.2.1 q hq (by omega) hin.2
      have dB := hI.deep _ (List.getElem_mem hp)
      have hw : wrap64 (t[p'].f1 + 1) = t[p'].f1 + 1 := wrap_id _ (by omega) (by omega)
      rw [hw] at hq4
      rcases Nat.lt_or_ge p' k' with h9 | h9
      ·have := (endI_spec t p' hp).2.2.1 k' hk' h9 (by omega)
       omega
      ·exact out ⟨h9, by omega⟩
   by_cases h4 : atI t id ≥ 0
   ·have h33 : kd = 3 := by
     rw [decide_eq_true h4] at h3'
     exact beq_iff_eq.1 h3'.symm
    rcases atI_spec t id with ⟨h5, _⟩ | ⟨k, hk, h5, h6⟩
    ·omega
    have hu := under_f t up id k hk h5 hl
    cases hd : (decide (0 ≤ atI t up) && (decide ((k : Int) ≤ atI t up) && decide (atI t up ≤ (endI t k : Int) - 1))) with
    | true =>
     rw [hd] at hu
     exact ⟨0, 0, false, Ev.bind (at_f t id (by omega)) (ev_neg h2 (ev_neg h3 (ev_pos h4 (Ev.bind hu (none_ _ (fun n => rfl)))))), fun h => by cases h⟩
    | false =>
     rw [hd] at hu
     obtain ⟨u, a, h7, h8⟩ := rest (fun p k2 hp _ hk2 hin => by
      obtain rfl : k2 = k := by omega
      have : (decide (0 ≤ atI t up) && (decide ((k2 : Int) ≤ atI t up) && decide (atI t up ≤ (endI t k2 : Int) - 1))) = true := by
       simp only [Bool.and_eq_true, decide_eq_true_eq]
       omega
      rw [this] at hd
      cases hd)
     exact ⟨u, a, true, Ev.bind (at_f t id (by omega)) (ev_neg h2 (ev_neg h3 (ev_pos h4 (Ev.bind hu h7)))), fun _ => h8⟩
   ·obtain ⟨u, a, h7, h8⟩ := rest (fun p k2 hp _ hk2 hin => by omega)
    exact ⟨u, a, true, Ev.bind (at_f t id (by omega)) (ev_neg h2 (ev_neg h3 (ev_neg h4 h7))), fun _ => h8⟩
theorem mem_rest {t : List S37} {k e j : Nat} (hj : j < t.length) (h : ¬ (k ≤ j ∧ j < e)) (hk : k ≤ e) : t[j] ∈ t.take k ++ t.drop e := by
 rcases Nat.lt_or_ge j k with h1 | h1
 ·exact List.mem_append_left _ (List.mem_take_iff_getElem.2 ⟨j, by omega, rfl⟩)
 ·exact List.mem_append_right _ (List.mem_drop_iff_getElem.2 ⟨j - e, by omega, by congr 1; omega⟩)
theorem rest_mem {t : List S37} {k e : Nat} {x : S37} (h : x ∈ t.take k ++ t.drop e) : x ∈ t := by
 rcases List.mem_append.1 h with h | h
 ·exact List.mem_of_mem_take h
 ·exact List.mem_of_mem_drop h
theorem Inv.more {t : List S37} {B C : Int} (h : Inv t B) (hc : B ≤ C) : Inv t C := ⟨fun x hx => ⟨(h.deep x hx).1, Int.le_trans (h.deep x hx).2 hc⟩, h.root, h.found, h.ids⟩
theorem do_f (t : List S37) (B kd id up at_ : Int) (s : ByteArray) (hI : Inv t B) (hB0 : 0 ≤ B) (hB : B ≤ 1099511627776) (hk : kd = 1 ∨ kd = 2 ∨ kd = 3) (hid : id ≠ 3) (hid64 : I64 id) (hl : t.length ≤ 100000) (hs : s.size ≤ 2000) :
  ∃ t' : List S37, Ev (fun n => spec_l3Do.f n t kd id up at_ s) t' ∧ Inv t' (2 * B + 1) ∧ (t'.length ≤ t.length + 1 ∧ t.length ≤ t'.length) := by
 have same : ∀ y : List S37, y = t → Inv y (2 * B + 1) ∧ (y.length ≤ t.length + 1 ∧ t.length ≤ y.length) := fun y hy => by
  subst hy
  exact ⟨hI.more (by omega), by omega⟩
 unfold spec_l3Do.f
 by_cases h2 : kd = 2
 ·rcases atI_spec t id with ⟨h5, _⟩ | ⟨k, hk', h5, h6⟩
  ·refine ⟨[] ++ t, Ev.bind (at_f t id (by omega)) (ev_pos h2 ?_), same _ (by simp)⟩
   simp only [Option.bind_some]
   refine ev_pos (by simp; omega) ?_
   rw [h5]
   exact ev_neg (by omega) (evnow _)
  ·refine ⟨t.set k ⟨t[k].f0, t[k].f1, s⟩, Ev.bind (at_f t id (by omega)) (ev_pos h2 ?_), ?_, by rw [List.length_set]; omega⟩
   ·simp only [Option.bind_some]
    refine ev_pos (by simp; omega) ?_
    rw [h5]
    simp only [List.nil_append, Int.toNat_natCast, rdR_get t k hk']
    exact ev_pos (by omega) (ev_pos (by omega) (ev_pos (by omega) (evnow _)))
   ·have hm : ∀ x ∈ t.set k ⟨t[k].f0, t[k].f1, s⟩, ∃ y ∈ t, x.f0 = y.f0 ∧ x.f1 = y.f1 ∧ (x.f2 = s ∨ x.f2 = y.f2) := fun x hx => by
     obtain ⟨i, hi, rfl⟩ := List.getElem_of_mem hx
     rw [List.length_set] at hi
     rw [List.getElem_set]
     split
     ·exact ⟨t[k], List.getElem_mem hk', rfl, rfl, Or.inl rfl⟩
     ·exact ⟨t[i], List.getElem_mem hi, rfl, rfl, Or.inr rfl⟩
    refine ⟨fun x hx => ?_, fun x hx h3 => ?_, ?_, fun x hx => ?_⟩
    ·obtain ⟨y, hy, _, e, _⟩ := hm x hx
     have := hI.deep y hy
     rw [e]; omega
    ·obtain ⟨y, hy, e0, e, _⟩ := hm x hx
     rw [e]
     exact hI.root y hy (e0 ▸ h3)
    ·obtain ⟨x, hx, h3⟩ := hI.found
     obtain ⟨i, hi, rfl⟩ := List.getElem_of_mem hx
     refine ⟨(t.set k ⟨t[k].f0, t[k].f1, s⟩)[i]'(by rw [List.length_set]; exact hi), List.getElem_mem _, ?_⟩
     rw [List.getElem_set]
     split
     ·rename_i e; subst e; exact h3
     ·exact h3
    ·obtain ⟨y, hy, e0, _, e2⟩ := hm x hx
     rw [e0]
     refine ⟨(hI.ids y hy).1, ?_⟩
     rcases e2 with e2 | e2 <;> rw [e2]
     ·exact hs
     ·exact (hI.ids y hy).2
 ·obtain ⟨u, a, ok, hw, hfit⟩ := where_f t B kd id up at_ s hI hB hid (by omega)
  cases ok with
  | false =>
   refine ⟨[] ++ t, Ev.bind (at_f t id (by omega)) (ev_neg h2 (Ev.bind hw (ev_neg (by simp) ?_))), same _ (by simp)⟩
   simp only [Option.bind_some]
   exact ev_pos (by simp; omega) (evnow _)
  | true =>
   obtain ⟨_, c1, c2, p, hp, hpu, hpa, hpo⟩ := hfit rfl
   by_cases h1 : kd = 1
   ·obtain ⟨y, q, hy, hyu, hq, hev⟩ := put_f t [⟨id, 0, s⟩] u a (by omega) (by simp) (by simp) ⟨t[p], List.getElem_mem hp, hpu⟩ (fun h => by
     obtain ⟨q, hq, e, _⟩ := hpa h
     exact ⟨t[q], List.getElem_mem hq, e⟩)
    refine ⟨_, Ev.bind (at_f t id (by omega)) (ev_neg h2 (Ev.bind hw (ev_pos rfl (ev_pos h1 (Ev.bind hev (evnow _)))))), ?_, by simp; omega⟩
    have dy := hI.deep y hy
    have hw1 : wrap64 (wrap64 (y.f1 + 1) - 0) = y.f1 + 1 := by rw [wrap_id (y.f1 + 1) (by omega) (by omega), wrap_id _ (by omega) (by omega)]; omega
    have hmem : ∀ x ∈ t.take q ++ [(⟨id, 0, s⟩ : S37)].map (shift (wrap64 (wrap64 (y.f1 + 1) - ([(⟨id, 0, s⟩ : S37)])[0].f1))) ++ t.drop q, x ∈ t ∨ (x.f0 = id ∧ x.f1 = y.f1 + 1 ∧ x.f2 = s) := fun x hx => by
     rcases List.mem_append.1 hx with hx | hx
     ·rcases List.mem_append.1 hx with hx | hx
      ·exact Or.inl (List.mem_of_mem_take hx)
      ·right
       simp only [List.map_cons, List.map_nil, List.mem_singleton] at hx
       subst hx
       refine ⟨rfl, ?_, rfl⟩
       show wrap64 (0 + wrap64 (wrap64 (y.f1 + 1) - 0)) = y.f1 + 1
       rw [hw1, wrap_id _ (by omega) (by omega)]
       omega
     ·exact Or.inl (List.mem_of_mem_drop hx)
    refine ⟨fun x hx => ?_, fun x hx h3 => ?_, ?_, fun x hx => ?_⟩
    ·rcases hmem x hx with h | ⟨_, h, _⟩
     ·have := hI.deep x h
      omega
     ·rw [h]; omega
    ·rcases hmem x hx with h | ⟨h, _⟩
     ·exact hI.root x h h3
     ·exact absurd (h.symm.trans h3) hid
    ·obtain ⟨x, hx, h3⟩ := hI.found
     rw [← List.take_append_drop q t] at hx
     rcases List.mem_append.1 hx with hx | hx
     ·exact ⟨x, List.mem_append_left _ (List.mem_append_left _ hx), h3⟩
     ·exact ⟨x, List.mem_append_right _ hx, h3⟩
    ·rcases hmem x hx with h | ⟨h, _, h2⟩
     ·exact hI.ids x h
     ·rw [h, h2]; exact ⟨hid64, hs⟩
   ·have h33 : kd = 3 := by
     rcases hk with h | h | h
     ·exact absurd h h1
     ·exact absurd h h2
     ·exact h
    obtain ⟨k, hk', h5⟩ := c2 h33
    obtain ⟨e1, e2, e3, _⟩ := endI_spec t k hk'
    have hkid : t[k].f0 = id := by
     rcases atI_spec t id with ⟨h7, _⟩ | ⟨j, hj, h7, h8⟩
     ·omega
     ·obtain rfl : j = k := by omega
      exact h8
    have hout := hpo k h33 h5
    obtain ⟨rest, hrest⟩ : ∃ r, r = t.take k ++ t.drop (endI t k) := ⟨_, rfl⟩
    obtain ⟨rows, hrows⟩ : ∃ r, r = (t.take (endI t k)).drop k := ⟨_, rfl⟩
    have hrl : rows.length = endI t k - k := by rw [hrows, List.length_drop, List.length_take]; omega
    have hsl : rest.length = k + (t.length - endI t k) := by rw [hrest, List.length_append, List.length_take, List.length_drop]; omega
    have hr0 : rows[0]'(by omega) = t[k] := by
     simp only [hrows, List.getElem_drop, List.getElem_take]
     rfl
    have hrm : ∀ x ∈ rows, ∃ (j : Nat) (hj : j < t.length), k ≤ j ∧ j < endI t k ∧ x = t[j] := fun x hx => by
     rw [hrows] at hx
     obtain ⟨i, hi, rfl⟩ := List.getElem_of_mem hx
     rw [List.length_drop, List.length_take] at hi
     refine ⟨k + i, by omega, by omega, by omega, ?_⟩
     rw [List.getElem_drop, List.getElem_take]
    obtain ⟨y, q, hy, hyu, hq, hev⟩ := put_f rest rows u a (by omega) (by omega) (by omega) ⟨t[p], by rw [hrest]; exact mem_rest hp hout (by omega), hpu⟩ (fun h => by
     obtain ⟨q, hq, e, ho⟩ := hpa h
     exact ⟨t[q], by rw [hrest]; exact mem_rest hq (ho k h33 h5) (by omega), e⟩)
    refine ⟨rest.take q ++ rows.map (shift (wrap64 (wrap64 (y.f1 + 1) - (rows[0]'(by omega)).f1))) ++ rest.drop q, Ev.bind (at_f t id (by omega)) (ev_neg h2 (Ev.bind hw (ev_pos rfl (ev_neg h1 ?_)))), ?_, ?_⟩
    rotate_left
    ·have hyt : y ∈ t := rest_mem (hrest ▸ hy)
     have dy := hI.deep y hyt
     have dk := hI.deep _ (List.getElem_mem hk')
     have hw1 : wrap64 (wrap64 (y.f1 + 1) - (rows[0]'(by omega)).f1) = y.f1 + 1 - t[k].f1 := by rw [hr0, wrap_id (y.f1 + 1) (by omega) (by omega), wrap_id _ (by omega) (by omega)]
     rw [hw1]
     have hmem : ∀ x ∈ rest.take q ++ rows.map (shift (y.f1 + 1 - t[k].f1)) ++ rest.drop q, x ∈ t ∨ (x.f0 ≠ 3 ∧ (0 ≤ x.f1 ∧ x.f1 ≤ 2 * B + 1) ∧ I64 x.f0 ∧ x.f2.size ≤ 2000) := fun x hx => by
      rcases List.mem_append.1 hx with hx | hx
      ·rcases List.mem_append.1 hx with hx | hx
       ·exact Or.inl (rest_mem (hrest ▸ List.mem_of_mem_take hx))
       ·right
        obtain ⟨z, hz, rfl⟩ := List.mem_map.1 hx
        obtain ⟨j, hj, hkj, hje, rfl⟩ := hrm z hz
        have dj := hI.deep _ (List.getElem_mem hj)
        have hge : t[k].f1 ≤ t[j].f1 := by
         rcases Nat.eq_or_lt_of_le hkj with e | e
         ·subst e; exact Int.le_refl _
         ·exact Int.le_of_lt (e3 j hj e hje)
        have hf : (shift (y.f1 + 1 - t[k].f1) t[j]).f1 = t[j].f1 + (y.f1 + 1 - t[k].f1) := wrap_id _ (by omega) (by omega)
        refine ⟨?_, ⟨by rw [hf]; omega, by rw [hf]; omega⟩, hI.ids t[j] (List.getElem_mem hj)⟩
        show t[j].f0 ≠ 3
        intro h3
        rcases Nat.eq_or_lt_of_le hkj with e | e
        ·subst e; exact hid (hkid.symm.trans h3)
        ·have := e3 j hj e hje
         have := hI.root _ (List.getElem_mem hj) h3
         omega
      ·exact Or.inl (rest_mem (hrest ▸ List.mem_of_mem_drop hx))
     refine ⟨fun x hx => ?_, fun x hx h3 => ?_, ?_, fun x hx => ?_⟩
     ·rcases hmem x hx with h | ⟨_, h, _⟩
      ·have := hI.deep x h
       omega
      ·exact h
     ·rcases hmem x hx with h | ⟨h, _⟩
      ·exact hI.root x h h3
      ·exact absurd h3 h
     ·obtain ⟨x, hx, h3⟩ := hI.found
      obtain ⟨j, hj, rfl⟩ := List.getElem_of_mem hx
      have hj3 : ¬ (k ≤ j ∧ j < endI t k) := by
       rintro ⟨g1, g2⟩
       rcases Nat.eq_or_lt_of_le g1 with e | e
       ·subst e; exact hid (hkid.symm.trans h3)
       ·have := e3 j hj e g2
        have := hI.root _ (List.getElem_mem hj) h3
        omega
      have hxr : t[j] ∈ rest := by rw [hrest]; exact mem_rest hj hj3 (by omega)
      rw [← List.take_append_drop q rest] at hxr
      rcases List.mem_append.1 hxr with hx | hx
      ·exact ⟨_, List.mem_append_left _ (List.mem_append_left _ hx), h3⟩
      ·exact ⟨_, List.mem_append_right _ hx, h3⟩
     ·rcases hmem x hx with h | ⟨_, _, h⟩
      ·exact hI.ids x h
      ·exact h
    ·rw [List.length_append, List.length_append, List.length_map, List.length_take, List.length_drop]
     omega
    ·rw [h5]
     refine Ev.bind (end_f t k hk' (by omega)) ?_
     simp only [Option.bind_some, Int.toNat_natCast]
     refine ev_pos (by omega) (ev_pos (by omega) (ev_pos (by omega) ?_))
     refine ev_pos (by rw [List.length_drop, List.length_take]; simp; omega) ?_
     refine ev_pos (by omega) ?_
     refine ev_pos (by rw [List.length_take]; simp; omega) ?_
     refine ev_pos (by omega) ?_
     refine ev_pos (by rw [List.length_append, List.length_take, List.length_drop]; simp; omega) ?_
     simp only [List.nil_append]
     rw [← hrest, ← hrows]
     exact Ev.bind hev (evnow _)
end Go.Proofs.YtlkheeegkifblaaDoor.PL
namespace Go.Proofs.YtlkheeegkifblaaDoor.PL
open Go.RowKit Go.Proofs.YtlkheeegkifblaaDoor.P Go.Proofs.YtlkheeegkifblaaDoorW.PrintWords Go.Proofs.YtlkheeegkifblaaDoorW.PrintLast Go.Proofs.YtlkheeegkifblaaDoor.FP
theorem tops_few : ∀ (F : Fo), F.tops.length ≤ F.ids.length
 | .nil => Nat.le_refl _
 | .nd i t k n => by have := tops_few n; simp only [Fo.tops, Fo.ids, List.length_cons, List.length_append]; omega
structure Good (G : Fo) : Prop where
 nd : G.ids.Nodup
 ne0 : ∀ x ∈ G.ids, x ≠ 0
 tops : G.tops = [1, 2, 3]
 len : G.ids.length ≤ 1000
theorem Good.three {G : Fo} (g : Good G) : 3 ∈ G.tops := by rw [g.tops]; simp
theorem fl_le : ∀ (F : Fo) (d : Nat) {r : S37}, r ∈ F.fl d → r.f1 < (d : Int) + F.ids.length
 | .nil, d, r, h => by simp [Fo.fl] at h
 | .nd j t k n, d, r, h => by
  simp only [Fo.fl, List.mem_cons, List.mem_append] at h
  simp only [Fo.ids, List.length_cons, List.length_append]
  rcases h with rfl | h | h
  ·show (d : Int) < _; omega
  ·have := fl_le k (d + 1) h; omega
  ·have := fl_le n d h; omega
theorem atFrom_pre {r : S37} {rest : List S37} {id : Int} (hr : r.f0 = id) : ∀ (pre : List S37) (i : Nat), (∀ q ∈ pre, q.f0 ≠ id) → atFrom id (pre ++ r :: rest) i = ((i + pre.length : Nat) : Int)
 | [], i, _ => by simp [atFrom, hr]
 | q :: pre, i, h => by
  rw [List.cons_append, atFrom, if_neg (h q List.mem_cons_self), atFrom_pre hr pre (i + 1) fun x hx => h x (List.mem_cons_of_mem _ hx), List.length_cons]
  congr 1; omega
theorem at_pre {r : S37} {pre rest : List S37} {id : Int} (hr : r.f0 = id) (h : ∀ q ∈ pre, q.f0 ≠ id) : atI (pre ++ r :: rest) id = (pre.length : Int) := by
 rw [atI, atFrom_pre hr pre 0 h, Nat.zero_add]
theorem at_none {t : List S37} {id : Int} (h : ∀ q ∈ t, q.f0 ≠ id) : atI t id = -1 := by
 rcases atI_spec t id with ⟨e, _⟩ | ⟨j, hj, _, e⟩
 ·exact e
 ·exact absurd e (h _ (List.getElem_mem hj))
theorem spot_at {x d : Nat} {G : Fo} {pre post : List S37} (s : Spot x d G pre post) : atI (G.fl d) (x : Int) = (pre.length : Int) := by
 rw [s.all]; exact at_pre rfl s.out
theorem spot_len {x d : Nat} {G : Fo} {pre post : List S37} (s : Spot x d G pre post) : (G.fl d).length = pre.length + 1 + (sub x G).ids.length + post.length := by
 have := congrArg List.length s.all
 simp only [List.length_append, List.length_cons, fl_len] at this ⊢
 omega
theorem spot_get {x d : Nat} {G : Fo} {pre post : List S37} (s : Spot x d G pre post) (h : pre.length < (G.fl d).length) : (G.fl d)[pre.length] = ⟨(x : Int), (dep x d G : Int), txtF x G⟩ := by
 simp [s.all]
theorem at_fnd0 {G : Fo} {x : Int} (h : fndF G x = 0) (h0 : ∀ y ∈ G.ids, y ≠ 0) : atI (G.fl 0) x = -1 := at_none fun q hq e => by
 obtain ⟨i, hi, e2⟩ := fl_ids G 0 hq
 have hx : x = (i : Int) := by rw [← e, e2]
 unfold fndF at h
 rw [if_pos ⟨by omega, by rw [hx]; exact hi⟩, hx] at h
 exact h0 i hi h
theorem fndF_zero {G : Fo} (h0 : ∀ y ∈ G.ids, y ≠ 0) {x : Int} : fndF G x = 0 ↔ ∀ y ∈ G.ids, (y : Int) ≠ x := by
 constructor
 ·intro h y hy e
  unfold fndF at h
  rw [if_pos ⟨by omega, by rw [← e]; exact hy⟩, ← e] at h
  exact h0 y hy h
 ·intro h
  unfold fndF
  rw [if_neg]
  rintro ⟨h1, h2⟩
  exact h _ h2 (by omega)
theorem fndF_nat {G : Fo} {y : Nat} (hy : y ∈ G.ids) : fndF G (y : Int) = y := by
 unfold fndF
 rw [if_pos ⟨by omega, show (y : Int).toNat ∈ G.ids from hy⟩]; rfl
theorem fndF_cases {G : Fo} (g : Good G) (i : Nat) : (i ∈ G.ids ∧ fndF G (i : Int) = i) ∨ (i ∉ G.ids ∧ fndF G (i : Int) = 0) := by
 by_cases hi : i ∈ G.ids
 ·exact Or.inl ⟨hi, fndF_nat hi⟩
 ·exact Or.inr ⟨hi, (fndF_zero g.ne0).2 fun y hy e => hi ((show y = i by omega) ▸ hy)⟩
def wfR (r : S37) : Prop := I64 r.f0 ∧ r.f2.size ≤ 9223372036854775807
theorem treeGo_congr : ∀ (l : List S37) (s s' : List Int) (roots d : Int), (∀ x, x ∈ s ↔ x ∈ s') → treeGo s roots d l = treeGo s' roots d l
 | [], _, _, _, _, _ => rfl
 | r :: rest, s, s', roots, d, h => by
  have hc : ∀ x, x ∈ r.f0 :: s ↔ x ∈ r.f0 :: s' := fun x => by simp only [List.mem_cons, h x]
  have hd : decide (r.f0 ∉ s) = decide (r.f0 ∉ s') := by simp only [h r.f0]
  unfold treeGo
  rw [hd, treeGo_congr rest _ _ (roots + 1) r.f1 hc, treeGo_congr rest _ _ roots r.f1 hc]
theorem rowB_deep {r : S37} (h : rowB r = true) : 0 ≤ r.f1 ∧ r.f1 ≤ 18 := by
 obtain ⟨_, _, d0, d18⟩ := rowB_id h
 exact ⟨d0, d18⟩
theorem st_l1 (t : List S37) (hl : t.length ≤ 1000000000) (roots : Int) (i : Nat) (hi : i < t.length) (b : Bool) (hnext : Ev (fun k => spec_TreeOk.l0 k t roots ((i : Int) + 1)) b) : ∀ (n j : Nat), j + n = i → Ev (fun k => spec_TreeOk.l1 k t roots i j) (decide (t[i].f0 ∉ ((t.take i).drop j).map (·.f0)) && b)
 | 0, j, h => by
  have hji : j = i := by omega
  subst hji
  rw [List.drop_eq_nil_of_le (by rw [List.length_take]; omega)]
  refine Ev.step (fun k => by simp only [spec_TreeOk.l1]; rfl) ?_
  refine ev_neg (by omega) ?_
  rw [wrapS j (by omega) (by omega)]
  simpa using hnext
 | n + 1, j, h => by
  have hj : j < (t.take i).length := by rw [List.length_take]; omega
  have hjt : j < t.length := by omega
  rw [List.drop_eq_getElem_cons hj, List.map_cons, List.getElem_take]
  refine Ev.step (fun k => by simp only [spec_TreeOk.l1]; rfl) ?_
  refine ev_pos (by omega) (ev_pos (by omega) (ev_pos (by omega) (ev_pos (by omega) (ev_pos (by omega) ?_))))
  rw [rdR_get t j hjt, rdR_get t i hi, wrapS j (by omega) (by omega)]
  by_cases hq : t[j].f0 = t[i].f0
  ·refine ev_pos hq ?_
   rw [decide_eq_false (by simp [hq]), Bool.false_and]
   exact evnow _
  ·refine ev_neg hq ?_
   have ih := st_l1 t hl roots i hi b hnext n (j + 1) (by omega)
   have e : decide (t[i].f0 ∉ t[j].f0 :: ((t.take i).drop (j + 1)).map (·.f0)) = decide (t[i].f0 ∉ ((t.take i).drop (j + 1)).map (·.f0)) := by
    rw [decide_eq_decide, List.mem_cons, not_or]
    exact ⟨fun q => q.2, fun q => ⟨fun e => hq e.symm, q⟩⟩
   rw [e]
   exact ih
theorem st_l0 (t : List S37) (hl : t.length ≤ 1000000000) (hw : ∀ r ∈ t, wfR r) : ∀ (n i : Nat) (roots : Int) (h : i + n = t.length) (h1 : 0 < i) (h2 : i ≤ t.length), 0 ≤ roots → roots ≤ i → rowB (t[i - 1]'(by omega)) = true →
  Ev (fun k => spec_TreeOk.l0 k t roots i) (treeGo ((t.take i).map (·.f0)) roots (t[i - 1]'(by omega)).f1 (t.drop i) && ((t[0]'(by omega)).f0 == 1))
 | 0, i, roots, h, h1, h2, r0, r1, hp => by
  rw [List.drop_eq_nil_of_le (by omega)]
  refine Ev.step (fun k => by simp only [spec_TreeOk.l0]; rfl) ?_
  refine ev_neg (by omega) ?_
  unfold treeGo
  by_cases hr : roots = 3
  ·refine ev_pos hr (ev_pos (by omega) ?_)
   rw [decide_eq_true hr, Bool.true_and, show rd_T37 t 0 = t[0]'(by omega) from rdR_get t 0 (by omega)]
   exact evnow _
  ·refine ev_neg hr ?_
   rw [decide_eq_false hr, Bool.false_and]
   exact evnow _
 | n + 1, i, roots, h, h1, h2, r0, r1, hp => by
  have hi : i < t.length := by omega
  have hi1 : i - 1 < t.length := by omega
  obtain ⟨w0, w1⟩ := hw t[i] (List.getElem_mem hi)
  obtain ⟨d0, d18⟩ := rowB_deep hp
  rw [List.drop_eq_getElem_cons hi]
  refine Ev.step (fun k => by simp only [spec_TreeOk.l0]; rfl) ?_
  refine ev_pos (by omega) (ev_pos (by omega) ?_)
  rw [rdR_get t i hi]
  refine Ev.bind (srow_f t[i] w0 w1) ?_
  unfold treeGo
  cases hrow : rowB t[i] with
  | false =>
   simp only [Bool.false_eq_true, if_false, Bool.false_and]
   refine Ev.step (fun k => by simp only [spec_TreeOk.j1]; rfl) ?_
   exact ev_pos trivial (evnow _)
  | true =>
   simp only [if_true, Bool.true_and]
   have hw1 : wrap64 ((i : Int) - 1) = ((i - 1 : Nat) : Int) := by rw [wrap_id _ (by omega) (by omega)]; omega
   rw [hw1]
   refine ev_pos (by omega) (ev_pos (by omega) (ev_pos (by omega) ?_))
   rw [rdR_get t (i - 1) hi1, wrap_id (t[i - 1].f1 + 1) (by omega) (by omega)]
   refine Ev.step (fun k => by simp only [spec_TreeOk.j1]; rfl) ?_
   by_cases hd : t[i].f1 > t[i - 1].f1 + 1
   ·refine ev_pos (by simpa using hd) ?_
    rw [decide_eq_false (show ¬ t[i].f1 ≤ t[i - 1].f1 + 1 by omega), Bool.false_and, Bool.and_false, Bool.false_and]
    exact evnow _
   ·refine ev_neg (by simpa using hd) (ev_pos (by omega) (ev_pos (by omega) ?_))
    rw [decide_eq_true (show t[i].f1 ≤ t[i - 1].f1 + 1 by omega), Bool.true_and, rdR_get t i hi, root_f]
    simp only [Option.bind_some]
    have hseen : ∀ x, x ∈ (t.take (i + 1)).map (·.f0) ↔ x ∈ t[i].f0 :: (t.take i).map (·.f0) := fun x => by
     rw [List.take_succ_eq_append_getElem hi, List.map_append, List.mem_append, List.mem_cons]
     simp [or_comm]
    have hstep : ∀ (roots' : Int), 0 ≤ roots' → roots' ≤ (i + 1 : Nat) → Ev (fun k => spec_TreeOk.j2 k t roots' i) (decide (t[i].f0 ∉ (t.take i).map (·.f0)) && (treeGo (t[i].f0 :: (t.take i).map (·.f0)) roots' t[i].f1 (t.drop (i + 1)) && ((t[0]'(by omega)).f0 == 1))) := fun roots' q0 q1 => by
     refine Ev.step (fun k => by simp only [spec_TreeOk.j2]; rfl) ?_
     have ih := st_l0 t hl hw n (i + 1) roots' (by omega) (by omega) (by omega) q0 q1 hrow
     have ih2 : Ev (fun k => spec_TreeOk.l0 k t roots' ((i : Int) + 1)) (treeGo (t[i].f0 :: (t.take i).map (·.f0)) roots' t[i].f1 (t.drop (i + 1)) && ((t[0]'(by omega)).f0 == 1)) := by
      rw [← treeGo_congr (t.drop (i + 1)) _ _ roots' t[i].f1 hseen]
      exact ih
     have := st_l1 t hl roots' i hi _ ih2 i 0 (by omega)
     rw [List.drop_zero] at this
     exact this
    cases hroot : rootB t[i].f0 with
    | true =>
     simp only [if_true]
     have hw2 : wrap64 (roots + 1) = roots + 1 := wrap_id _ (by omega) (by omega)
     rw [hw2]
     by_cases he : t[i].f0 = roots + 1
     ·refine ev_pos he ?_
      rw [decide_eq_true he, Bool.true_and, Bool.and_assoc]
      exact hstep (roots + 1) (by omega) (by omega)
     ·refine ev_neg he ?_
      rw [decide_eq_false he, Bool.false_and, Bool.and_false, Bool.false_and]
      exact evnow _
    | false =>
     simp only [Bool.false_eq_true, if_false]
     rw [Bool.and_assoc]
     exact hstep roots r0 (by omega)
theorem stree_f (t : List S37) (hl : t.length ≤ 1000000000) (hw : ∀ r ∈ t, wfR r) : Ev (fun k => spec_TreeOk.f k t) (treeB t) := by
 unfold spec_TreeOk.f treeB
 cases t with
 | nil =>
  refine Ev.step (fun k => by simp only [spec_TreeOk.l0]; rfl) ?_
  exact ev_neg (by simp) (ev_neg (by decide) (evnow _))
 | cons r rest =>
  obtain ⟨w0, w1⟩ := hw r List.mem_cons_self
  have hr0 : rd_T37 (r :: rest) 0 = r := rdR_get (r :: rest) 0 (by simp)
  refine Ev.step (fun k => by simp only [spec_TreeOk.l0]; rfl) ?_
  refine ev_pos (by simp) (ev_pos (by omega) ?_)
  rw [hr0]
  refine Ev.bind (srow_f r w0 w1) ?_
  unfold treeGo
  cases hrow : rowB r with
  | false =>
   simp only [Bool.false_eq_true, if_false, Bool.false_and]
   refine Ev.step (fun k => by simp only [spec_TreeOk.j1]; rfl) ?_
   exact ev_pos trivial (evnow _)
  | true =>
   simp only [if_true, Bool.true_and]
   refine ev_neg (by omega) ?_
   refine Ev.step (fun k => by simp only [spec_TreeOk.j1]; rfl) ?_
   refine ev_neg (by decide) (ev_pos (by omega) (ev_pos (by simp) ?_))
   rw [hr0, root_f]
   simp only [Option.bind_some]
   have hstep : ∀ (roots' : Int), 0 ≤ roots' → roots' ≤ 1 → Ev (fun k => spec_TreeOk.j2 k (r :: rest) roots' 0) (treeGo [r.f0] roots' r.f1 rest && (r.f0 == 1)) := fun roots' q0 q1 => by
    refine Ev.step (fun k => by simp only [spec_TreeOk.j2]; rfl) ?_
    have ih := st_l0 (r :: rest) hl hw rest.length 1 roots' (by simp; omega) (by omega) (by simp) q0 (by omega) hrow
    have := st_l1 (r :: rest) hl roots' 0 (by simp) _ ih 0 0 rfl
    simpa using this
   have hdp := rowB_deep hrow
   cases hroot : rootB r.f0 with
   | true =>
    simp only [if_true]
    have hd : r.f1 = 0 := by
     unfold rowB at hrow
     rw [if_pos hroot] at hrow
     simp only [Bool.and_eq_true, decide_eq_true_eq] at hrow
     exact hrow.1
    rw [decide_eq_true (show r.f1 ≤ -1 + 1 by omega), Bool.true_and, show wrap64 (0 + 1) = 1 from wrap_id (0 + 1) (by omega) (by omega)]
    by_cases he : r.f0 = 1
    ·refine ev_pos he ?_
     have := hstep 1 (by omega) (by omega)
     have e1 : (r.f0 == 1) = true := beq_iff_eq.2 he
     rw [e1, Bool.and_true] at this
     simpa [he] using this
    ·refine ev_neg he ?_
     rw [decide_eq_false (show ¬ r.f0 = 0 + 1 by omega), Bool.false_and, Bool.and_false]
     exact evnow _
   | false =>
    simp only [Bool.false_eq_true, if_false]
    have hd : 1 ≤ r.f1 := by
     unfold rowB at hrow
     rw [if_neg (by rw [hroot]; decide)] at hrow
     simp only [Bool.and_eq_true, decide_eq_true_eq] at hrow
     exact hrow.2.1
    have hne : (r.f0 == 1) = false := beq_eq_false_iff_ne.2 fun e => by rw [e] at hroot; exact absurd hroot (by decide)
    rw [decide_eq_false (show ¬ r.f1 ≤ -1 + 1 by omega), Bool.false_and, Bool.and_false]
    have := hstep 0 (by omega) (by omega)
    rwa [hne, Bool.and_false] at this
theorem good_fold : ∀ (l : List S37) (G : Fo) (seen : List Int) (roots : Nat), treeGo seen (roots : Int) ((dpth G : Int) - 1) l = true → G.ids.Nodup → (∀ x ∈ G.ids, x ≠ 0 ∧ x < 37 ∧ (x : Int) ∈ seen) → G.tops = List.range' 1 roots →
  (l.foldl (fun G x => snoc x.f0.toNat x.f2 x.f1.toNat G) G).ids.Nodup ∧ (∀ x ∈ (l.foldl (fun G x => snoc x.f0.toNat x.f2 x.f1.toNat G) G).ids, x ≠ 0 ∧ x < 37) ∧ (l.foldl (fun G x => snoc x.f0.toNat x.f2 x.f1.toNat G) G).tops = [1, 2, 3]
 | [], G, seen, roots, h, hn, hs, ht => by
  unfold treeGo at h
  have h3 := of_decide_eq_true h
  refine ⟨hn, fun x hx => ⟨(hs x hx).1, (hs x hx).2.1⟩, ?_⟩
  show G.tops = _
  rw [ht, show roots = 3 by omega]; rfl
 | x :: l, G, seen, roots, h, hn, hs, ht => by
  unfold treeGo at h
  simp only [Bool.and_eq_true, decide_eq_true_eq] at h
  obtain ⟨hrow, hns, hdep, hrest⟩ := h
  obtain ⟨b0, b37, d0, d18⟩ := rowB_id hrow
  have he : x.f1.toNat ≤ dpth G := by omega
  have hd : ((dpth (snoc x.f0.toNat x.f2 x.f1.toNat G) : Int) - 1) = x.f1 := by rw [snoc_dpth _ _ G _ he]; omega
  have hx0 : x.f0.toNat ≠ 0 := by
   intro e
   have e2 : x.f0 = 0 := by omega
   unfold rowB at hrow
   rw [e2] at hrow
   have r0 : rootB (0 : Int) = false := by decide
   have m0 : madeB (0 : Int) = false := by decide
   simp [r0, m0] at hrow
  have hi : x.f0.toNat ∉ G.ids := fun hc => hns (by have := (hs _ hc).2.2; rwa [show ((x.f0.toNat : Nat) : Int) = x.f0 by omega] at this)
  have hn2 : (snoc x.f0.toNat x.f2 x.f1.toNat G).ids.Nodup := by
   rw [snoc_ids]
   exact List.nodup_append.2 ⟨hn, by simp, fun a ha b hb e => by rw [List.mem_singleton.1 hb] at e; exact hi (e ▸ ha)⟩
  have hs2 : ∀ y ∈ (snoc x.f0.toNat x.f2 x.f1.toNat G).ids, y ≠ 0 ∧ y < 37 ∧ (y : Int) ∈ x.f0 :: seen := fun y hy => by
   rw [snoc_ids] at hy
   rcases List.mem_append.1 hy with hy | hy
   ·obtain ⟨q1, q2, q3⟩ := hs y hy; exact ⟨q1, q2, List.mem_cons_of_mem _ q3⟩
   ·rw [List.mem_singleton.1 hy]
    exact ⟨hx0, by omega, by rw [show ((x.f0.toNat : Nat) : Int) = x.f0 by omega]; exact List.mem_cons_self⟩
  rw [List.foldl_cons]
  by_cases hroot : rootB x.f0 = true
  ·rw [if_pos hroot, Bool.and_eq_true, decide_eq_true_eq] at hrest
   have hd0 : x.f1 = 0 := by
    unfold rowB at hrow
    rw [if_pos hroot] at hrow
    simp only [Bool.and_eq_true, decide_eq_true_eq] at hrow
    exact hrow.1
   refine good_fold l _ (x.f0 :: seen) (roots + 1) ?_ hn2 hs2 ?_
   ·rw [hd]; exact hrest.2
   ·rw [snoc_tops _ _ G _ he, if_pos (by omega), ht, List.range'_concat]
    rw [show x.f0.toNat = 1 + 1 * roots by omega]
  ·rw [if_neg hroot] at hrest
   have hd1 : 1 ≤ x.f1 := by
    unfold rowB at hrow
    rw [if_neg hroot] at hrow
    simp only [Bool.and_eq_true, decide_eq_true_eq] at hrow
    exact hrow.2.1
   refine good_fold l _ (x.f0 :: seen) roots ?_ hn2 hs2 ?_
   ·rw [hd]; exact hrest
   ·rw [snoc_tops _ _ G _ he, if_neg (by omega), ht]
theorem good_of {l : List S37} (h : treeB l = true) : Good (toFo l) := by
 obtain ⟨h1, h2, h3⟩ := good_fold l .nil [] 0 h (by simp [Fo.ids]) (by simp [Fo.ids]) rfl
 exact ⟨h1, fun x hx => (h2 x hx).1, h3, by have := nodup_len 37 _ h1 (fun x hx => (h2 x hx).2); unfold toFo; omega⟩
theorem opB_kind {k i u a : Int} {s : ByteArray} (h : opB k i u a s = true) : k = 1 ∨ k = 2 ∨ k = 3 := by
 unfold opB at h
 by_cases h1 : k = 1
 ·exact Or.inl h1
 ·by_cases h2 : k = 2
  ·exact Or.inr (Or.inl h2)
  ·by_cases h3 : k = 3
   ·exact Or.inr (Or.inr h3)
   ·rw [if_neg h1, if_neg h2, if_neg h3] at h; simp at h
def opDoR (l : List S37) (k i u a : Int) (s : ByteArray) : List S37 := if opB k i u a s = true then (if treeB l = true then (doF (toFo l) k i u a s).fl 0 else []) else []
theorem iopDo_f (l : List S37) (k i u a : Int) (s : ByteArray) (hs : s.size ≤ 9223372036854775807) : Ev (fun n => impl_OpDo.f n l k i u a s) (opDoR l k i u a s) := by
 unfold impl_OpDo.f opDoR
 exact Ev.bind (opOk_f k i u a s hs) (evnow _)
def okT (x : Nat) (t : ByteArray) : Bool := if rootB (x : Int) then (t.toList == ([] : List UInt8)) else madeB (x : Int) && textB t
structure Val (G : Fo) : Prop where
 nd : G.ids.Nodup
 tops : G.tops = [1, 2, 3]
 ok : ∀ x ∈ G.ids, okT x (txtF x G) = true
theorem okT_ne {x : Nat} {t : ByteArray} (h : okT x t = true) : 1 ≤ x ∧ x < 37 := by
 unfold okT at h
 by_cases hr : rootB (x : Int) = true
 ·unfold rootB at hr; simp only [Bool.and_eq_true, decide_eq_true_eq] at hr; omega
 ·rw [if_neg hr, Bool.and_eq_true] at h
  have := made_small _ h.1
  obtain ⟨m, hm, h4, h37⟩ := made_num h.1
  omega
theorem Val.ne0 {G : Fo} (v : Val G) : ∀ x ∈ G.ids, x ≠ 0 := fun x hx => by have := okT_ne (v.ok x hx); omega
theorem Val.three {G : Fo} (v : Val G) : 3 ∈ G.tops := by rw [v.tops]; simp
theorem made_not_root {x : Int} (h : madeB x = true) : rootB x = false := by
 obtain ⟨m, rfl, h4, h37⟩ := made_num h
 unfold rootB; simp; omega
theorem Val.top {G : Fo} (v : Val G) {x : Nat} (hm : madeB (x : Int) = true) : x ∉ G.tops := by
 have := made_not_root hm
 rw [v.tops]
 intro h
 simp only [List.mem_cons, List.not_mem_nil, or_false] at h
 rcases h with rfl | rfl | rfl <;> exact absurd this (by decide)
theorem sub_len : ∀ (l m : List Nat), l.Nodup → (∀ x ∈ l, x ∈ m) → l.length ≤ m.length
 | [], m, _, _ => Nat.zero_le _
 | x :: l, m, hn, h => by
  obtain ⟨h1, h2⟩ := List.nodup_cons.1 hn
  have := sub_len l (m.erase x) h2 fun y hy => (List.mem_erase_of_ne (fun (e : y = x) => h1 (e ▸ hy))).2 (h y (List.mem_cons_of_mem _ hy))
  rw [List.length_erase_of_mem (h x List.mem_cons_self)] at this
  have := List.length_pos_of_mem (h x List.mem_cons_self)
  simp only [List.length_cons]; omega
theorem made_list : ∀ n : Nat, n < 37 → madeB (n : Int) = true → n ∈ [11, 12, 13, 14, 15, 16, 21, 22, 23, 24, 25, 26, 31, 32, 33, 34, 35, 36] := by decide
theorem all_list : ∀ n : Nat, n < 37 → (rootB (n : Int) || madeB (n : Int)) = true → n ∈ [1, 2, 3, 11, 12, 13, 14, 15, 16, 21, 22, 23, 24, 25, 26, 31, 32, 33, 34, 35, 36] := by decide
theorem Val.len {G : Fo} (v : Val G) : G.ids.length ≤ 21 := sub_len _ [1, 2, 3, 11, 12, 13, 14, 15, 16, 21, 22, 23, 24, 25, 26, 31, 32, 33, 34, 35, 36] v.nd fun x hx => by
 have h := v.ok x hx
 have h2 := okT_ne h
 refine all_list x h2.2 ?_
 unfold okT at h
 by_cases hr : rootB (x : Int) = true
 ·rw [hr]; rfl
 ·rw [if_neg hr, Bool.and_eq_true] at h
  rw [h.1, Bool.or_true]
theorem Val.good {G : Fo} (v : Val G) : Good G := ⟨v.nd, v.ne0, v.tops, by have := v.len; omega⟩
theorem made_of_ok {x : Nat} {t : ByteArray} (h : okT x t = true) (h3 : 4 ≤ x) : madeB (x : Int) = true ∧ textB t = true := by
 unfold okT at h
 have hr : ¬ rootB (x : Int) = true := by unfold rootB; simp; omega
 rwa [if_neg hr, Bool.and_eq_true] at h
theorem treeGo_rows : ∀ (l : List S37) (seen : List Int) (roots d : Int), treeGo seen roots d l = true → ∀ r ∈ l, rowB r = true
 | [], _, _, _, _, r, hr => by cases hr
 | x :: l, seen, roots, d, h, r, hr => by
  unfold treeGo at h
  simp only [Bool.and_eq_true] at h
  obtain ⟨h1, _, _, h2⟩ := h
  rcases List.mem_cons.1 hr with rfl | hr
  ·exact h1
  ·split at h2
   ·simp only [Bool.and_eq_true] at h2; exact treeGo_rows l _ _ _ h2.2 r hr
   ·exact treeGo_rows l _ _ _ h2 r hr
theorem row_fl {G : Fo} (hn : G.ids.Nodup) {x d : Nat} (hx : x ∈ G.ids) : (⟨(x : Int), (dep x d G : Int), txtF x G⟩ : S37) ∈ G.fl d := by
 obtain ⟨pre, post, s⟩ := spot x G d hn hx
 rw [s.all]; simp
theorem val_of {l : List S37} (h : treeB l = true) : Val (toFo l) := by
 have g := good_of h
 refine ⟨g.nd, g.tops, fun x hx => ?_⟩
 have hr := row_fl g.nd (d := 0) hx
 rw [toFo_fl h] at hr
 have := treeGo_rows l _ _ _ h _ hr
 unfold rowB at this
 unfold okT
 simp only at this
 split
 ·rename_i e; rw [if_pos e, Bool.and_eq_true] at this; exact this.2
 ·rename_i e; rw [if_neg e] at this; simp only [Bool.and_eq_true] at this; rw [this.1, this.2.2.2]; rfl
theorem go_in : ∀ (F : Fo) (d : Nat) (seen : List Int) (roots prev : Int) (rest : List S37), 1 ≤ d → (d : Int) ≤ prev + 1 → F.ids.Nodup → (∀ x ∈ F.ids, (x : Int) ∉ seen) → (∀ r ∈ F.fl d, rowB r = true ∧ rootB r.f0 = false) →
  (∀ (seen' : List Int) (prev' : Int), (d : Int) ≤ prev' + 1 → (∀ y, y ∈ seen' ↔ y ∈ seen ∨ ∃ x ∈ F.ids, y = (x : Int)) → treeGo seen' roots prev' rest = true) → treeGo seen roots prev (F.fl d ++ rest) = true
 | .nil, d, seen, roots, prev, rest, h1, hd, hn, hs, hr, k => k seen prev hd fun y => by simp [Fo.ids]
 | .nd j t k n, d, seen, roots, prev, rest, h1, hd, hn, hs, hr, kk => by
  obtain ⟨n1, n2, n3, n4, n5⟩ := nodup_nd hn
  obtain ⟨q1, q2⟩ := hr ⟨(j : Int), (d : Int), t⟩ (by simp [Fo.fl])
  simp only at q2
  rw [Fo.fl, List.cons_append, List.append_assoc]
  unfold treeGo
  simp only [q1, q2, Bool.true_and, Bool.false_eq_true, if_false]
  rw [decide_eq_true (hs j (by simp [Fo.ids])), decide_eq_true hd, Bool.true_and, Bool.true_and]
  refine go_in k (d + 1) _ roots d _ (by omega) (by omega) n3 (fun x hx => ?_) (fun r hr' => hr r (by simp [Fo.fl, hr'])) fun seen1 prev1 hp1 hs1 => ?_
  ·rw [List.mem_cons, not_or]
   exact ⟨fun e => n1 (by rw [show j = x by omega]; exact hx), hs x (by simp [Fo.ids, hx])⟩
  ·refine go_in n d seen1 roots prev1 rest h1 (by omega) n4 (fun x hx => ?_) (fun r hr' => hr r (by simp [Fo.fl, hr'])) fun seen2 prev2 hp2 hs2 => ?_
   ·rw [hs1, List.mem_cons]
    rintro ((e | e) | ⟨z, hz, e⟩)
    ·exact n2 (by rw [show j = x by omega]; exact hx)
    ·exact hs x (by simp [Fo.ids, hx]) e
    ·exact n5 z hz (by rw [show z = x by omega]; exact hx)
   ·refine kk seen2 prev2 hp2 fun y => ?_
    rw [hs2, hs1]
    simp only [Fo.ids, List.mem_cons, List.mem_append]
    constructor
    ·rintro (((e | e) | ⟨x, hx, e⟩) | ⟨x, hx, e⟩)
     ·exact Or.inr ⟨j, Or.inl rfl, e⟩
     ·exact Or.inl e
     ·exact Or.inr ⟨x, Or.inr (Or.inl hx), e⟩
     ·exact Or.inr ⟨x, Or.inr (Or.inr hx), e⟩
    ·rintro (e | ⟨x, rfl | hx | hx, e⟩)
     ·exact Or.inl (Or.inl (Or.inr e))
     ·exact Or.inl (Or.inl (Or.inl e))
     ·exact Or.inl (Or.inr ⟨x, hx, e⟩)
     ·exact Or.inr ⟨x, hx, e⟩
theorem fl_get {F : Fo} {d : Nat} {r : S37} (hn : F.ids.Nodup) (h : r ∈ F.fl d) : ∃ x ∈ F.ids, r = ⟨(x : Int), (dep x d F : Int), txtF x F⟩ := by
 obtain ⟨x, hx, e⟩ := fl_ids F d h
 obtain ⟨pre, post, s⟩ := spot x F d hn hx
 refine ⟨x, hx, ?_⟩
 have hm := fl_map F d
 have hnd : ((F.fl d).map (·.f0)).Nodup := by
  rw [hm]
  exact (List.pairwise_map.2 (List.Pairwise.imp (fun {a b} (hne : a ≠ b) => (by intro e2; exact hne (Int.ofNat.inj e2) : Int.ofNat a ≠ Int.ofNat b)) hn))
 rw [s.all] at h hnd
 rw [List.map_append, List.map_cons, List.nodup_append] at hnd
 obtain ⟨_, h2, h3⟩ := hnd
 rcases List.mem_append.1 h with h | h
 ·exact absurd e (s.out r h)
 ·rcases List.mem_cons.1 h with h | h
  ·exact h
  ·exfalso
   refine (List.nodup_cons.1 h2).1 ?_
   rw [← e]
   exact List.mem_map.2 ⟨r, h, rfl⟩
theorem three_shape {G : Fo} (h : G.tops = [1, 2, 3]) : ∃ t1 k1 t2 k2 t3 k3, G = .nd 1 t1 k1 (.nd 2 t2 k2 (.nd 3 t3 k3 .nil)) := by
 match G, h with
 | .nd a t1 k1 (.nd b t2 k2 (.nd c t3 k3 .nil)), h =>
  simp only [Fo.tops, List.cons.injEq, and_true] at h
  obtain ⟨rfl, rfl, rfl⟩ := h
  exact ⟨t1, k1, t2, k2, t3, k3, rfl⟩
theorem treeB_fl {G : Fo} (v : Val G) : treeB (G.fl 0) = true := by
 have hok := v.ok
 have hnd := v.nd
 obtain ⟨t1, k1, t2, k2, t3, k3, rfl⟩ := three_shape v.tops
 obtain ⟨a1, a2, a3, a4, a5⟩ := nodup_nd hnd
 obtain ⟨b1, b2, b3, b4, b5⟩ := nodup_nd a4
 obtain ⟨c1, c2, c3, c4, c5⟩ := nodup_nd b4
 simp only [Fo.ids, List.mem_cons, List.mem_append, not_or, List.not_mem_nil, or_false, not_false_eq_true, and_true] at a2 a5 b2 b5
 replace a5 : ∀ x ∈ k1.ids, (x = 2 ∨ x ∈ k2.ids ∨ x = 3 ∨ x ∈ k3.ids) → False := fun x hx g => by have := a5 x hx; grind
 replace b5 : ∀ x ∈ k2.ids, (x = 3 ∨ x ∈ k3.ids) → False := fun x hx g => by have := b5 x hx; grind
 have big : ∀ k : Fo, k.ids.Nodup → (∀ x ∈ k.ids, x ≠ 1 ∧ x ≠ 2 ∧ x ≠ 3) → (∀ x ∈ k.ids, okT x (txtF x k) = true) → ∀ r ∈ k.fl 1, rowB r = true ∧ rootB r.f0 = false := by
  intro k hn hne hk r hr
  obtain ⟨x, hx, rfl⟩ := fl_get hn hr
  have h4 := hne x hx
  have h5 := okT_ne (hk x hx)
  obtain ⟨m1, m2⟩ := made_of_ok (hk x hx) (by omega)
  have mr := made_not_root m1
  have hd := fl_deep k 1 hr
  have hl := fl_le k 1 hr
  have hlen : k.ids.length ≤ 18 := sub_len _ [11, 12, 13, 14, 15, 16, 21, 22, 23, 24, 25, 26, 31, 32, 33, 34, 35, 36] hn fun y hy => by
   have g4 := hne y hy
   have g5 := okT_ne (hk y hy)
   exact made_list y g5.2 (made_of_ok (hk y hy) (by omega)).1
  simp only at hd hl
  refine ⟨?_, mr⟩
  unfold rowB
  simp only [mr, Bool.false_eq_true, if_false, m1, m2, Bool.true_and, Bool.and_true]
  rw [decide_eq_true (by omega), decide_eq_true (by omega)]; rfl
 have root : ∀ (x : Nat) (t : ByteArray), rootB (x : Int) = true → okT x t = true → rowB ⟨(x : Int), 0, t⟩ = true := by
  intro x t hr h
  unfold okT at h
  rw [if_pos hr] at h
  unfold rowB
  simp only [hr, if_true, h]; rfl
 have o1 : okT 1 t1 = true := by have := hok 1 (by simp [Fo.ids]); rwa [txtF, if_pos rfl] at this
 have o2 : okT 2 t2 = true := by have := hok 2 (by simp [Fo.ids]); rwa [txtF, if_neg (by decide), if_neg (fun g => a5 2 g (Or.inl rfl)), txtF, if_pos rfl] at this
 have o3 : okT 3 t3 = true := by have := hok 3 (by simp [Fo.ids]); rwa [txtF, if_neg (by decide), if_neg (fun g => a5 3 g (Or.inr (Or.inr (Or.inl rfl)))), txtF, if_neg (by decide), if_neg (fun g => b5 3 g (Or.inl rfl)), txtF, if_pos rfl] at this
 have i1 : ∀ x ∈ k1.ids, okT x (txtF x k1) = true := fun x hx => by
  have := hok x (by simp [Fo.ids, hx])
  rwa [txtF, if_neg (fun e => a1 (by rw [e]; exact hx)), if_pos hx] at this
 have i2 : ∀ x ∈ k2.ids, okT x (txtF x k2) = true := fun x hx => by
  have := hok x (by simp [Fo.ids, hx])
  rwa [txtF, if_neg (fun e => a2.2.1 (by rw [e]; exact hx)), if_neg (fun g => a5 x g (by grind)), txtF, if_neg (fun e => b1 (by rw [e]; exact hx)), if_pos hx] at this
 have i3 : ∀ x ∈ k3.ids, okT x (txtF x k3) = true := fun x hx => by
  have := hok x (by simp [Fo.ids, hx])
  rwa [txtF, if_neg (fun e => a2.2.2.2 (by rw [e]; exact hx)), if_neg (fun g => a5 x g (by grind)), txtF, if_neg (fun e => b2.2 (by rw [e]; exact hx)), if_neg (fun g => b5 x g (by grind)), txtF, if_neg (fun e => c1 (by rw [e]; exact hx)), if_pos hx] at this
 have e1 := big k1 a3 (fun x hx => ⟨fun e => a1 (e ▸ hx), fun e => a5 x hx (Or.inl e), fun e => a5 x hx (Or.inr (Or.inr (Or.inl e)))⟩) i1
 have e2 := big k2 b3 (fun x hx => ⟨fun e => a2.2.1 (e ▸ hx), fun e => b1 (e ▸ hx), fun e => b5 x hx (Or.inl e)⟩) i2
 have e3 := big k3 c3 (fun x hx => ⟨fun e => a2.2.2.2 (e ▸ hx), fun e => b2.2 (e ▸ hx), fun e => c1 (e ▸ hx)⟩) i3
 have r1 := root 1 t1 (by decide) o1
 have r2 := root 2 t2 (by decide) o2
 have r3 := root 3 t3 (by decide) o3
 simp only [Fo.fl, Nat.zero_add, List.append_nil]
 unfold treeB
 have q1 : rootB ((1 : Nat) : Int) = true := by decide
 have q2 : rootB ((2 : Nat) : Int) = true := by decide
 have q3 : rootB ((3 : Nat) : Int) = true := by decide
 unfold treeGo
 simp only [Int.natCast_zero] at r1 r2 r3 ⊢
 rw [r1, Bool.true_and, decide_eq_true (by simp), Bool.true_and, decide_eq_true (by omega), Bool.true_and, if_pos q1, decide_eq_true (by omega), Bool.true_and]
 refine go_in k1 1 _ _ _ _ (by omega) (by omega) a3 (fun x hx => ?_) e1 fun s1 p1 hp1 hs1 => ?_
 ·simp only [List.mem_cons, List.not_mem_nil, or_false]
  intro e; exact a1 (by rw [show 1 = x by omega]; exact hx)
 unfold treeGo
 have z2 : ((2 : Nat) : Int) ∉ s1 := by
  rw [hs1]; simp only [List.mem_cons, List.not_mem_nil, or_false]
  rintro (e | ⟨x, hx, e⟩)
  ·omega
  ·exact a5 x hx (Or.inl (by omega))
 simp only
 rw [r2, Bool.true_and, decide_eq_true z2, Bool.true_and, decide_eq_true (by omega), Bool.true_and, if_pos q2, decide_eq_true (by omega), Bool.true_and]
 refine go_in k2 1 _ _ _ _ (by omega) (by omega) b3 (fun x hx => ?_) e2 fun s2 p2 hp2 hs2 => ?_
 ·rw [List.mem_cons, hs1]; simp only [List.mem_cons, List.not_mem_nil, or_false]
  rintro (e | e | ⟨y, hy, e⟩)
  ·exact b1 (by rw [show 2 = x by omega]; exact hx)
  ·exact a2.2.1 (by rw [show 1 = x by omega]; exact hx)
  ·exact a5 y hy (by rw [show y = x by omega]; exact Or.inr (Or.inl hx))
 unfold treeGo
 have z3 : ((3 : Nat) : Int) ∉ s2 := by
  rw [hs2, List.mem_cons, hs1]; simp only [List.mem_cons, List.not_mem_nil, or_false]
  rintro ((e | e | ⟨x, hx, e⟩) | ⟨x, hx, e⟩)
  ·omega
  ·omega
  ·exact a5 x hx (Or.inr (Or.inr (Or.inl (by omega))))
  ·exact b5 x hx (Or.inl (by omega))
 simp only
 rw [r3, Bool.true_and, decide_eq_true z3, Bool.true_and, decide_eq_true (by omega), Bool.true_and, if_pos q3, decide_eq_true (by omega), Bool.true_and]
 rw [← List.append_nil (k3.fl 1)]
 refine go_in k3 1 _ _ _ _ (by omega) (by omega) c3 (fun x hx => ?_) e3 fun s3 p3 hp3 hs3 => ?_
 ·rw [List.mem_cons, hs2, List.mem_cons, hs1]; simp only [List.mem_cons, List.not_mem_nil, or_false]
  rintro (e | (e | e | ⟨y, hy, e⟩) | ⟨y, hy, e⟩)
  ·exact c1 (by rw [show 3 = x by omega]; exact hx)
  ·exact b2.2 (by rw [show 2 = x by omega]; exact hx)
  ·exact a2.2.2.2 (by rw [show 1 = x by omega]; exact hx)
  ·exact a5 y hy (by rw [show y = x by omega]; exact Or.inr (Or.inr (Or.inr hx)))
  ·exact b5 y hy (by rw [show y = x by omega]; exact Or.inr hx)
 unfold treeGo
 exact decide_eq_true (by omega)
theorem Val.does {G : Fo} (v : Val G) {k u a : Int} {i : Nat} {s : ByteArray} (h : opB k (i : Int) u a s = true) : Does G k i u a s (doF G k i u a s) :=
 FP.does v.nd v.ne0 v.three k i (v.top (opB_made _ _ _ _ _ h)) u a s (opB_kind h)
theorem opB_text {k i u a : Int} {s : ByteArray} (h : opB k i u a s = true) (hk : k = 1 ∨ k = 2) : textB s = true := by
 unfold opB at h
 simp only [Bool.and_eq_true] at h
 rcases hk with rfl | rfl
 ·rw [if_pos rfl, Bool.and_eq_true] at h; exact h.2.2
 ·rw [if_neg (by decide), if_pos rfl] at h; simp only [Bool.and_eq_true] at h; exact h.2.2
theorem okT_made {x : Nat} {t : ByteArray} (h : madeB (x : Int) = true) (ht : textB t = true) : okT x t = true := by
 unfold okT; rw [made_not_root h, h, ht]; rfl
theorem Val.done {G : Fo} (v : Val G) {k u a : Int} {i : Nat} {s : ByteArray} (h : opB k (i : Int) u a s = true) {G' : Fo} (hd : Does G k i u a s G') : Val G' := by
 have hm := opB_made _ _ _ _ _ h
 have hi0 : i ≠ 0 := by rintro rfl; exact absurd hm (by decide)
 obtain ⟨h1, h2, h3⟩ := do_tops v.nd v.ne0 hi0 (v.top hm) hd
 refine ⟨h2, h1.trans v.tops, fun x hx => ?_⟩
 cases hd with
 | text hk hi =>
  rw [setF_ids] at hx
  by_cases e : x = i
  ·subst e; rw [set_txt_eq _ _ hi]; exact okT_made hm (opB_text h (Or.inr hk))
  ·rw [set_txt_ne _ _ e]; exact v.ok x hx
 | make hk hi o =>
  rcases (o.mem x).1 hx with rfl | g | g
  ·rw [o.txt]; exact okT_made hm (opB_text h (Or.inl hk))
  ·simp [Fo.ids] at g
  ·rw [o.txt_old g]; exact v.ok x g
 | move hk hi hw o => rw [o.txt ((o.ids x).1 hx)]; exact v.ok x ((o.ids x).1 hx)
 | none hk => exact v.ok x hx
theorem Val.doF {G : Fo} (v : Val G) {k u a : Int} {i : Nat} {s : ByteArray} (h : opB k (i : Int) u a s = true) : Val (doF G k i u a s) := v.done h (v.does h)
theorem opDo_val {l : List S37} {k u a : Int} {i : Nat} {s : ByteArray} (ho : opB k (i : Int) u a s = true) (ht : treeB l = true) :
  opDoR l k i u a s = (FP.doF (toFo l) k i u a s).fl 0 ∧ treeB (opDoR l k i u a s) = true ∧ toFo (opDoR l k i u a s) = FP.doF (toFo l) k i u a s ∧ Val (FP.doF (toFo l) k i u a s) := by
 have e : opDoR l k i u a s = (FP.doF (toFo l) k i u a s).fl 0 := by unfold opDoR; rw [if_pos ho, if_pos ht]
 have v := (val_of ht).doF ho
 have ht2 : treeB (opDoR l k i u a s) = true := by rw [e]; exact treeB_fl v
 exact ⟨e, ht2, toFo_of ht2 e.symm, v⟩
end Go.Proofs.YtlkheeegkifblaaDoor.PL
namespace Go.Proofs.YtlkheeegkifblaaDoor.FP
open Go.Proofs.YtlkheeegkifblaaDoor.P
theorem hd_shape {F : Fo} {x : Nat} (h : F.hd = x) (hx : x ≠ 0) : ∃ t k n, F = .nd x t k n := by
 cases F with
 | nil => exact absurd h.symm hx
 | nd j t k n => exact ⟨t, k, n, by rw [← h]; rfl⟩
structure Back (x up p : Nat) (F : Fo) : Prop where
 mem : sib x p F = 0 ∨ sib x p F ∈ F.ids
 aft : sib x p F ≠ 0 → insAfter (sib x p F) x (txtF x F) (sub x F) (del x F) = F
 fst : sib x p F = 0 → par x up F ∈ F.ids ∧ insFirst (par x up F) x (txtF x F) (sub x F) (del x F) = F
 upr : sib x p F ≠ 0 → par (sib x p F) up F = par x up F ∧ sib x p F ≠ x
theorem back_in {x : Nat} (hx0 : x ≠ 0) : ∀ (F : Fo) (up p : Nat), F.ids.Nodup → (∀ y ∈ F.ids, y ≠ 0) → x ∈ F.ids → F.hd ≠ x → Back x up p F
 | .nil, up, p, _, _, hx, _ => by simp [Fo.ids] at hx
 | .nd j u k n, up, p, hn, h0, hx, hh => by
  obtain ⟨n1, n2, n3, n4, n5⟩ := nodup_nd hn
  have hj0 : j ≠ 0 := h0 j (by simp [Fo.ids])
  have e : ¬ j = x := hh
  simp only [Fo.ids, List.mem_cons, List.mem_append] at hx
  by_cases hk : x ∈ k.ids
  ·have hxn := n5 x hk
   have es : sib x p (.nd j u k n) = sib x 0 k := by rw [sib, if_neg e, if_pos hk]
   have et : txtF x (.nd j u k n) = txtF x k := by rw [txtF, if_neg e, if_pos hk]
   have eb : sub x (.nd j u k n) = sub x k := by rw [sub, if_neg e, if_pos hk]
   have ep : par x up (.nd j u k n) = par x j k := by rw [par, if_neg e, if_pos hk]
   have ed : FP.del x (.nd j u k n) = .nd j u (FP.del x k) n := by rw [FP.del, if_neg e, del_id x hxn]
   by_cases hkx : k.hd = x
   ·obtain ⟨t, s, m, rfl⟩ := hd_shape hkx hx0
    have s0 : sib x 0 (.nd x t s m) = 0 := by rw [sib, if_pos rfl]
    refine ⟨Or.inl (es.trans s0), fun h => absurd (es.trans s0) h, fun _ => ?_, fun h => absurd (es.trans s0) h⟩
    rw [ep, et, eb, ed, par, if_pos rfl, txtF, if_pos rfl, sub, if_pos rfl, FP.del, if_pos rfl, insFirst, if_pos rfl]
    exact ⟨by simp [Fo.ids], rfl⟩
   ·have b := back_in hx0 k j 0 n3 (fun y hy => h0 y (by simp [Fo.ids, hy])) hk hkx
    refine ⟨?_, fun h => ?_, fun h => ?_, fun h => ?_⟩
    ·rw [es]; exact b.mem.imp id fun h => by simp [Fo.ids, h]
    ·rw [es] at h
     have hm := b.mem.resolve_left h
     rw [es, et, eb, ed, insAfter, if_neg (fun g => n1 (by rw [g]; exact hm)), b.aft h, insAfter_id _ _ _ _ (n5 _ hm)]
    ·rw [es] at h
     obtain ⟨q1, q2⟩ := b.fst h
     refine ⟨by rw [ep]; simp [Fo.ids, q1], ?_⟩
     rw [et, eb, ed, ep, insFirst, if_neg (fun g => n1 (by rw [g]; exact q1)), q2, insFirst_id _ _ _ _ (n5 _ q1)]
    ·rw [es] at h ⊢
     have hm := b.mem.resolve_left h
     obtain ⟨q1, q2⟩ := b.upr h
     refine ⟨?_, q2⟩
     rw [ep, par, if_neg (fun g => n1 (by rw [g]; exact hm)), if_pos hm, q1]
  ·have hxn : x ∈ n.ids := by grind
   have es : sib x p (.nd j u k n) = sib x j n := by rw [sib, if_neg e, if_neg hk]
   have et : txtF x (.nd j u k n) = txtF x n := by rw [txtF, if_neg e, if_neg hk]
   have eb : sub x (.nd j u k n) = sub x n := by rw [sub, if_neg e, if_neg hk]
   have ep : par x up (.nd j u k n) = par x up n := by rw [par, if_neg e, if_neg hk]
   have ed : FP.del x (.nd j u k n) = .nd j u k (FP.del x n) := by rw [FP.del, if_neg e, del_id x hk]
   by_cases hnx : n.hd = x
   ·obtain ⟨t, s, m, rfl⟩ := hd_shape hnx hx0
    have s0 : sib x j (.nd x t s m) = j := by rw [sib, if_pos rfl]
    refine ⟨?_, fun h => ?_, fun h => absurd (h.symm.trans (es.trans s0)).symm hj0, fun h => ?_⟩
    ·rw [es, s0]; exact Or.inr (by simp [Fo.ids])
    ·rw [es, s0, et, eb, ed, txtF, if_pos rfl, sub, if_pos rfl, FP.del, if_pos rfl, insAfter, if_pos rfl]
    ·rw [es, s0, ep, par, if_pos rfl, par, if_pos rfl]; exact ⟨rfl, e⟩
   ·have b := back_in hx0 n up j n4 (fun y hy => h0 y (by simp [Fo.ids, hy])) hxn hnx
    refine ⟨?_, fun h => ?_, fun h => ?_, fun h => ?_⟩
    ·rw [es]; exact b.mem.imp id fun h => by simp [Fo.ids, h]
    ·rw [es] at h
     have hm := b.mem.resolve_left h
     rw [es, et, eb, ed, insAfter, if_neg (fun g => n2 (by rw [g]; exact hm)), b.aft h, insAfter_id _ _ _ _ (fun g => n5 _ g hm)]
    ·rw [es] at h
     obtain ⟨q1, q2⟩ := b.fst h
     refine ⟨by rw [ep]; simp [Fo.ids, q1], ?_⟩
     rw [et, eb, ed, ep, insFirst, if_neg (fun g => n2 (by rw [g]; exact q1)), q2, insFirst_id _ _ _ _ (fun g => n5 _ g q1)]
    ·rw [es] at h ⊢
     have hm := b.mem.resolve_left h
     obtain ⟨q1, q2⟩ := b.upr h
     refine ⟨?_, q2⟩
     rw [ep, par, if_neg (fun g => n2 (by rw [g]; exact hm)), if_neg (fun g => n5 _ g hm), q1]
structure BackT (x : Nat) (F : Fo) : Prop where
 mem : sibT x F = 0 ∨ sibT x F ∈ F.ids
 aft : sibT x F ≠ 0 → insAfter (sibT x F) x (txtF x F) (sub x F) (del x F) = F
 fst : sibT x F = 0 → insFirst (par x 0 F) x (txtF x F) (sub x F) (del x F) = F
 up : par x 0 F ∈ F.ids
 upr : sibT x F ≠ 0 → par (sibT x F) 0 F = par x 0 F ∧ sibT x F ≠ x
theorem back_top {x : Nat} (hx0 : x ≠ 0) : ∀ (F : Fo), F.ids.Nodup → (∀ y ∈ F.ids, y ≠ 0) → x ∈ F.ids → x ∉ F.tops → BackT x F
 | .nil, _, _, hx, _ => by simp [Fo.ids] at hx
 | .nd j u k n, hn, h0, hx, ht => by
  have hpar : par x 0 (.nd j u k n) ∈ (Fo.nd j u k n).ids := by
   rcases dep_par x (.nd j u k n) 0 0 hn hx with ⟨h, _⟩ | ⟨h, _⟩
   ·exact absurd h ht
   ·exact h
  obtain ⟨n1, n2, n3, n4, n5⟩ := nodup_nd hn
  have hj0 : j ≠ 0 := h0 j (by simp [Fo.ids])
  simp only [Fo.tops, List.mem_cons, not_or] at ht
  have e : ¬ j = x := fun g => ht.1 g.symm
  simp only [Fo.ids, List.mem_cons, List.mem_append] at hx
  by_cases hk : x ∈ k.ids
  ·have hxn := n5 x hk
   have es : sibT x (.nd j u k n) = sib x 0 k := by rw [sibT, if_pos hk]
   have et : txtF x (.nd j u k n) = txtF x k := by rw [txtF, if_neg e, if_pos hk]
   have eb : sub x (.nd j u k n) = sub x k := by rw [sub, if_neg e, if_pos hk]
   have ep : par x 0 (.nd j u k n) = par x j k := by rw [par, if_neg e, if_pos hk]
   have ed : FP.del x (.nd j u k n) = .nd j u (FP.del x k) n := by rw [FP.del, if_neg e, del_id x hxn]
   by_cases hkx : k.hd = x
   ·obtain ⟨t, s, m, rfl⟩ := hd_shape hkx hx0
    have s0 : sib x 0 (.nd x t s m) = 0 := by rw [sib, if_pos rfl]
    refine ⟨Or.inl (es.trans s0), fun h => absurd (es.trans s0) h, fun _ => ?_, hpar, fun h => absurd (es.trans s0) h⟩
    rw [ep, et, eb, ed, par, if_pos rfl, txtF, if_pos rfl, sub, if_pos rfl, FP.del, if_pos rfl, insFirst, if_pos rfl]
   ·have b := back_in hx0 k j 0 n3 (fun y hy => h0 y (by simp [Fo.ids, hy])) hk hkx
    refine ⟨?_, fun h => ?_, fun h => ?_, hpar, fun h => ?_⟩
    ·rw [es]; exact b.mem.imp id fun h => by simp [Fo.ids, h]
    ·rw [es] at h
     have hm := b.mem.resolve_left h
     rw [es, et, eb, ed, insAfter, if_neg (fun g => n1 (by rw [g]; exact hm)), b.aft h, insAfter_id _ _ _ _ (n5 _ hm)]
    ·rw [es] at h
     obtain ⟨q1, q2⟩ := b.fst h
     rw [et, eb, ed, ep, insFirst, if_neg (fun g => n1 (by rw [g]; exact q1)), q2, insFirst_id _ _ _ _ (n5 _ q1)]
    ·rw [es] at h ⊢
     have hm := b.mem.resolve_left h
     obtain ⟨q1, q2⟩ := b.upr h
     refine ⟨?_, q2⟩
     rw [ep, par, if_neg (fun g => n1 (by rw [g]; exact hm)), if_pos hm, q1]
  ·have hxn : x ∈ n.ids := by grind
   have es : sibT x (.nd j u k n) = sibT x n := by rw [sibT, if_neg hk]
   have et : txtF x (.nd j u k n) = txtF x n := by rw [txtF, if_neg e, if_neg hk]
   have eb : sub x (.nd j u k n) = sub x n := by rw [sub, if_neg e, if_neg hk]
   have ep : par x 0 (.nd j u k n) = par x 0 n := by rw [par, if_neg e, if_neg hk]
   have ed : FP.del x (.nd j u k n) = .nd j u k (FP.del x n) := by rw [FP.del, if_neg e, del_id x hk]
   have b := back_top hx0 n n4 (fun y hy => h0 y (by simp [Fo.ids, hy])) hxn ht.2
   refine ⟨?_, fun h => ?_, fun h => ?_, hpar, fun h => ?_⟩
   ·rw [es]; exact b.mem.imp id fun h => by simp [Fo.ids, h]
   ·rw [es] at h
    have hm := b.mem.resolve_left h
    rw [es, et, eb, ed, insAfter, if_neg (fun g => n2 (by rw [g]; exact hm)), b.aft h, insAfter_id _ _ _ _ (fun g => n5 _ g hm)]
   ·rw [es] at h
    have q1 := b.up
    rw [et, eb, ed, ep, insFirst, if_neg (fun g => n2 (by rw [g]; exact q1)), b.fst h, insFirst_id _ _ _ _ (fun g => n5 _ g q1)]
   ·rw [es] at h ⊢
    have hm := b.mem.resolve_left h
    obtain ⟨q1, q2⟩ := b.upr h
    refine ⟨?_, q2⟩
    rw [ep, par, if_neg (fun g => n2 (by rw [g]; exact hm)), if_neg (fun g => n5 _ g hm), q1]
theorem put_back {x : Nat} {G : Fo} (b : BackT x G) : mvF G (par x 0 G, sibT x G) x = G := by
 unfold mvF putF
 by_cases h : sibT x G = 0
 ·rw [if_pos h]; exact b.fst h
 ·rw [if_neg h]; exact b.aft h
theorem sib_insFirst_new (p i : Nat) (t : ByteArray) (s : Fo) : ∀ {F : Fo} (q : Nat), i ∉ F.ids → p ∈ F.ids → sib i q (insFirst p i t s F) = 0
 | .nil, _, _, h => by simp [Fo.ids] at h
 | .nd j u k n, q, h, hp => by
  simp only [Fo.ids, List.mem_cons, List.mem_append, not_or] at h hp
  have hj : ¬ j = i := fun e => h.1 e.symm
  rw [insFirst]
  by_cases e : j = p
  ·rw [if_pos e, sib, if_neg hj, if_pos (by simp [Fo.ids]), sib, if_pos rfl]
  ·rw [if_neg e, sib, if_neg hj]
   by_cases hk : p ∈ k.ids
   ·rw [if_pos ((mem_insFirst p i t s i k).2 (Or.inr ⟨hk, Or.inl rfl⟩)), sib_insFirst_new p i t s 0 h.2.1 hk]
   ·rw [if_neg (by rw [mem_insFirst]; grind), sib_insFirst_new p i t s j h.2.2 (by grind)]
theorem sib_insAfter_new (a i : Nat) (t : ByteArray) (s : Fo) : ∀ {F : Fo} (q : Nat), i ∉ F.ids → a ∈ F.ids → sib i q (insAfter a i t s F) = a
 | .nil, _, _, h => by simp [Fo.ids] at h
 | .nd j u k n, q, h, hp => by
  simp only [Fo.ids, List.mem_cons, List.mem_append, not_or] at h hp
  have hj : ¬ j = i := fun e => h.1 e.symm
  rw [insAfter]
  by_cases e : j = a
  ·rw [if_pos e, sib, if_neg hj, if_neg h.2.1, sib, if_pos rfl, e]
  ·rw [if_neg e, sib, if_neg hj]
   by_cases hk : a ∈ k.ids
   ·rw [if_pos ((mem_insAfter a i t s i k).2 (Or.inr ⟨hk, Or.inl rfl⟩)), sib_insAfter_new a i t s 0 h.2.1 hk]
   ·rw [if_neg (by rw [mem_insAfter]; grind), sib_insAfter_new a i t s j h.2.2 (by grind)]
theorem sibT_insFirst_new (p i : Nat) (t : ByteArray) (s : Fo) : ∀ {F : Fo}, i ∉ F.ids → p ∈ F.ids → sibT i (insFirst p i t s F) = 0
 | .nil, _, h => by simp [Fo.ids] at h
 | .nd j u k n, h, hp => by
  simp only [Fo.ids, List.mem_cons, List.mem_append, not_or] at h hp
  rw [insFirst]
  by_cases e : j = p
  ·rw [if_pos e, sibT, if_pos (by simp [Fo.ids]), sib, if_pos rfl]
  ·rw [if_neg e, sibT]
   by_cases hk : p ∈ k.ids
   ·rw [if_pos ((mem_insFirst p i t s i k).2 (Or.inr ⟨hk, Or.inl rfl⟩)), sib_insFirst_new p i t s 0 h.2.1 hk]
   ·rw [if_neg (by rw [mem_insFirst]; grind), sibT_insFirst_new p i t s h.2.2 (by grind)]
theorem sibT_insAfter_new (a i : Nat) (t : ByteArray) (s : Fo) : ∀ {F : Fo}, i ∉ F.ids → a ∈ F.ids → a ∉ F.tops → sibT i (insAfter a i t s F) = a
 | .nil, _, h, _ => by simp [Fo.ids] at h
 | .nd j u k n, h, hp, ht => by
  simp only [Fo.ids, Fo.tops, List.mem_cons, List.mem_append, not_or] at h hp ht
  have e : ¬ j = a := fun g => ht.1 g.symm
  rw [insAfter, if_neg e, sibT]
  by_cases hk : a ∈ k.ids
  ·rw [if_pos ((mem_insAfter a i t s i k).2 (Or.inr ⟨hk, Or.inl rfl⟩)), sib_insAfter_new a i t s 0 h.2.1 hk]
  ·rw [if_neg (by rw [mem_insAfter]; grind), sibT_insAfter_new a i t s h.2.2 (by grind) ht.2]
theorem PutOk.sib {H : Fo} {q : Nat × Nat} {i : Nat} {s : Fo} {t : ByteArray} (o : PutOk H q i s) (h0 : ∀ x ∈ H.ids, x ≠ 0) : sibT i (putF H q i t s) = q.2 := by
 have ht := near_at_top (G := H) o.nd h0 o h0
 unfold putF
 by_cases h : q.2 = 0
 ·rw [if_pos h, sibT_insFirst_new _ _ _ _ o.iH o.up, h]
 ·rw [if_neg h, sibT_insAfter_new _ _ _ _ o.iH (o.at_.resolve_left h).1 (ht.resolve_left h)]
theorem MvOk.sib {G : Fo} {q : Nat × Nat} {i : Nat} (o : MvOk G i q) (h0 : ∀ x ∈ G.ids, x ≠ 0) : sibT i (mvF G q i) = q.2 := o.put.sib fun x hx => h0 x (del_ids_sub i hx)
theorem MvOk.par_new {G : Fo} {q : Nat × Nat} {i : Nat} (o : MvOk G i q) : par i 0 (mvF G q i) = q.1 := o.put.par
theorem par_not_under {G : Fo} (hn : G.ids.Nodup) (h0 : ∀ x ∈ G.ids, x ≠ 0) {i : Nat} (hi : i ∈ G.ids) (hit : i ∉ G.tops) : ¬ under i (par i 0 G) G := by
 obtain ⟨h, hr⟩ := reptop_ex G hn h0
 have hp := reptop_par hr hn hi
 obtain ⟨q1, q2⟩ := reptop_up hr hn hi hit
 rintro ⟨_, e | hs⟩
 ·exact q2 (hp.trans e)
 ·exact upT_out hr hn hi hit (hp ▸ hs)
theorem near_back {G : Fo} (hn : G.ids.Nodup) (h0 : ∀ x ∈ G.ids, x ≠ 0) {i : Nat} (hi : i ∈ G.ids) (hit : i ∉ G.tops) : nearF G (i : Int) (par i 0 G : Nat) (sibT i G : Nat) = (par i 0 G, sibT i G) := by
 have b := back_top (h0 i hi) G hn h0 hi hit
 have hp0 := h0 _ b.up
 unfold nearF
 rw [fnd_nat b.up, if_neg hp0]
 by_cases h : sibT i G = 0
 ·have : fndF G ((sibT i G : Nat) : Int) = 0 := by rw [h]; exact fnd_not (y := 0) fun g => h0 0 g rfl
  rw [this, if_pos rfl, h]
 ·have hm := b.mem.resolve_left h
  obtain ⟨q1, q2⟩ := b.upr h
  rw [fnd_nat hm, if_neg h, if_neg (fun g => g q1), if_neg (by omega)]
theorem move_back {G : Fo} (hn : G.ids.Nodup) (h0 : ∀ x ∈ G.ids, x ≠ 0) {i : Nat} (hi : i ∈ G.ids) (hit : i ∉ G.tops) {q : Nat × Nat} (o : MvOk G i q) (e : ByteArray) : doF (mvF G q i) 3 (i : Int) (par i 0 G : Nat) (sibT i G : Nat) e = G := by
 have b := back_top (h0 i hi) G hn h0 hi hit
 have hw : ¬ under i (fndF (mvF G q i) (par i 0 G : Nat)) (mvF G q i) := by rw [o.fnd, o.under, fnd_nat b.up]; exact par_not_under hn h0 hi hit
 rw [doF_move ((o.ids i).2 hi) (h0 i hi) _ _ _ hw, o.near, near_back hn h0 hi hit, o.again, put_back b]
def upO (D : Int) : List S37 → Option Int
 | [] => none
 | r :: l => if r.f1 < D then some r.f0 else upO D l
def aheadO (D : Int) : List S37 → Option Int
 | [] => none
 | r :: l => if r.f1 < D then some 0 else if r.f1 = D then some r.f0 else aheadO D l
theorem upO_append (D : Int) : ∀ (a b : List S37), upO D (a ++ b) = match upO D a with | some v => some v | none => upO D b
 | [], b => rfl
 | r :: a, b => by
  rw [List.cons_append, upO, upO]
  split
  ·rfl
  ·exact upO_append D a b
theorem aheadO_append (D : Int) : ∀ (a b : List S37), aheadO D (a ++ b) = match aheadO D a with | some v => some v | none => aheadO D b
 | [], b => rfl
 | r :: a, b => by
  rw [List.cons_append, aheadO, aheadO]
  split
  ·rfl
  ·split
   ·rfl
   ·exact aheadO_append D a b
theorem upO_none {D : Int} : ∀ {l : List S37}, (∀ r ∈ l, D ≤ r.f1) → upO D l = none
 | [], _ => rfl
 | r :: l, h => by
  rw [upO, if_neg (by have := h r List.mem_cons_self; omega)]
  exact upO_none fun q hq => h q (List.mem_cons_of_mem _ hq)
theorem aheadO_none {D : Int} : ∀ {l : List S37}, (∀ r ∈ l, D < r.f1) → aheadO D l = none
 | [], _ => rfl
 | r :: l, h => by
  have := h r List.mem_cons_self
  rw [aheadO, if_neg (by omega), if_neg (by omega)]
  exact aheadO_none fun q hq => h q (List.mem_cons_of_mem _ hq)
def preF (x : Nat) (d : Nat) : Fo → List S37
 | .nil => []
 | .nd j u k n => if j = x then [] else ⟨(j : Int), (d : Int), u⟩ :: (if x ∈ k.ids then preF x (d + 1) k else k.fl (d + 1) ++ preF x d n)
theorem pre_split (x : Nat) : ∀ (F : Fo) (d : Nat), x ∈ F.ids → ∃ rest, F.fl d = preF x d F ++ ⟨(x : Int), (dep x d F : Int), txtF x F⟩ :: rest
 | .nil, d, h => by simp [Fo.ids] at h
 | .nd j u k n, d, h => by
  simp only [Fo.ids, List.mem_cons, List.mem_append] at h
  by_cases e : j = x
  ·subst e
   exact ⟨k.fl (d + 1) ++ n.fl d, by rw [preF, if_pos rfl, dep, if_pos rfl, txtF, if_pos rfl, Fo.fl]; rfl⟩
  ·by_cases hk : x ∈ k.ids
   ·obtain ⟨rest, hr⟩ := pre_split x k (d + 1) hk
    refine ⟨rest ++ n.fl d, ?_⟩
    rw [preF, if_neg e, if_pos hk, dep, if_neg e, if_pos hk, txtF, if_neg e, if_pos hk, Fo.fl, hr]
    simp
   ·obtain ⟨rest, hr⟩ := pre_split x n d (by grind)
    refine ⟨rest, ?_⟩
    rw [preF, if_neg e, if_neg hk, dep, if_neg e, if_neg hk, txtF, if_neg e, if_neg hk, Fo.fl, hr]
    simp
theorem preF_out (x : Nat) : ∀ (F : Fo) (d : Nat), F.ids.Nodup → ∀ r ∈ preF x d F, r.f0 ≠ (x : Int)
 | .nil, d, _, r, h => by simp [preF] at h
 | .nd j u k n, d, hn, r, h => by
  obtain ⟨n1, n2, n3, n4, n5⟩ := nodup_nd hn
  rw [preF] at h
  by_cases e : j = x
  ·rw [if_pos e] at h; cases h
  ·rw [if_neg e] at h
   rcases List.mem_cons.1 h with rfl | h
   ·show (j : Int) ≠ (x : Int); omega
   ·by_cases hk : x ∈ k.ids
    ·rw [if_pos hk] at h; exact preF_out x k (d + 1) n3 r h
    ·rw [if_neg hk] at h
     rcases List.mem_append.1 h with h | h
     ·obtain ⟨i, hi, e2⟩ := fl_ids k (d + 1) h
      intro e3
      rw [e2] at e3
      exact hk (by rw [show x = i by omega]; exact hi)
     ·exact preF_out x n d n4 r h
theorem split_one {x : Int} : ∀ {a a' b b' : List S37} {r r' : S37}, (∀ q ∈ a, q.f0 ≠ x) → (∀ q ∈ a', q.f0 ≠ x) → r.f0 = x → r'.f0 = x → a ++ r :: b = a' ++ r' :: b' → a = a'
 | [], [], _, _, _, _, _, _, _, _, _ => rfl
 | [], q :: a', _, _, r, r', _, h2, h3, _, e => by
  simp only [List.nil_append, List.cons_append, List.cons.injEq] at e
  exact absurd h3 (by rw [e.1]; exact h2 q List.mem_cons_self)
 | q :: a, [], _, _, r, r', h1, _, _, h4, e => by
  simp only [List.nil_append, List.cons_append, List.cons.injEq] at e
  exact absurd h4 (by rw [← e.1]; exact h1 q List.mem_cons_self)
 | q :: a, q' :: a', b, b', r, r', h1, h2, h3, h4, e => by
  simp only [List.cons_append, List.cons.injEq] at e
  rw [e.1, split_one (fun y hy => h1 y (List.mem_cons_of_mem _ hy)) (fun y hy => h2 y (List.mem_cons_of_mem _ hy)) h3 h4 e.2]
theorem spot_pre {x d : Nat} {G : Fo} {pre post : List S37} (hn : G.ids.Nodup) (hx : x ∈ G.ids) (s : Spot x d G pre post) : pre = preF x d G := by
 obtain ⟨rest, hr⟩ := pre_split x G d hx
 have := s.all
 rw [hr] at this
 exact (split_one (x := (x : Int)) (preF_out x G d hn) s.out rfl rfl this).symm
theorem up_pre (x : Nat) : ∀ (F : Fo) (d up : Nat), F.ids.Nodup → x ∈ F.ids → upO (dep x d F) (preF x d F).reverse = if x ∈ F.tops then none else some (par x up F : Int)
 | .nil, d, up, _, h => by simp [Fo.ids] at h
 | .nd j u k n, d, up, hn, h => by
  obtain ⟨n1, n2, n3, n4, n5⟩ := nodup_nd hn
  simp only [Fo.ids, List.mem_cons, List.mem_append] at h
  by_cases e : j = x
  ·rw [preF, if_pos e, if_pos (by simp [Fo.tops, e])]; rfl
  ·have e' : x ≠ j := fun g => e g.symm
   by_cases hk : x ∈ k.ids
   ·have ht : x ∉ (Fo.nd j u k n).tops := by
     simp only [Fo.tops, List.mem_cons, not_or]
     exact ⟨e', fun g => n5 x hk (tops_ids g)⟩
    rw [if_neg ht, preF, if_neg e, if_pos hk, dep, if_neg e, if_pos hk, par, if_neg e, if_pos hk, List.reverse_cons, upO_append, up_pre x k (d + 1) j n3 hk]
    by_cases hkt : x ∈ k.tops
    ·rw [if_pos hkt]
     have hd : dep x (d + 1) k = d + 1 ∧ par x j k = j := by
      rcases dep_par x k (d + 1) j n3 hk with ⟨_, h2, h3⟩ | ⟨h2, h3⟩
      ·exact ⟨h2, h3⟩
      ·exfalso
       have := up_top x k j n3 hkt
       rw [this] at h2
       exact n1 h2
     show upO _ [_] = _
     rw [upO, if_pos (by rw [hd.1]; simp only; omega), hd.2]
    ·rw [if_neg hkt]
   ·have hxn : x ∈ n.ids := by grind
    rw [preF, if_neg e, if_neg hk, dep, if_neg e, if_neg hk, par, if_neg e, if_neg hk, List.reverse_cons, List.reverse_append, upO_append, upO_append, up_pre x n d up n4 hxn]
    by_cases hnt : x ∈ n.tops
    ·have hd := dep_top x n d n4 hnt
     rw [if_pos hnt, if_pos (by simp [Fo.tops, hnt])]
     simp only
     rw [upO_none (l := (k.fl (d + 1)).reverse) (fun r hr => by have := fl_deep k (d + 1) (List.mem_reverse.1 hr); rw [hd]; omega)]
     simp only
     rw [upO, if_neg (by rw [hd]; simp only; omega)]; rfl
    ·rw [if_neg hnt, if_neg (by simp only [Fo.tops, List.mem_cons, not_or]; exact ⟨e', hnt⟩)]; try rfl
where
 up_top (x : Nat) : ∀ (F : Fo) (up : Nat), F.ids.Nodup → x ∈ F.tops → par x up F = up
  | .nil, _, _, h => by simp [Fo.tops] at h
  | .nd j u k n, up, hn, h => by
   obtain ⟨n1, n2, n3, n4, n5⟩ := nodup_nd hn
   simp only [Fo.tops, List.mem_cons] at h
   rw [par]
   by_cases e : j = x
   ·rw [if_pos e]
   ·have hx : x ∈ n.tops := by grind
    rw [if_neg e, if_neg (fun g => n5 x g (tops_ids hx)), up_top x n up n4 hx]
 dep_top (x : Nat) : ∀ (F : Fo) (d : Nat), F.ids.Nodup → x ∈ F.tops → dep x d F = d
  | .nil, _, _, h => by simp [Fo.tops] at h
  | .nd j u k n, d, hn, h => by
   obtain ⟨n1, n2, n3, n4, n5⟩ := nodup_nd hn
   simp only [Fo.tops, List.mem_cons] at h
   rw [dep]
   by_cases e : j = x
   ·rw [if_pos e]
   ·have hx : x ∈ n.tops := by grind
    rw [if_neg e, if_neg (fun g => n5 x g (tops_ids hx)), dep_top x n d n4 hx]
theorem dep_ge (x : Nat) : ∀ (F : Fo) (d : Nat), x ∈ F.ids → d ≤ dep x d F
 | .nil, d, h => by simp [Fo.ids] at h
 | .nd j u k n, d, h => by
  simp only [Fo.ids, List.mem_cons, List.mem_append] at h
  rw [dep]
  by_cases e : j = x
  ·rw [if_pos e]; exact Nat.le_refl _
  ·rw [if_neg e]
   by_cases hk : x ∈ k.ids
   ·rw [if_pos hk]; have := dep_ge x k (d + 1) hk; omega
   ·rw [if_neg hk]; exact dep_ge x n d (by grind)
theorem hd_top {x : Nat} (hx : x ≠ 0) {F : Fo} (h : F.hd = x) : x ∈ F.tops := by
 obtain ⟨t, k, n, rfl⟩ := hd_shape h hx
 simp [Fo.tops]
theorem ahead_in {x : Nat} (hx0 : x ≠ 0) : ∀ (F : Fo) (d p : Nat), F.ids.Nodup → x ∈ F.ids → aheadO (dep x d F) (preF x d F).reverse = if F.hd = x then none else some (sib x p F : Int)
 | .nil, d, p, _, h => by simp [Fo.ids] at h
 | .nd j u k n, d, p, hn, h => by
  obtain ⟨n1, n2, n3, n4, n5⟩ := nodup_nd hn
  simp only [Fo.ids, List.mem_cons, List.mem_append] at h
  by_cases e : j = x
  ·rw [preF, if_pos e, if_pos (by exact e)]; rfl
  ·rw [if_neg (show ¬ (Fo.nd j u k n).hd = x from e)]
   by_cases hk : x ∈ k.ids
   ·rw [preF, if_neg e, if_pos hk, dep, if_neg e, if_pos hk, sib, if_neg e, if_pos hk, List.reverse_cons, aheadO_append, ahead_in hx0 k (d + 1) 0 n3 hk]
    by_cases hkx : k.hd = x
    ·rw [if_pos hkx]
     simp only
     have := dep_ge x k (d + 1) hk
     rw [aheadO, if_pos (by simp only; omega)]
     obtain ⟨t, s, m, rfl⟩ := hd_shape hkx hx0
     rw [sib, if_pos rfl]; rfl
    ·rw [if_neg hkx]
   ·have hxn : x ∈ n.ids := by grind
    rw [preF, if_neg e, if_neg hk, dep, if_neg e, if_neg hk, sib, if_neg e, if_neg hk, List.reverse_cons, List.reverse_append, aheadO_append, aheadO_append, ahead_in hx0 n d j n4 hxn]
    by_cases hnx : n.hd = x
    ·rw [if_pos hnx]
     have hd := up_pre.dep_top x n d n4 (hd_top hx0 hnx)
     simp only
     rw [aheadO_none (l := (k.fl (d + 1)).reverse) (fun r hr => by have := fl_deep k (d + 1) (List.mem_reverse.1 hr); rw [hd]; omega)]
     simp only
     rw [aheadO, if_neg (by rw [hd]; simp), if_pos (by rw [hd])]
     obtain ⟨t, s, m, rfl⟩ := hd_shape hnx hx0
     rw [sib, if_pos rfl]
    ·rw [if_neg hnx]
theorem dep_insFirst_old (p i : Nat) (t : ByteArray) (s : Fo) {x : Nat} (hx : x ∉ s.ids) (hxi : x ≠ i) : ∀ (F : Fo) (d : Nat), dep x d (insFirst p i t s F) = dep x d F
 | .nil, _ => rfl
 | .nd j u k n, d => by
  have m1 : x ∈ (insFirst p i t s k).ids ↔ x ∈ k.ids := by rw [mem_insFirst]; grind
  have m2 : x ∈ (Fo.nd i t s k).ids ↔ x ∈ k.ids := by simp only [Fo.ids, List.mem_cons, List.mem_append]; grind
  rw [insFirst]
  by_cases e : j = p
  ·rw [if_pos e]
   simp only [dep, m2, if_neg (fun e : i = x => hxi e.symm), if_neg hx]
  ·rw [if_neg e]
   simp only [dep, m1, dep_insFirst_old p i t s hx hxi k, dep_insFirst_old p i t s hx hxi n]
theorem dep_insAfter_old (a i : Nat) (t : ByteArray) (s : Fo) {x : Nat} (hx : x ∉ s.ids) (hxi : x ≠ i) : ∀ (F : Fo) (d : Nat), dep x d (insAfter a i t s F) = dep x d F
 | .nil, _ => rfl
 | .nd j u k n, d => by
  have m1 : x ∈ (insAfter a i t s k).ids ↔ x ∈ k.ids := by rw [mem_insAfter]; grind
  rw [insAfter]
  by_cases e : j = a
  ·rw [if_pos e]
   simp only [dep, if_neg (fun e : i = x => hxi e.symm), if_neg hx]
  ·rw [if_neg e]
   simp only [dep, m1, dep_insAfter_old a i t s hx hxi k, dep_insAfter_old a i t s hx hxi n]
theorem dep_del (i a : Nat) : ∀ (G : Fo) (d : Nat), G.ids.Nodup → a ∈ (del i G).ids → dep a d (del i G) = dep a d G
 | .nil, _, _, h => rfl
 | .nd j u k n, d, hn, h => by
  obtain ⟨n1, n2, n3, n4, n5⟩ := nodup_nd hn
  rw [FP.del] at h ⊢
  by_cases e : j = i
  ·rw [if_pos e] at h ⊢
   rw [dep, if_neg (fun (g : j = a) => n2 (by rw [g]; exact h)), if_neg (fun g => n5 a g h)]
  ·rw [if_neg e] at h ⊢
   simp only [Fo.ids, List.mem_cons, List.mem_append] at h
   rw [dep, dep]
   by_cases e2 : j = a
   ·rw [if_pos e2, if_pos e2]
   ·rw [if_neg e2, if_neg e2]
    by_cases hk : a ∈ (FP.del i k).ids
    ·rw [if_pos hk, if_pos (del_ids_sub i hk)]; exact dep_del i a k (d + 1) n3 hk
    ·have hn' : a ∈ (FP.del i n).ids := by rcases h with g | g | g; exact absurd g.symm e2; exact absurd g hk; exact g
     rw [if_neg hk, if_neg (fun g => n5 a g (del_ids_sub i hn'))]; exact dep_del i a n d n4 hn'
theorem MvOk.dep_old {G : Fo} {q : Nat × Nat} {i : Nat} (o : MvOk G i q) {x : Nat} (hx : x ∈ (FP.del i G).ids) : dep x 0 (mvF G q i) = dep x 0 G := by
 obtain ⟨h1, h2⟩ := o.put.ne hx
 rw [← dep_del i x G 0 o.nd hx]
 unfold mvF putF
 split
 ·exact dep_insFirst_old _ _ _ _ h2 h1 _ _
 ·exact dep_insAfter_old _ _ _ _ h2 h1 _ _
theorem MvOk.dep_new {G : Fo} {q : Nat × Nat} {i : Nat} (o : MvOk G i q) (h0 : ∀ x ∈ G.ids, x ≠ 0) : dep i 0 (mvF G q i) = dep q.1 0 G + 1 := by
 have hp := o.par_new
 rcases dep_par i (mvF G q i) 0 0 o.nodup ((o.ids i).2 o.mem) with ⟨_, _, h3⟩ | ⟨_, h3⟩
 ·rw [hp] at h3
  exact absurd h3 (h0 _ (del_ids_sub i o.put.up))
 ·rw [h3, hp, o.dep_old o.put.up]
def lastK (x : Nat) (G : Fo) : Nat := lastN 0 (sub x G).tops
theorem lastN_cases (l : List Nat) : (l = [] ∧ lastN 0 l = 0) ∨ ∃ l', l = l' ++ [lastN 0 l] := by
 rcases List.eq_nil_or_concat l with rfl | ⟨l', b, rfl⟩
 ·exact Or.inl ⟨rfl, rfl⟩
 ·rw [List.concat_eq_append, lastN_snoc]; exact Or.inr ⟨l', rfl⟩
structure SibOk (G : Fo) (m a : Nat) : Prop where
 mem : a ∈ G.ids
 par : FP.par a 0 G = FP.par m 0 G
 ne : a ≠ m
 out : ¬ under m a G
 in_ : ¬ under a m G
 top : a ∉ G.tops
theorem not_under_sib {G : Fo} (hn : G.ids.Nodup) (h0 : ∀ x ∈ G.ids, x ≠ 0) {m a : Nat} (hm : m ∈ G.ids) (hmt : m ∉ G.tops) (hp : par a 0 G = par m 0 G) (hne : a ≠ m) : ¬ under m a G := by
 rintro ⟨_, e | hs⟩
 ·exact hne e
 ·obtain ⟨h, hr⟩ := reptop_ex G hn h0
  obtain ⟨r1, _⟩ := reptop_sub hr hn hm
  have h1 := rep_par r1 (sub_nodup m hn) hs
  rw [← par_sub m a G 0 hn hs, hp] at h1
  have h2 := par_not_under hn h0 hm hmt
  rcases rep_up r1 (sub_nodup m hn) hs with g | g
  ·rw [h1] at g; exact h2 ⟨hm, Or.inl g⟩
  ·rw [h1] at g; exact h2 ⟨hm, Or.inr g⟩
theorem sib_ok {G : Fo} (hn : G.ids.Nodup) (h0 : ∀ x ∈ G.ids, x ≠ 0) {m : Nat} (hm : m ∈ G.ids) (hmt : m ∉ G.tops) (hs : sibT m G ≠ 0) : SibOk G m (sibT m G) := by
 have b := back_top (h0 m hm) G hn h0 hm hmt
 have hmem := b.mem.resolve_left hs
 obtain ⟨q1, q2⟩ := b.upr hs
 have hat : sibT m G ∉ G.tops := fun ht => by
  have := par_top0 (G := G) hn ht
  rw [q1] at this
  exact h0 _ b.up this
 exact ⟨hmem, q1, q2, not_under_sib hn h0 hm hmt q1 q2, not_under_sib hn h0 hmem hat q1.symm (fun e => q2 e.symm), hat⟩
structure OutOk (G : Fo) (m u : Nat) : Prop where
 near : nearF G (m : Int) (par u 0 G : Nat) (u : Int) = (par u 0 G, u)
 wh : ¬ under m (par u 0 G) G
 mv : MvOk G m (par u 0 G, u)
 deep : dep m 0 (mvF G (par u 0 G, u) m) + 1 = dep m 0 G
 ahead : sibT m (mvF G (par u 0 G, u) m) = u
theorem out_ok {G : Fo} (hn : G.ids.Nodup) (h0 : ∀ x ∈ G.ids, x ≠ 0) (h3 : 3 ∈ G.tops) {m : Nat} (hm : m ∈ G.ids) (hmt : m ∉ G.tops) (hut : par m 0 G ∉ G.tops) : OutOk G m (par m 0 G) := by
 have b := back_top (h0 m hm) G hn h0 hm hmt
 obtain ⟨u, hu⟩ : ∃ u, u = par m 0 G := ⟨_, rfl⟩
 have hum : u ∈ G.ids := hu ▸ b.up
 have b2 := back_top (h0 u hum) G hn h0 hum (hu ▸ hut)
 have hmu : ¬ under m u G := hu ▸ par_not_under hn h0 hm hmt
 have hne : u ≠ m := fun e => hmu ⟨hm, Or.inl e⟩
 have hov : ¬ under m (par u 0 G) G := by
  rintro ⟨_, e | hs⟩
  ·
   have : u ∈ (sub m G).tops := (kids_par hn h0 hm).2 ⟨hum, e⟩
   exact hmu ⟨hm, Or.inr (tops_ids this)⟩
  ·
   have h1 := sub_sub m (par u 0 G) G hn hs
   have h2 : u ∈ (sub (par u 0 G) G).tops := (kids_par hn h0 b2.up).2 ⟨hum, rfl⟩
   rw [h1] at h2
   exact hmu ⟨hm, Or.inr (sub_ids _ (tops_ids h2))⟩
 have hnear : nearF G (m : Int) (par u 0 G : Nat) (u : Int) = (par u 0 G, u) := by
  unfold nearF
  rw [fnd_nat b2.up, if_neg (h0 _ b2.up), fnd_nat hum, if_neg (h0 _ hum), if_neg (fun g => g rfl), if_neg (by omega)]
 have o := move_ok hn h0 h3 hm hmt (up := (par u 0 G : Nat)) (at_ := (u : Int)) (by rw [fnd_nat b2.up]; exact hov)
 rw [hnear] at o
 rw [← hu]
 refine ⟨hnear, hov, o, ?_, o.sib h0⟩
 rw [o.dep_new h0]
 show dep (par u 0 G) 0 G + 1 + 1 = _
 rcases dep_par m G 0 0 hn hm with ⟨g, _⟩ | ⟨_, g2⟩
 ·exact absurd g hmt
 ·rcases dep_par u G 0 0 hn hum with ⟨g, _⟩ | ⟨_, g1⟩
  ·exact absurd g (hu ▸ hut)
  ·rw [g2, ← hu, g1]
theorem tops_del_mem (x : Nat) : ∀ {F : Fo}, F.ids.Nodup → x ∈ F.tops → (del x F).tops = F.tops.erase x
 | .nil, _, h => by simp [Fo.tops] at h
 | .nd j u k n, hn, h => by
  obtain ⟨n1, n2, n3, n4, n5⟩ := nodup_nd hn
  simp only [Fo.tops, List.mem_cons] at h
  rw [del]
  by_cases e : j = x
  ·rw [if_pos e, Fo.tops, e, List.erase_cons_head]
  ·rw [if_neg e, Fo.tops, Fo.tops, List.erase_cons_tail (by simpa using e), tops_del_mem x n4 (by grind)]
theorem out_last {G : Fo} (hn : G.ids.Nodup) (h0 : ∀ x ∈ G.ids, x ≠ 0) {m : Nat} (hm : m ∈ G.ids) (hmt : m ∉ G.tops) (o : OutOk G m (par m 0 G)) {l : List Nat} (hl : (sub (par m 0 G) G).tops = l ++ [m]) :
  lastK (par m 0 G) (mvF G (par (par m 0 G) 0 G, par m 0 G) m) = sibT m G := by
 obtain ⟨h, hr⟩ := reptop_ex G hn h0
 obtain ⟨s1, _⟩ := sibT_pv hr hn hm hmt
 rw [reptop_par hr hn hm, hl] at s1
 have hnd : (l ++ [m]).Nodup := by
  rw [← hl]; exact tops_nodup (sub_nodup _ hn)
 have hml : ∀ y ∈ l, y ≠ m := fun y hy e => (List.nodup_append.1 hnd).2.2 y hy m (by simp) e
 rw [pv_stop m [] l 0 hml] at s1
 have had : par m 0 G ∈ (del m G).ids := (o.mv.put.at_.resolve_left (h0 _ (back_top (h0 m hm) G hn h0 hm hmt).up)).1
 obtain ⟨n1, n2⟩ := o.mv.put.ne had
 have hmem : m ∈ (sub (par m 0 G) G).tops := by rw [hl]; simp
 have hsub : sub (par m 0 G) (mvF G (par (par m 0 G) 0 G, par m 0 G) m) = del m (sub (par m 0 G) G) := by
  unfold mvF putF
  rw [if_neg (show ¬ par m 0 G = 0 from h0 _ (back_top (h0 m hm) G hn h0 hm hmt).up), sub_insAfter_old _ _ _ _ n2 n1 _ o.mv.put.nd had, insAfter_id _ _ _ _ (sub_self _ o.mv.put.nd), sub_del m _ G hn had]
 unfold lastK
 rw [hsub, tops_del_mem m (sub_nodup _ hn) hmem, hl, s1, List.erase_append_right _ (fun g => hml m g rfl)]
 simp
where
 tops_nodup : ∀ {F : Fo}, F.ids.Nodup → F.tops.Nodup
  | .nil, _ => List.nodup_nil
  | .nd j u k n, hn => by
   obtain ⟨n1, n2, n3, n4, n5⟩ := nodup_nd hn
   exact List.nodup_cons.2 ⟨fun g => n2 (tops_ids g), tops_nodup n4⟩
end Go.Proofs.YtlkheeegkifblaaDoor.FP
namespace Go.Proofs.YtlkheeegkifblaaDoor.P
open Go.RowKit Go.Proofs.YtlkheeegkifblaaDoorW.PrintWords Go.Proofs.YtlkheeegkifblaaDoorW.PrintLast
attribute [local go_sem high] eqA37
end Go.Proofs.YtlkheeegkifblaaDoor.P
namespace Go.Proofs.YtlkheeegkifblaaDoor.PL
open Go.RowKit Go.Proofs.YtlkheeegkifblaaDoor.P Go.Proofs.YtlkheeegkifblaaDoorW.PrintWords Go.Proofs.YtlkheeegkifblaaDoorW.PrintLast Go.Proofs.YtlkheeegkifblaaDoor.FP
def kNo : Int × Int × Int × Int × ByteArray × Bool := (0, 0, 0, 0, ⟨#[]⟩, false)
def kMv (i u a : Int) : Int × Int × Int × Int × ByteArray × Bool := (3, i, u, a, ⟨#[]⟩, true)
def keyInF (G : Fo) (m : Nat) : Int × Int × Int × Int × ByteArray × Bool := if sibT m G = 0 then kNo else kMv m (sibT m G : Nat) (lastK (sibT m G) G : Nat)
def keyOutF (G : Fo) (m : Nat) : Int × Int × Int × Int × ByteArray × Bool := if rootB (FP.par m 0 G : Nat) = true then kNo else kMv m (FP.par (FP.par m 0 G) 0 G : Nat) (FP.par m 0 G : Nat)
def keyR (K : Fo → Nat → Int × Int × Int × Int × ByteArray × Bool) (l : List S37) (id : Int) : Int × Int × Int × Int × ByteArray × Bool :=
 if treeB l = true then (if madeB id = true then (if fndF (toFo l) id = 0 then kNo else K (toFo l) (fndF (toFo l) id)) else kNo) else kNo
end Go.Proofs.YtlkheeegkifblaaDoor.PL
namespace Go.Proofs.YtlkheeegkifblaaDoor.P
open Go.RowKit Go.Shelf Go.Proofs.YtlkheeegkifblaaDoorW.PrintWords Go.Proofs.YtlkheeegkifblaaDoorW.PrintLast Go.Proofs.YtlkheeegkifblaaDoorW.PrintMore Go.Proofs.YtlkheeegkifblaaDoor.PL Go.Proofs.YtlkheeegkifblaaDoor.FP
attribute [local go_sem] Oper.semAt_some

def KeyPost (w : World) (r : Int × Int × Int × Int × ByteArray × Bool) (e : Ending) (w' : World) : Prop :=
 e = .returned (.tuple #[.agg #[.int .i64 r.1, .int .i64 r.2.1, .int .i64 r.2.2.1, .int .i64 r.2.2.2.1, .string r.2.2.2.2.1], .bool r.2.2.2.2.2]) ∧ Below w.heap.size w w'
theorem At.lastOk {w : World} {n0 F : Nat} {A : Nat → Option Nat} {h : Nat → Nd} {G : Fo} (t : At w n0 F A h G) (u : Nat) : lastN 0 (sub u G).tops = 0 ∨ A (lastN 0 (sub u G).tops) ≠ none := by
 rcases lastN_cases (sub u G).tops with ⟨_, e⟩ | ⟨l, e⟩
 ·exact Or.inl e
 ·refine Or.inr ((t.dom _).2 (sub_ids u (tops_ids ?_)))
  have := List.mem_append_right l (List.mem_singleton.2 (rfl : lastN 0 (sub u G).tops = lastN 0 (sub u G).tops))
  rwa [← e] at this
set_option maxHeartbeats 4000000 in
set_option maxRecDepth 100000 in
theorem key1_any {w : World} {n0 Fb : Nat} {A : Nat → Option Nat} {h : Nat → Nd} {G : Fo} (t : At w n0 Fb A h G) {i b : Nat} (hi : A i = some b) (hp : FP.par i 0 G ≠ 0) :
  Calls Tryd.prog 113 #[.pointer (some ⟨Fb, 0, none⟩), .pointer (some ⟨b, 0, none⟩)] w (KeyPost w (keyInF G i)) := by
 unfold keyInF KeyPost
 have hu27 := Tryd.underlying27
 by_cases h0 : sibT i G = 0
 ·rw [if_pos h0]
  unfold kNo
  have T1 := Aside0.mk t
  have HI := Aside0.mk hi
  have HP := Aside0.mk hp
  have H0 := Aside0.mk h0
  clear t hi hp h0
  go_enter Tryd.func113, Tryd.ntmps113
  go_wp2_with (first
   | ((with_reducible refine gate_dst (N := 4) rfl ?_); refine bx_ 4 (#[.int .i64 0, .int .i64 0, .int .i64 0, .int .i64 0, .string (⟨#[]⟩ : ByteArray)]) 27 ?_; intro gb hg W1 hbox hb; have X1 := Aside0.mk (Bx.mk hbox (by rw [hg]; exact Nat.le_refl _) (hb)); have hb1 := Aside0.mk hb; clear hbox hb hg; have T2 := Aside0.mk (T1.out.kept (T1.out.m.below hb1.out)))
   | (go_at_call 76; (with_reducible refine (T2.out.ahead HI.out HP.out).mono ?_); rw [H0.out, T1.out.m.z, pa_none]; rintro en W2 ⟨rfl, hb⟩; have X2 := Aside0.mk (X1.out.step hb); clear hb; have za_0 := X2.out.c0; have ya_0 := X2.out.f 0; have za_1 := X2.out.c1; have ya_1 := X2.out.f 1; have za_2 := X2.out.c2; have ya_2 := X2.out.f 2; have za_3 := X2.out.c3; have ya_3 := X2.out.f 3; have za_4 := X2.out.c4; have ya_4 := X2.out.f 4))
  refine bodyPost_ret (results_ct rfl _ _ gb 27 #[.int .i64 0, .int .i64 0, .int .i64 0, .int .i64 0, .string (⟨#[]⟩ : ByteArray)] (0, 0) _ rfl (by (with_reducible repeat (first | refine blk_drewN ?_ _ | refine blk_drew ?_)); exact X2.out.put _ _ _ _ _) hu27 rfl (by kernel_rfl)) rfl ?_
  exact ⟨rfl, (by (with_reducible repeat (first | apply pw_below_drewN | apply below_drew1)); exact X2.out.put_below _ _ _ _ _)⟩
 ·rw [if_neg h0]
  unfold kMv
  obtain ⟨ba, hba⟩ := Option.ne_none_iff_exists'.1 ((t.sibOk i).resolve_left h0)
  have HL := Aside0.mk (t.lastOk (sibT i G))
  have T1 := Aside0.mk t
  have HI := Aside0.mk hi
  have HP := Aside0.mk hp
  have H0 := Aside0.mk h0
  have HA := Aside0.mk hba
  clear t hi hp h0 hba
  unfold lastK
  go_enter Tryd.func113, Tryd.ntmps113
  go_wp2_with (first
   | ((with_reducible refine gate_dst (N := 4) rfl ?_); refine bx_ 4 (#[.int .i64 0, .int .i64 0, .int .i64 0, .int .i64 0, .string (⟨#[]⟩ : ByteArray)]) 27 ?_; intro gb hg W1 hbox hb; have X1 := Aside0.mk (Bx.mk hbox (by rw [hg]; exact Nat.le_refl _) (hb)); have hb1 := Aside0.mk hb; clear hbox hb hg; have T2 := Aside0.mk (T1.out.kept (T1.out.m.below hb1.out)))
   | (go_at_call 76; (with_reducible refine (T2.out.ahead HI.out HP.out).mono ?_); rw [HA.out, pa_some]; rintro en W2 ⟨rfl, hb⟩; have X2 := Aside0.mk (X1.out.step hb); have T3 := Aside0.mk (T2.out.kept (T2.out.m.below hb)); clear hb)
   | (go_at_call 114; (with_reducible refine (T3.out.lastKid HA.out).mono ?_); rintro en W3 ⟨rfl, hb⟩; have X3 := Aside0.mk (X2.out.step hb); have T4 := Aside0.mk (T3.out.kept (T3.out.m.below hb)); clear hb)
   | (go_at_call 104; (with_reducible refine (moveTo_any T4.out.m HI.out HA.out HL.out).mono ?_); rintro en W4 ⟨rfl, hb⟩; have X4 := Aside0.mk (X3.out.step hb); clear hb; have za_0 := X4.out.c0; have ya_0 := X4.out.f 0; have za_1 := X4.out.c1; have ya_1 := X4.out.f 1; have za_2 := X4.out.c2; have ya_2 := X4.out.f 2; have za_3 := X4.out.c3; have ya_3 := X4.out.f 3; have za_4 := X4.out.c4; have ya_4 := X4.out.f 4))
  refine bodyPost_ret (results_ct rfl _ _ gb 27 #[.int .i64 3, .int .i64 (i : Int), .int .i64 (sibT i G : Nat), .int .i64 (lastN 0 (sub (sibT i G) G).tops : Nat), .string (⟨#[]⟩ : ByteArray)] (0, 0) _ rfl (by (with_reducible repeat (first | refine blk_drewN ?_ _ | refine blk_drew ?_)); exact X4.out.put _ _ _ _ _) hu27 rfl (by kernel_rfl)) rfl ?_
  exact ⟨rfl, (by (with_reducible repeat (first | apply pw_below_drewN | apply below_drew1)); exact X4.out.put_below _ _ _ _ _)⟩
theorem At.parTwo {w : World} {n0 F : Nat} {A : Nat → Option Nat} {h : Nat → Nd} {G : Fo} (t : At w n0 F A h G) {u : Nat} (hu : u ∈ G.ids) (hr : rootB (u : Int) ≠ true) : ∃ b, A (FP.par u 0 G) = some b := by
 have hut : u ∉ G.tops := fun g => by
  rw [t.tops] at g
  simp only [List.mem_cons, List.not_mem_nil, or_false] at g
  rcases g with rfl | rfl | rfl <;> exact hr (by decide)
 have := (reptop_up t.rep t.nd hu hut).1
 rw [t.par hu] at this
 exact t.ok this
set_option maxHeartbeats 4000000 in
set_option maxRecDepth 100000 in
theorem key2_any {w : World} {n0 Fb : Nat} {A : Nat → Option Nat} {h : Nat → Nd} {G : Fo} (t : At w n0 Fb A h G) {i b : Nat} (hi : A i = some b) (hp : FP.par i 0 G ≠ 0) (hG : Glob w) :
  Calls Tryd.prog 115 #[.pointer (some ⟨Fb, 0, none⟩), .pointer (some ⟨b, 0, none⟩)] w (KeyPost w (keyOutF G i)) := by
 unfold keyOutF KeyPost
 have hu27 := Tryd.underlying27
 have hiG : i ∈ G.ids := (t.dom i).1 (by rw [hi]; simp)
 obtain ⟨bu, hbu⟩ := Option.ne_none_iff_exists'.1 ((t.parOk hiG).resolve_left hp)
 have huG : FP.par i 0 G ∈ G.ids := (t.dom _).1 (by rw [hbu]; simp)
 have HPU := Aside0.mk (t.par hiG)
 have HPV := Aside0.mk (t.par huG)
 by_cases h0 : rootB (FP.par i 0 G : Nat) = true
 ·rw [if_pos h0]
  unfold kNo
  have HR := Aside0.mk ((isRoot_f (FP.par i 0 G : Nat)).trans (congrArg some h0))
  clear huG hiG hp h0
  have T1 := Aside0.mk t
  have HI := Aside0.mk hi
  have HU := Aside0.mk hbu
  have HG := Aside0.mk hG
  clear t hi hbu hG
  go_enter Tryd.func115, Tryd.ntmps115
  go_wp2_with (first
   | ((with_reducible refine gate_dst (N := 4) rfl ?_); refine bx_ 4 (#[.int .i64 0, .int .i64 0, .int .i64 0, .int .i64 0, .string (⟨#[]⟩ : ByteArray)]) 27 ?_; intro gb hg W1 hbox hb; have X1 := Aside0.mk (Bx.mk hbox (by rw [hg]; exact Nat.le_refl _) (hb)); have hb1 := Aside0.mk hb; clear hbox hb hg; have T2 := Aside0.mk (T1.out.kept (T1.out.m.below hb1.out)); have q2 := T2.out.m.c2 HI.out; rw [HPU.out, HU.out, pa_some] at q2; have q0 := T2.out.m.c0 HU.out)
   | (go_at_call 67; (with_reducible refine (impl_isRoot.calls _ _ _ HR.out (HG.out.below hb1.out)).mono ?_); rintro en W2 ⟨rfl, hb0⟩; have hb := hb0.below; have X2 := Aside0.mk (X1.out.step hb); clear hb hb0; have za_0 := X2.out.c0; have ya_0 := X2.out.f 0; have za_1 := X2.out.c1; have ya_1 := X2.out.f 1; have za_2 := X2.out.c2; have ya_2 := X2.out.f 2; have za_3 := X2.out.c3; have ya_3 := X2.out.f 3; have za_4 := X2.out.c4; have ya_4 := X2.out.f 4))
  refine bodyPost_ret (results_ct rfl _ _ gb 27 #[.int .i64 0, .int .i64 0, .int .i64 0, .int .i64 0, .string (⟨#[]⟩ : ByteArray)] (0, 0) _ rfl (by (with_reducible repeat (first | refine blk_drewN ?_ _ | refine blk_drew ?_)); exact X2.out.put _ _ _ _ _) hu27 rfl (by kernel_rfl)) rfl ?_
  exact ⟨rfl, (by (with_reducible repeat (first | apply pw_below_drewN | apply below_drew1)); exact X2.out.put_below _ _ _ _ _)⟩
 ·rw [if_neg h0]
  unfold kMv
  obtain ⟨bv, hbv⟩ := t.parTwo huG h0
  have HR := Aside0.mk ((isRoot_f (FP.par i 0 G : Nat)).trans (congrArg some (Bool.eq_false_iff.2 h0)))
  clear huG hiG hp h0
  have T1 := Aside0.mk t
  have HI := Aside0.mk hi
  have HU := Aside0.mk hbu
  have HV := Aside0.mk hbv
  have HG := Aside0.mk hG
  clear t hi hbu hbv hG
  have HA := Aside0.mk (show FP.par i 0 G = 0 ∨ A (FP.par i 0 G) ≠ none from Or.inr (by rw [HU.out]; simp))
  go_enter Tryd.func115, Tryd.ntmps115
  go_wp2_with (first
   | ((with_reducible refine gate_dst (N := 4) rfl ?_); refine bx_ 4 (#[.int .i64 0, .int .i64 0, .int .i64 0, .int .i64 0, .string (⟨#[]⟩ : ByteArray)]) 27 ?_; intro gb hg W1 hbox hb; have X1 := Aside0.mk (Bx.mk hbox (by rw [hg]; exact Nat.le_refl _) (hb)); have hb1 := Aside0.mk hb; clear hbox hb hg; have T2 := Aside0.mk (T1.out.kept (T1.out.m.below hb1.out)); have q2 := T2.out.m.c2 HI.out; rw [HPU.out, HU.out, pa_some] at q2; have q0 := T2.out.m.c0 HU.out)
   | (go_at_call 67; (with_reducible refine (impl_isRoot.calls _ _ _ HR.out (HG.out.below hb1.out)).mono ?_); rintro en W2 ⟨rfl, hb0⟩; have hb := hb0.below; have X2 := Aside0.mk (X1.out.step hb); have T3 := Aside0.mk (T2.out.kept (T2.out.m.below hb)); clear hb hb0; have p2 := T3.out.m.c2 HI.out; rw [HPU.out, HU.out, pa_some] at p2; have p3 := T3.out.m.c2 HU.out; rw [HPV.out, HV.out, pa_some] at p3))
  have HM := Aside0.mk (moveTo_any T3.out.m.drew HI.out HV.out HA.out)
  rw [HU.out, pa_some] at HM
  go_region_with (go_at_call 104; (with_reducible refine (HM.out).mono ?_); rintro en W4 ⟨rfl, hb⟩; have X4 := Aside0.mk (X2.out.drew.step hb); clear hb; have zb_0 := X4.out.c0; have yb_0 := X4.out.f 0; have zb_1 := X4.out.c1; have yb_1 := X4.out.f 1; have zb_2 := X4.out.c2; have yb_2 := X4.out.f 2; have zb_3 := X4.out.c3; have yb_3 := X4.out.f 3; have zb_4 := X4.out.c4; have yb_4 := X4.out.f 4)
  all_goals go_wp2
  all_goals refine bodyPost_ret (results_ct rfl _ _ gb 27 #[.int .i64 3, .int .i64 (i : Int), .int .i64 (FP.par (FP.par i 0 G) 0 G : Nat), .int .i64 (FP.par i 0 G : Nat), .string (⟨#[]⟩ : ByteArray)] (0, 0) _ rfl (by (with_reducible repeat (first | refine blk_drewN ?_ _ | refine blk_drew ?_)); exact X4.out.put _ _ _ _ _) hu27 rfl (by kernel_rfl)) rfl ?_
  all_goals exact ⟨rfl, (by (with_reducible repeat (first | apply pw_below_drewN | apply below_drew1)); exact X4.out.put_below _ _ _ _ _)⟩
attribute [local go_sem] Oper.semAt_some

set_option maxHeartbeats 4000000 in
set_option maxRecDepth 100000 in
theorem keyCommands_any (w : World) : Calls Tryd.prog 95 #[] w fun e w' => ∃ g, e = .returned (.slice (some ⟨g, 0, none⟩) 3 3) ∧ w'.cell? ⟨g, 0, none⟩ = some (.func (.func 113) #[] #[]) ∧ w'.cell? ⟨g, 1, none⟩ = some (.func (.func 115) #[] #[]) ∧ w'.cell? ⟨g, 2, none⟩ = some (.func (.func 116) #[] #[]) ∧ Below w.heap.size w w' := by
 go_enter Tryd.func95, Tryd.ntmps95
 go_wp2
 go_ret
 have hn := heap_alloc_new w (.cells #[.func (.func 113) #[] #[], .func (.func 115) #[] #[], .func (.func 116) #[] #[]] 105)
 exact ⟨_, rfl, (blk_cell hn 0).trans rfl, (blk_cell hn 1).trans rfl, (blk_cell hn 2).trans rfl, (Below.refl _ w).alloc (Nat.le_refl _) _⟩
theorem At.parMade {w : World} {n0 F : Nat} {A : Nat → Option Nat} {h : Nat → Nd} {G : Fo} (t : At w n0 F A h G) {u : Nat} (hu : u ∈ G.ids) (hr : madeB (u : Int) = true) : FP.par u 0 G ≠ 0 := by
 have hut : u ∉ G.tops := fun g => by
  rw [t.tops] at g
  simp only [List.mem_cons, List.not_mem_nil, or_false] at g
  rcases g with rfl | rfl | rfl <;> exact absurd hr (by decide)
 have := (reptop_up t.rep t.nd hu hut).1
 rw [t.par hu] at this
 exact t.rep.ne0 _ this
set_option maxHeartbeats 4000000 in
set_option maxRecDepth 100000 in
theorem runKey0 (A0 : Option Addr) (c0 : Nat) (l0 : List S37) (id : Int) (w : World) (hr0 : Kd.C k37 w A0 l0.length l0) (hc0 : l0.length ≤ c0) (hG : Glob w) :
  Calls Tryd.prog 57 #[.slice A0 l0.length c0, .int .i64 id, .int .i64 0] w (KeyPost w (keyR keyInF l0 id)) := by
 unfold keyR KeyPost
 have hu27 := Tryd.underlying27
 have HR := Aside0.mk hr0
 have HC := Aside0.mk hc0
 have HG := Aside0.mk hG
 clear hr0 hc0 hG
 cases ht : treeB l0 with
 | false =>
  rw [if_neg (by decide)]
  unfold kNo
  have HT := Aside0.mk ht
  clear ht
  go_enter Tryd.func57, Tryd.ntmps57
  go_wp2_with (first
   | ((with_reducible refine gate_dst (N := 6) rfl ?_); refine bx_ 6 (#[.int .i64 0, .int .i64 0, .int .i64 0, .int .i64 0, .string (⟨#[]⟩ : ByteArray)]) 27 ?_; intro gb hg W1 hbox hb; have X1 := Aside0.mk (Bx.mk hbox (by rw [hg]; exact Nat.le_refl _) (hb)); have hb1 := Aside0.mk hb; clear hbox hb hg)
   | (go_at_call 60; (with_reducible refine (plant_no A0 c0 l0 _ (Kd.C_below HR.out hb1.out) HC.out HT.out (HG.out.below hb1.out)).mono ?_); rintro en W2 ⟨rfl, hb⟩; have X2 := Aside0.mk (X1.out.step hb); clear hb; have za_0 := X2.out.c0; have ya_0 := X2.out.f 0; have za_1 := X2.out.c1; have ya_1 := X2.out.f 1; have za_2 := X2.out.c2; have ya_2 := X2.out.f 2; have za_3 := X2.out.c3; have ya_3 := X2.out.f 3; have za_4 := X2.out.c4; have ya_4 := X2.out.f 4))
  refine bodyPost_ret (results_ct rfl _ _ gb 27 #[.int .i64 0, .int .i64 0, .int .i64 0, .int .i64 0, .string (⟨#[]⟩ : ByteArray)] (0, 0) _ rfl (by (with_reducible repeat (first | refine blk_drewN ?_ _ | refine blk_drew ?_)); exact X2.out.put _ _ _ _ _) hu27 rfl (by kernel_rfl)) rfl ?_
  exact ⟨rfl, (by (with_reducible repeat (first | apply pw_below_drewN | apply below_drew1)); exact X2.out.put_below _ _ _ _ _)⟩
 | true =>
  rw [if_pos rfl]
  have HT := Aside0.mk ht
  clear ht
  have HM := Aside0.mk (isMade_f id)
  cases hm : madeB id with
  | false =>
   rw [if_neg (by decide)]
   rw [hm] at HM
   clear hm
   unfold kNo
   go_enter Tryd.func57, Tryd.ntmps57
   go_wp2_with (first
    | ((with_reducible refine gate_dst (N := 6) rfl ?_); refine bx_ 6 (#[.int .i64 0, .int .i64 0, .int .i64 0, .int .i64 0, .string (⟨#[]⟩ : ByteArray)]) 27 ?_; intro gb hg W1 hbox hb; have X1 := Aside0.mk (Bx.mk hbox (by rw [hg]; exact Nat.le_refl _) (hb)); have hb1 := Aside0.mk hb; clear hbox hb hg)
    | (go_at_call 60; (with_reducible refine (plant_at A0 c0 l0 _ (Kd.C_below HR.out hb1.out) HC.out HT.out (HG.out.below hb1.out)).mono ?_); rintro en W2 ⟨Fb, A, h, rfl, hat, hb⟩; have X2 := Aside0.mk (X1.out.step hb); clear hb hat)
    | (go_at_call 94; (with_reducible refine (impl_isMade.calls _ _ _ HM.out (HG.out.below X2.out.below)).mono ?_); rintro en W3 ⟨rfl, hb0⟩; have hb := hb0.below; have X3 := Aside0.mk (X2.out.step hb); clear hb hb0; have za_0 := X3.out.c0; have ya_0 := X3.out.f 0; have za_1 := X3.out.c1; have ya_1 := X3.out.f 1; have za_2 := X3.out.c2; have ya_2 := X3.out.f 2; have za_3 := X3.out.c3; have ya_3 := X3.out.f 3; have za_4 := X3.out.c4; have ya_4 := X3.out.f 4))
   refine bodyPost_ret (results_ct rfl _ _ gb 27 #[.int .i64 0, .int .i64 0, .int .i64 0, .int .i64 0, .string (⟨#[]⟩ : ByteArray)] (0, 0) _ rfl (by (with_reducible repeat (first | refine blk_drewN ?_ _ | refine blk_drew ?_)); exact X3.out.put _ _ _ _ _) hu27 rfl (by kernel_rfl)) rfl ?_
   exact ⟨rfl, (by (with_reducible repeat (first | apply pw_below_drewN | apply below_drew1)); exact X3.out.put_below _ _ _ _ _)⟩
  | true =>
   rw [if_pos rfl]
   rw [hm] at HM
   by_cases h0 : fndF (toFo l0) id = 0
   ·rw [if_pos h0]
    have H0 := Aside0.mk h0
    clear h0 hm
    unfold kNo
    go_enter Tryd.func57, Tryd.ntmps57
    go_wp2_with (first
     | ((with_reducible refine gate_dst (N := 6) rfl ?_); refine bx_ 6 (#[.int .i64 0, .int .i64 0, .int .i64 0, .int .i64 0, .string (⟨#[]⟩ : ByteArray)]) 27 ?_; intro gb hg W1 hbox hb; have X1 := Aside0.mk (Bx.mk hbox (by rw [hg]; exact Nat.le_refl _) (hb)); have hb1 := Aside0.mk hb; clear hbox hb hg)
     | (go_at_call 60; (with_reducible refine (plant_at A0 c0 l0 _ (Kd.C_below HR.out hb1.out) HC.out HT.out (HG.out.below hb1.out)).mono ?_); rintro en W2 ⟨Fb, A, h, rfl, hat, hb⟩; have X2 := Aside0.mk (X1.out.step hb); have T2 := Aside0.mk hat; clear hb hat)
     | (go_at_call 94; (with_reducible refine (impl_isMade.calls _ _ _ HM.out (HG.out.below X2.out.below)).mono ?_); rintro en W3 ⟨rfl, hb0⟩; have hb := hb0.below; have X3 := Aside0.mk (X2.out.step hb); have T3 := Aside0.mk (T2.out.kept (T2.out.m.below hb)); clear hb hb0; have za_0 := X3.out.c0; have ya_0 := X3.out.f 0; have za_1 := X3.out.c1; have ya_1 := X3.out.f 1; have za_2 := X3.out.c2; have ya_2 := X3.out.f 2; have za_3 := X3.out.c3; have ya_3 := X3.out.f 3; have za_4 := X3.out.c4; have ya_4 := X3.out.f 4)
     | (go_at_call 61; (with_reducible refine (find_any T3.out.m id).mono ?_); rw [T3.out.lost H0.out, pa_none]; rintro en W4 ⟨rfl, rfl⟩))
    refine bodyPost_ret (results_ct rfl _ _ gb 27 #[.int .i64 0, .int .i64 0, .int .i64 0, .int .i64 0, .string (⟨#[]⟩ : ByteArray)] (0, 0) _ rfl (by (with_reducible repeat (first | refine blk_drewN ?_ _ | refine blk_drew ?_)); exact X3.out.put _ _ _ _ _) hu27 rfl (by kernel_rfl)) rfl ?_
    exact ⟨rfl, (by (with_reducible repeat (first | apply pw_below_drewN | apply below_drew1)); exact X3.out.put_below _ _ _ _ _)⟩
   ·rw [if_neg h0]
    obtain ⟨i, hi⟩ : ∃ i, i = fndF (toFo l0) id := ⟨_, rfl⟩
    have hmem := fndF_mem h0
    rw [← hi] at hmem
    have HMM := Aside0.mk (show madeB (i : Int) = true by rw [hmem.2]; exact hm)
    have HME := Aside0.mk hmem.1
    have H0 := Aside0.mk h0
    have HI := Aside0.mk hi
    rw [← hi]
    clear h0 hm hmem hi
    obtain ⟨r, hr⟩ : ∃ r, r = keyInF (toFo l0) i := ⟨_, rfl⟩
    have HRR := Aside0.mk hr
    rw [← hr]
    clear hr
    go_enter Tryd.func57, Tryd.ntmps57
    go_wp2_with (first
     | ((with_reducible refine gate_dst (N := 6) rfl ?_); refine bx_ 6 (#[.int .i64 0, .int .i64 0, .int .i64 0, .int .i64 0, .string (⟨#[]⟩ : ByteArray)]) 27 ?_; intro gb hg W1 hbox hb; have X1 := Aside0.mk (Bx.mk hbox (by rw [hg]; exact Nat.le_refl _) (hb)); have hb1 := Aside0.mk hb; clear hbox hb hg)
     | (go_at_call 60; (with_reducible refine (plant_at A0 c0 l0 _ (Kd.C_below HR.out hb1.out) HC.out HT.out (HG.out.below hb1.out)).mono ?_); rintro en W2 ⟨Fb, A, h, rfl, hat, hb⟩; have X2 := Aside0.mk (X1.out.step hb); have T2 := Aside0.mk hat; obtain ⟨b, hb1_, hb2_⟩ := hat.found H0.out; rw [← HI.out] at hb2_; have F1 := Aside0.mk hb1_; have F2 := Aside0.mk hb2_; have HPM := Aside0.mk (hat.parMade HME.out HMM.out); clear hb hat hb1_ hb2_)
     | (go_at_call 94; (with_reducible refine (impl_isMade.calls _ _ _ HM.out (HG.out.below X2.out.below)).mono ?_); rintro en W3 ⟨rfl, hb0⟩; have hb := hb0.below; have X3 := Aside0.mk (X2.out.step hb); have T3 := Aside0.mk (T2.out.kept (T2.out.m.below hb)); clear hb hb0)
     | (go_at_call 61; (with_reducible refine (find_any T3.out.m id).mono ?_); rw [F1.out, pa_some]; rintro en W4 ⟨rfl, rfl⟩)
     | (go_at_call 95; (with_reducible refine (keyCommands_any _).mono ?_); rintro en W5 ⟨g, rfl, g0, g1, g2, hb⟩; have X4 := Aside0.mk (X3.out.step hb); have T4 := Aside0.mk (T3.out.kept (T3.out.m.below hb)); clear hb)
     | (go_at_call 113; (with_reducible refine (key1_any T4.out F2.out HPM.out).mono ?_); rw [← HRR.out]; rintro en W6 ⟨rfl, hb⟩; have X5 := Aside0.mk (X4.out.step hb); clear hb; have za_0 := X5.out.c0; have ya_0 := X5.out.f 0; have za_1 := X5.out.c1; have ya_1 := X5.out.f 1; have za_2 := X5.out.c2; have ya_2 := X5.out.f 2; have za_3 := X5.out.c3; have ya_3 := X5.out.f 3; have za_4 := X5.out.c4; have ya_4 := X5.out.f 4))
    refine bodyPost_ret (results_ct rfl _ _ gb 27 #[.int .i64 r.1, .int .i64 r.2.1, .int .i64 r.2.2.1, .int .i64 r.2.2.2.1, .string r.2.2.2.2.1] (0, 0) _ rfl (by (with_reducible repeat (first | refine blk_drewN ?_ _ | refine blk_drew ?_)); exact X5.out.put _ _ _ _ _) hu27 rfl (by kernel_rfl)) rfl ?_
    exact ⟨rfl, (by (with_reducible repeat (first | apply pw_below_drewN | apply below_drew1)); exact X5.out.put_below _ _ _ _ _)⟩
set_option maxHeartbeats 4000000 in
set_option maxRecDepth 100000 in
theorem runKey1 (A0 : Option Addr) (c0 : Nat) (l0 : List S37) (id : Int) (w : World) (hr0 : Kd.C k37 w A0 l0.length l0) (hc0 : l0.length ≤ c0) (hG : Glob w) :
  Calls Tryd.prog 57 #[.slice A0 l0.length c0, .int .i64 id, .int .i64 1] w (KeyPost w (keyR keyOutF l0 id)) := by
 unfold keyR KeyPost
 have hu27 := Tryd.underlying27
 have HR := Aside0.mk hr0
 have HC := Aside0.mk hc0
 have HG := Aside0.mk hG
 clear hr0 hc0 hG
 cases ht : treeB l0 with
 | false =>
  rw [if_neg (by decide)]
  unfold kNo
  have HT := Aside0.mk ht
  clear ht
  go_enter Tryd.func57, Tryd.ntmps57
  go_wp2_with (first
   | ((with_reducible refine gate_dst (N := 6) rfl ?_); refine bx_ 6 (#[.int .i64 0, .int .i64 0, .int .i64 0, .int .i64 0, .string (⟨#[]⟩ : ByteArray)]) 27 ?_; intro gb hg W1 hbox hb; have X1 := Aside0.mk (Bx.mk hbox (by rw [hg]; exact Nat.le_refl _) (hb)); have hb1 := Aside0.mk hb; clear hbox hb hg)
   | (go_at_call 60; (with_reducible refine (plant_no A0 c0 l0 _ (Kd.C_below HR.out hb1.out) HC.out HT.out (HG.out.below hb1.out)).mono ?_); rintro en W2 ⟨rfl, hb⟩; have X2 := Aside0.mk (X1.out.step hb); clear hb; have za_0 := X2.out.c0; have ya_0 := X2.out.f 0; have za_1 := X2.out.c1; have ya_1 := X2.out.f 1; have za_2 := X2.out.c2; have ya_2 := X2.out.f 2; have za_3 := X2.out.c3; have ya_3 := X2.out.f 3; have za_4 := X2.out.c4; have ya_4 := X2.out.f 4))
  refine bodyPost_ret (results_ct rfl _ _ gb 27 #[.int .i64 0, .int .i64 0, .int .i64 0, .int .i64 0, .string (⟨#[]⟩ : ByteArray)] (0, 0) _ rfl (by (with_reducible repeat (first | refine blk_drewN ?_ _ | refine blk_drew ?_)); exact X2.out.put _ _ _ _ _) hu27 rfl (by kernel_rfl)) rfl ?_
  exact ⟨rfl, (by (with_reducible repeat (first | apply pw_below_drewN | apply below_drew1)); exact X2.out.put_below _ _ _ _ _)⟩
 | true =>
  rw [if_pos rfl]
  have HT := Aside0.mk ht
  clear ht
  have HM := Aside0.mk (isMade_f id)
  cases hm : madeB id with
  | false =>
   rw [if_neg (by decide)]
   rw [hm] at HM
   clear hm
   unfold kNo
   go_enter Tryd.func57, Tryd.ntmps57
   go_wp2_with (first
    | ((with_reducible refine gate_dst (N := 6) rfl ?_); refine bx_ 6 (#[.int .i64 0, .int .i64 0, .int .i64 0, .int .i64 0, .string (⟨#[]⟩ : ByteArray)]) 27 ?_; intro gb hg W1 hbox hb; have X1 := Aside0.mk (Bx.mk hbox (by rw [hg]; exact Nat.le_refl _) (hb)); have hb1 := Aside0.mk hb; clear hbox hb hg)
    | (go_at_call 60; (with_reducible refine (plant_at A0 c0 l0 _ (Kd.C_below HR.out hb1.out) HC.out HT.out (HG.out.below hb1.out)).mono ?_); rintro en W2 ⟨Fb, A, h, rfl, hat, hb⟩; have X2 := Aside0.mk (X1.out.step hb); clear hb hat)
    | (go_at_call 94; (with_reducible refine (impl_isMade.calls _ _ _ HM.out (HG.out.below X2.out.below)).mono ?_); rintro en W3 ⟨rfl, hb0⟩; have hb := hb0.below; have X3 := Aside0.mk (X2.out.step hb); clear hb hb0; have za_0 := X3.out.c0; have ya_0 := X3.out.f 0; have za_1 := X3.out.c1; have ya_1 := X3.out.f 1; have za_2 := X3.out.c2; have ya_2 := X3.out.f 2; have za_3 := X3.out.c3; have ya_3 := X3.out.f 3; have za_4 := X3.out.c4; have ya_4 := X3.out.f 4))
   refine bodyPost_ret (results_ct rfl _ _ gb 27 #[.int .i64 0, .int .i64 0, .int .i64 0, .int .i64 0, .string (⟨#[]⟩ : ByteArray)] (0, 0) _ rfl (by (with_reducible repeat (first | refine blk_drewN ?_ _ | refine blk_drew ?_)); exact X3.out.put _ _ _ _ _) hu27 rfl (by kernel_rfl)) rfl ?_
   exact ⟨rfl, (by (with_reducible repeat (first | apply pw_below_drewN | apply below_drew1)); exact X3.out.put_below _ _ _ _ _)⟩
  | true =>
   rw [if_pos rfl]
   rw [hm] at HM
   by_cases h0 : fndF (toFo l0) id = 0
   ·rw [if_pos h0]
    have H0 := Aside0.mk h0
    clear h0 hm
    unfold kNo
    go_enter Tryd.func57, Tryd.ntmps57
    go_wp2_with (first
     | ((with_reducible refine gate_dst (N := 6) rfl ?_); refine bx_ 6 (#[.int .i64 0, .int .i64 0, .int .i64 0, .int .i64 0, .string (⟨#[]⟩ : ByteArray)]) 27 ?_; intro gb hg W1 hbox hb; have X1 := Aside0.mk (Bx.mk hbox (by rw [hg]; exact Nat.le_refl _) (hb)); have hb1 := Aside0.mk hb; clear hbox hb hg)
     | (go_at_call 60; (with_reducible refine (plant_at A0 c0 l0 _ (Kd.C_below HR.out hb1.out) HC.out HT.out (HG.out.below hb1.out)).mono ?_); rintro en W2 ⟨Fb, A, h, rfl, hat, hb⟩; have X2 := Aside0.mk (X1.out.step hb); have T2 := Aside0.mk hat; clear hb hat)
     | (go_at_call 94; (with_reducible refine (impl_isMade.calls _ _ _ HM.out (HG.out.below X2.out.below)).mono ?_); rintro en W3 ⟨rfl, hb0⟩; have hb := hb0.below; have X3 := Aside0.mk (X2.out.step hb); have T3 := Aside0.mk (T2.out.kept (T2.out.m.below hb)); clear hb hb0; have za_0 := X3.out.c0; have ya_0 := X3.out.f 0; have za_1 := X3.out.c1; have ya_1 := X3.out.f 1; have za_2 := X3.out.c2; have ya_2 := X3.out.f 2; have za_3 := X3.out.c3; have ya_3 := X3.out.f 3; have za_4 := X3.out.c4; have ya_4 := X3.out.f 4)
     | (go_at_call 61; (with_reducible refine (find_any T3.out.m id).mono ?_); rw [T3.out.lost H0.out, pa_none]; rintro en W4 ⟨rfl, rfl⟩))
    refine bodyPost_ret (results_ct rfl _ _ gb 27 #[.int .i64 0, .int .i64 0, .int .i64 0, .int .i64 0, .string (⟨#[]⟩ : ByteArray)] (0, 0) _ rfl (by (with_reducible repeat (first | refine blk_drewN ?_ _ | refine blk_drew ?_)); exact X3.out.put _ _ _ _ _) hu27 rfl (by kernel_rfl)) rfl ?_
    exact ⟨rfl, (by (with_reducible repeat (first | apply pw_below_drewN | apply below_drew1)); exact X3.out.put_below _ _ _ _ _)⟩
   ·rw [if_neg h0]
    obtain ⟨i, hi⟩ : ∃ i, i = fndF (toFo l0) id := ⟨_, rfl⟩
    have hmem := fndF_mem h0
    rw [← hi] at hmem
    have HMM := Aside0.mk (show madeB (i : Int) = true by rw [hmem.2]; exact hm)
    have HME := Aside0.mk hmem.1
    have H0 := Aside0.mk h0
    have HI := Aside0.mk hi
    rw [← hi]
    clear h0 hm hmem hi
    obtain ⟨r, hr⟩ : ∃ r, r = keyOutF (toFo l0) i := ⟨_, rfl⟩
    have HRR := Aside0.mk hr
    rw [← hr]
    clear hr
    go_enter Tryd.func57, Tryd.ntmps57
    go_wp2_with (first
     | ((with_reducible refine gate_dst (N := 6) rfl ?_); refine bx_ 6 (#[.int .i64 0, .int .i64 0, .int .i64 0, .int .i64 0, .string (⟨#[]⟩ : ByteArray)]) 27 ?_; intro gb hg W1 hbox hb; have X1 := Aside0.mk (Bx.mk hbox (by rw [hg]; exact Nat.le_refl _) (hb)); have hb1 := Aside0.mk hb; clear hbox hb hg)
     | (go_at_call 60; (with_reducible refine (plant_at A0 c0 l0 _ (Kd.C_below HR.out hb1.out) HC.out HT.out (HG.out.below hb1.out)).mono ?_); rintro en W2 ⟨Fb, A, h, rfl, hat, hb⟩; have X2 := Aside0.mk (X1.out.step hb); have T2 := Aside0.mk hat; obtain ⟨b, hb1_, hb2_⟩ := hat.found H0.out; rw [← HI.out] at hb2_; have F1 := Aside0.mk hb1_; have F2 := Aside0.mk hb2_; have HPM := Aside0.mk (hat.parMade HME.out HMM.out); clear hb hat hb1_ hb2_)
     | (go_at_call 94; (with_reducible refine (impl_isMade.calls _ _ _ HM.out (HG.out.below X2.out.below)).mono ?_); rintro en W3 ⟨rfl, hb0⟩; have hb := hb0.below; have X3 := Aside0.mk (X2.out.step hb); have T3 := Aside0.mk (T2.out.kept (T2.out.m.below hb)); clear hb hb0)
     | (go_at_call 61; (with_reducible refine (find_any T3.out.m id).mono ?_); rw [F1.out, pa_some]; rintro en W4 ⟨rfl, rfl⟩)
     | (go_at_call 95; (with_reducible refine (keyCommands_any _).mono ?_); rintro en W5 ⟨g, rfl, g0, g1, g2, hb⟩; have X4 := Aside0.mk (X3.out.step hb); have T4 := Aside0.mk (T3.out.kept (T3.out.m.below hb)); clear hb)
     | (go_at_call 115; (with_reducible refine (key2_any T4.out F2.out HPM.out (HG.out.below X4.out.below)).mono ?_); rw [← HRR.out]; rintro en W6 ⟨rfl, hb⟩; have X5 := Aside0.mk (X4.out.step hb); clear hb; have za_0 := X5.out.c0; have ya_0 := X5.out.f 0; have za_1 := X5.out.c1; have ya_1 := X5.out.f 1; have za_2 := X5.out.c2; have ya_2 := X5.out.f 2; have za_3 := X5.out.c3; have ya_3 := X5.out.f 3; have za_4 := X5.out.c4; have ya_4 := X5.out.f 4))
    refine bodyPost_ret (results_ct rfl _ _ gb 27 #[.int .i64 r.1, .int .i64 r.2.1, .int .i64 r.2.2.1, .int .i64 r.2.2.2.1, .string r.2.2.2.2.1] (0, 0) _ rfl (by (with_reducible repeat (first | refine blk_drewN ?_ _ | refine blk_drew ?_)); exact X5.out.put _ _ _ _ _) hu27 rfl (by kernel_rfl)) rfl ?_
    exact ⟨rfl, (by (with_reducible repeat (first | apply pw_below_drewN | apply below_drew1)); exact X5.out.put_below _ _ _ _ _)⟩
attribute [local go_sem] Oper.semAt_some

def impl_KeyIn.f (k : Nat) (l0 : List S37) (a1 : Int) : Option (Int × Int × Int × Int × ByteArray × Bool) := some (keyR keyInF l0 a1)
theorem impl_KeyIn.mono (l0 : List S37) (a1 : Int) (k : Nat) : LeO (impl_KeyIn.f k l0 a1) (impl_KeyIn.f (k + 1) l0 a1) := LeO.refl _
set_option maxHeartbeats 4000000 in
set_option maxRecDepth 100000 in
theorem impl_KeyIn.calls (k : Nat) (A0 : Option Addr) (c0 : Nat) (l0 : List S37) (a1 : Int) (r1 r2 r3 r4 : Int) (r5 : ByteArray) (r6 : Bool) (w : World) (hr0 : Kd.C k37 w A0 l0.length l0) (hc0 : l0.length ≤ c0) (h : impl_KeyIn.f k l0 a1 = some (r1, r2, r3, r4, r5, r6)) (hG : Glob w) :
  Calls Tryd.prog 28 #[.slice A0 l0.length c0, .int .i64 a1] w fun e w' => e = .returned (.tuple #[.agg #[.int .i64 r1, .int .i64 r2, .int .i64 r3, .int .i64 r4, .string r5], .bool r6]) ∧ Below w.heap.size w w' := by
 have hu27 := Tryd.underlying27
 have HR := Aside0.mk hr0
 have HC := Aside0.mk hc0
 have HG := Aside0.mk hG
 have HRR := Aside0.mk (Option.some.inj h)
 clear hr0 hc0 hG h
 go_enter Tryd.func28, Tryd.ntmps28
 go_wp2_with (first
  | ((with_reducible refine gate_dst (N := 4) rfl ?_); refine bx_ 4 (#[.int .i64 0, .int .i64 0, .int .i64 0, .int .i64 0, .string (⟨#[]⟩ : ByteArray)]) 27 ?_; intro gb hg W1 hbox hb; have X1 := Aside0.mk (Bx.mk hbox (by rw [hg]; exact Nat.le_refl _) (hb)); have hb1 := Aside0.mk hb; clear hbox hb hg)
  | (go_at_call 57; (with_reducible refine (runKey0 A0 c0 l0 a1 _ (Kd.C_below HR.out hb1.out) HC.out (HG.out.below hb1.out)).mono ?_); rw [HRR.out]; unfold KeyPost; rintro en W2 ⟨rfl, hb⟩; have X2 := Aside0.mk (X1.out.step hb); clear hb; have za_0 := X2.out.c0; have ya_0 := X2.out.f 0; have za_1 := X2.out.c1; have ya_1 := X2.out.f 1; have za_2 := X2.out.c2; have ya_2 := X2.out.f 2; have za_3 := X2.out.c3; have ya_3 := X2.out.f 3; have za_4 := X2.out.c4; have ya_4 := X2.out.f 4))
 refine bodyPost_ret (results_ct rfl _ _ gb 27 #[.int .i64 r1, .int .i64 r2, .int .i64 r3, .int .i64 r4, .string r5] (0, 0) _ rfl (by (with_reducible repeat (first | refine blk_drewN ?_ _ | refine blk_drew ?_)); exact X2.out.put _ _ _ _ _) hu27 rfl (by kernel_rfl)) rfl ?_
 exact ⟨rfl, (by (with_reducible repeat (first | apply pw_below_drewN | apply below_drew1)); exact X2.out.put_below _ _ _ _ _)⟩
attribute [local go_sem] Oper.semAt_some

def impl_KeyOut.f (k : Nat) (l0 : List S37) (a1 : Int) : Option (Int × Int × Int × Int × ByteArray × Bool) := some (keyR keyOutF l0 a1)
theorem impl_KeyOut.mono (l0 : List S37) (a1 : Int) (k : Nat) : LeO (impl_KeyOut.f k l0 a1) (impl_KeyOut.f (k + 1) l0 a1) := LeO.refl _
set_option maxHeartbeats 4000000 in
set_option maxRecDepth 100000 in
theorem impl_KeyOut.calls (k : Nat) (A0 : Option Addr) (c0 : Nat) (l0 : List S37) (a1 : Int) (r1 r2 r3 r4 : Int) (r5 : ByteArray) (r6 : Bool) (w : World) (hr0 : Kd.C k37 w A0 l0.length l0) (hc0 : l0.length ≤ c0) (h : impl_KeyOut.f k l0 a1 = some (r1, r2, r3, r4, r5, r6)) (hG : Glob w) :
  Calls Tryd.prog 29 #[.slice A0 l0.length c0, .int .i64 a1] w fun e w' => e = .returned (.tuple #[.agg #[.int .i64 r1, .int .i64 r2, .int .i64 r3, .int .i64 r4, .string r5], .bool r6]) ∧ Below w.heap.size w w' := by
 have hu27 := Tryd.underlying27
 have HR := Aside0.mk hr0
 have HC := Aside0.mk hc0
 have HG := Aside0.mk hG
 have HRR := Aside0.mk (Option.some.inj h)
 clear hr0 hc0 hG h
 go_enter Tryd.func29, Tryd.ntmps29
 go_wp2_with (first
  | ((with_reducible refine gate_dst (N := 4) rfl ?_); refine bx_ 4 (#[.int .i64 0, .int .i64 0, .int .i64 0, .int .i64 0, .string (⟨#[]⟩ : ByteArray)]) 27 ?_; intro gb hg W1 hbox hb; have X1 := Aside0.mk (Bx.mk hbox (by rw [hg]; exact Nat.le_refl _) (hb)); have hb1 := Aside0.mk hb; clear hbox hb hg)
  | (go_at_call 57; (with_reducible refine (runKey1 A0 c0 l0 a1 _ (Kd.C_below HR.out hb1.out) HC.out (HG.out.below hb1.out)).mono ?_); rw [HRR.out]; unfold KeyPost; rintro en W2 ⟨rfl, hb⟩; have X2 := Aside0.mk (X1.out.step hb); clear hb; have za_0 := X2.out.c0; have ya_0 := X2.out.f 0; have za_1 := X2.out.c1; have ya_1 := X2.out.f 1; have za_2 := X2.out.c2; have ya_2 := X2.out.f 2; have za_3 := X2.out.c3; have ya_3 := X2.out.f 3; have za_4 := X2.out.c4; have ya_4 := X2.out.f 4))
 refine bodyPost_ret (results_ct rfl _ _ gb 27 #[.int .i64 r1, .int .i64 r2, .int .i64 r3, .int .i64 r4, .string r5] (0, 0) _ rfl (by (with_reducible repeat (first | refine blk_drewN ?_ _ | refine blk_drew ?_)); exact X2.out.put _ _ _ _ _) hu27 rfl (by kernel_rfl)) rfl ?_
 exact ⟨rfl, (by (with_reducible repeat (first | apply pw_below_drewN | apply below_drew1)); exact X2.out.put_below _ _ _ _ _)⟩
attribute [local go_sem] Oper.semAt_some

def kidsR (l : List S37) (id : Int) : List Int := if treeB l = true then (if fndF (toFo l) id = 0 then [] else (sub (fndF (toFo l) id) (toFo l)).tops.map Int.ofNat) else []
def impl_TreeKids.f (k : Nat) (l0 : List S37) (a1 : Int) : Option (List Int) := some (kidsR l0 a1)
theorem impl_TreeKids.mono (l0 : List S37) (a1 : Int) (k : Nat) : LeO (impl_TreeKids.f k l0 a1) (impl_TreeKids.f (k + 1) l0 a1) := LeO.refl _
theorem tops_le : ∀ (F : Fo), F.tops.length ≤ F.ids.length
 | .nil => Nat.le_refl _
 | .nd i t k n => by have := tops_le n; simp only [Fo.tops, Fo.ids, List.length_cons, List.length_append]; omega
def KidsPost (w : World) (r : List Int) (e : Ending) (w' : World) : Prop := ∃ v0_ : Value, e = .returned v0_ ∧ Kd.R (Kd.int .i64) 3 w' w.heap.size (fun _ => True) v0_ r ∧ Below w.heap.size w w'
def numsOf {Q : Nat → Prop} (l : List (KA Q)) : List Int := l.map fun e => (e.val : Int)
def NumsI {Q : Nat → Prop} (w : World) (g : Nat) (pre : List (KA Q)) (V : World) : Prop :=
 (∃ v, Boxed V g 43 v ∧ Kd.R (Kd.int .i64) 3 V w.heap.size (fun _ => True) v (numsOf pre)) ∧ Below w.heap.size w V
theorem numsI_stb {Q : Nat → Prop} {w : World} {g B : Nat} (hB : w.heap.size ≤ B) : Stb B (NumsI (Q := Q) w g) := fun s V W row hs hg hr => by
 obtain ⟨⟨v, hv, hR⟩, hb⟩ := hs
 refine ⟨⟨v, hv.kept hg fun e => ?_, Kd.R_mono (Kd.R_step (Kd.R_bound hR) fun k hk hlt => hg.block k hlt fun e => ?_) (fun _ _ => trivial)⟩, stb_below (β := Unit) hB () V W row hb hg hr⟩
 ·obtain ⟨_, o, h1, h2⟩ := hr g e.symm
  have h3 : V.heap[g]? = some (.cells #[v] 43 (0, 0)) := hv
  rw [h3] at h1
  rcases h2 with h2 | ⟨u, h2⟩
  ·rw [← Option.some.inj h1] at h2; cases h2
  ·rw [← Option.some.inj h1] at h2; simp at h2
 ·obtain ⟨_, o, h1, h2⟩ := hr k e.symm
  obtain ⟨_, _, _, q, hq, cells, h3⟩ := hk
  rw [h3] at h1
  have hq : q = 3 := by
   rcases List.mem_cons.1 hq with e | e
   ·exact e
   ·exact absurd e (by simp [Kd.iso, Kd.pair, Kd.int, Kd.string, Kd.scalar])
  subst hq
  rcases h2 with h2 | ⟨u, h2⟩
  ·rw [← Option.some.inj h1] at h2; cases h2
  ·rw [← Option.some.inj h1] at h2; simp at h2
theorem numsI_from {Q : Nat → Prop} {w : World} {g B : Nat} (hB : w.heap.size ≤ B) : OwnFrom B (NumsI (Q := Q) w g) := (numsI_stb hB).own (Nat.le_refl _)
theorem letsOut_own {α : Type} {Kp : World → World → Prop} {I : List α → World → Prop} {Ix : Code → List α → World → Prop} {id : Nat} {xs : List α} {W : World} : ¬ LetsOut (Exit.inBlock id (ownPostK Kp I Ix xs W)) := fun ⟨_, _, h⟩ => h
theorem keeps_app_i {w V w3 : World} {g : Nat} {v : Value} {ok : Nat → Prop} {l : List Int} (hR : Kd.R (Kd.int .i64) 3 V w.heap.size ok v l) (hg : V.drew.grownBy w3 v.ownBlock) (u : Value) : KeepsOthers V (w3.setCell ⟨g, 0, none⟩ u) := by
 refine KeepsOthers.trans ⟨hg.size, fun k o hk ho => (hg.block k (Array.getElem?_eq_some_iff.1 hk).1 fun e => ?_).trans hk⟩ (KeepsOthers.setCell w3 ⟨g, 0, none⟩ u)
 obtain ⟨_, hlt, q, hq, cells, hc⟩ := ((Kd.R_bound hR).1 k e.symm).2
 rw [show V.heap[k]? = some o from hk] at hc
 rw [Option.some.inj hc] at ho
 cases ho
set_option maxHeartbeats 1000000 in
set_option maxRecDepth 100000 in
theorem treeKids_none (A0 : Option Addr) (c0 : Nat) (l0 : List S37) (id : Int) (w : World) (hr0 : Kd.C k37 w A0 l0.length l0) (hc0 : l0.length ≤ c0) (hG : Glob w) (hz : treeB l0 = true → fndF (toFo l0) id = 0) :
  Calls Tryd.prog 37 #[.slice A0 l0.length c0, .int .i64 id] w (KidsPost w []) := by
 cases ht : treeB l0 with
 | false =>
  have HP := Aside0.mk (plant_no A0 c0 l0 w hr0 hc0 ht hG)
  clear hr0 hc0 ht hG
  go_enter Tryd.func37, Tryd.ntmps37
  go_wp2_with (go_at_call 60; (with_reducible refine (HP.out).mono ?_); clear HP; rintro en W1 ⟨rfl, hb⟩; have HB1 := Aside0.mk hb; clear hb)
  go_ret
  exact ⟨_, rfl, Kd.R_nil _ _ _ _ _, HB1.out⟩
 | true =>
  have HP := Aside0.mk (plant_at A0 c0 l0 w hr0 hc0 ht hG)
  have H0 := Aside0.mk (hz ht)
  clear hr0 hc0 ht hG hz
  go_enter Tryd.func37, Tryd.ntmps37
  go_wp2_with (first
   | (go_at_call 60; (with_reducible refine (HP.out).mono ?_); clear HP; rintro en W1 ⟨Fb, A, h, rfl, hat, hb⟩; have HB1 := Aside0.mk hb; have HT := Aside0.mk hat; clear hb hat)
   | (go_at_call 61; (with_reducible refine (find_any HT.out.m id).mono ?_); rw [HT.out.lost H0.out, pa_none]; rintro en W2 ⟨rfl, rfl⟩))
  go_ret
  exact ⟨_, rfl, Kd.R_nil _ _ _ _ _, HB1.out⟩
set_option maxRecDepth 100000 in
set_option maxHeartbeats 4000000 in
theorem treeKids_some (A0 : Option Addr) (c0 : Nat) (l0 : List S37) (id : Int) (w : World) (hr0 : Kd.C k37 w A0 l0.length l0) (hc0 : l0.length ≤ c0) (hG : Glob w) (ht : treeB l0 = true) (h0 : fndF (toFo l0) id ≠ 0) :
  Calls Tryd.prog 37 #[.slice A0 l0.length c0, .int .i64 id] w (KidsPost w ((sub (fndF (toFo l0) id) (toFo l0)).tops.map Int.ofNat)) := by
 have HP := Aside0.mk (plant_at A0 c0 l0 w hr0 hc0 ht hG)
 obtain ⟨i, hi⟩ : ∃ i, i = fndF (toFo l0) id := ⟨_, rfl⟩
 have hmem : i ∈ (toFo l0).ids := by rw [hi]; exact (fndF_mem h0).1
 have H0 := Aside0.mk h0
 have HI := Aside0.mk hi
 have HM := Aside0.mk hmem
 rw [← hi]
 clear h0 hi hmem hr0 hc0 ht hG
 refine (callsIn_wide (n := 8)).1 ?_
 refine callsIn_of_wp_marks Tryd.func37 rfl trivial ?_ rfl
 simp only [Tryd.ntmps37, List.size_toArray, List.length_cons, List.length_nil, Nat.reduceAdd, Nat.reduceSub, Array.replicate_succ, Array.replicate_zero, List.push_toArray, List.append_toArray, List.nil_append, List.cons_append]
 gi_wp2_with (first
  | (refine ⟨trivial, ?_⟩; gi_at_call 60; refine (callsIn_wide.2 HP.out).mono ?_; clear HP; rintro e W1 ⟨Fb, A, h, rfl, hat, hb⟩; have HB1 := Aside0.mk hb; have HT := Aside0.mk hat; obtain ⟨b, hb1, hb2⟩ := hat.found H0.out; rw [← HI.out] at hb2; have F1 := Aside0.mk hb1; have F2 := Aside0.mk hb2; clear hb hat hb1 hb2)
  | (refine ⟨trivial, ?_⟩; gi_at_call 61; refine (callsIn_wide.2 (find_any HT.out.m id)).mono ?_; rw [F1.out, pa_some]; rintro e W2 ⟨rfl, rfl⟩)
  | (refine ⟨trivial, ?_⟩; gi_at_call 77; refine (kids_in Fence.wide _ trivial rfl _ _).mono ?_; rintro e w' ⟨rfl, rfl⟩))
 -- the loop
 have hup : Rep h i (sub i (toFo l0)) ∧ (h i).first = (sub i (toFo l0)).hd := reptop_sub HT.out.rep HT.out.nd HM.out
 have hsA : ∀ x ∈ (sub i (toFo l0)).ids, A x ≠ none := fun x hx => (HT.out.dom x).2 (sub_ids i hx)
 have hL := nlist_of HT.out.m hup.1 hsA
 rw [← hup.2] at hL
 obtain ⟨ys, hys⟩ := attach_val (Q := fun x => A x ≠ none) (l := (sub i (toFo l0)).tops) fun x hx => hsA x (tops_ids hx)
 have HYS := Aside0.mk hys
 rw [← hys] at hL
 have hlen : ys.length ≤ 36 := by
  have e1 := congrArg List.length hys
  rw [List.length_map] at e1
  have e2 := tops_le (sub i (toFo l0))
  have e3 := (ids_del i (toFo l0) HT.out.nd HM.out).length_eq
  have e4 := HT.out.len
  simp only [List.length_cons, List.length_append] at e3
  omega
 have c3 := HT.out.m.c3 F2.out
 have HBU := Aside0.mk (HT.out.m.lt F2.out)
 have M := Aside0.mk HT.out.m
 clear hup hsA hys
 obtain ⟨w2, hw2⟩ : ∃ w2, w2 = ((W2.alloc (.cells #[] 3)).alloc (.cells #[.slice (some ⟨W2.heap.size, 0, none⟩) 0 0] 43)).alloc (.cells #[.pointer (some ⟨b, 0, none⟩)] 70) := ⟨_, rfl⟩
 have bT := (Boxed.new (W2.alloc (.cells #[] 3)) 43 (.slice (some ⟨W2.heap.size, 0, none⟩) 0 0)).alloc (.cells #[.pointer (some ⟨b, 0, none⟩)] 70)
 have b2 := cell_new_f ((W2.alloc (.cells #[] 3)).alloc (.cells #[.slice (some ⟨W2.heap.size, 0, none⟩) 0 0] 43)) (.pointer (some ⟨b, 0, none⟩)) 70
 simp only [World.size_alloc] at bT b2
 have hz2 : w2.heap.size = W2.heap.size + 3 := by rw [hw2]; simp
 have hB2 : Below W2.heap.size W2 w2 := by rw [hw2]; exact ((((Below.refl _ W2).alloc (Nat.le_refl _) _).alloc (by simp) _).alloc (by simp; omega) _)
 have hR2 : Kd.R (Kd.int .i64) 3 w2 W2.heap.size (fun _ => True) (.slice (some ⟨W2.heap.size, 0, none⟩) 0 0) (numsOf ([] : List (KA fun x => A x ≠ none))) := by
  rw [hw2]
  refine Kd.R_alloc (Kd.R_alloc ⟨fun _ _ => trivial, [], ?_, Reps.none _ _⟩ _) _
  have h0 : (W2.alloc (.cells #[] 3)).ownsRow W2.heap.size 3 1 (.slice (some ⟨W2.heap.size, 0, none⟩) 0 0) 0 [] := by
   simpa using World.ownsRow_lit (base := W2.heap.size) (e := 3) (size := 1) W2 #[] 0 (Nat.le_refl _) (by simp [maxLen]) (by simp)
  exact h0
 have hc3 : w2.cell? ⟨b, 3, none⟩ = some (.pointer (pa (A (h i).first))) := by rw [hw2]; exact cell_alloc_f _ (cell_alloc_f _ (cell_alloc_f _ c3))
 have hcB : w2.cell? ⟨W2.heap.size + 1 + 1, 0, none⟩ = some (.pointer (some ⟨b, 0, none⟩)) := by rw [hw2]; exact b2.1
 rw [← hw2] at bT ⊢
 clear hw2 b2 c3
 refine wpIn_rangeFunc_ownF (w0 := w2) rfl (by omega) (gf := 105) (lb := #[.pointer (some ⟨W2.heap.size + 1 + 1, 0, none⟩)]) rfl trivial (enters_of Tryd.func105 (by kernel_rfl) rfl)
  (kids_stops Fence.wide 7 trivial rfl (by omega) (W2.heap.size + 1 + 1) W2.heap.size b _ A _ ys _ (by omega) (by omega) (by have := HBU.out; omega) hcB hc3 (hL.below hB2)) belowK_t (belowK_b (by omega)) (Below.refl _ _) (fun _ => by rfl)
  (NumsI W2 (W2.heap.size + 1)) (fun _ _ _ => False) (numsI_from (by omega)) (fun _ _ _ _ _ h _ _ => h.elim) ⟨⟨_, bT, hR2⟩, hB2⟩
  (fun x => { tmps := #[.slice A0 l0.length c0, .int .i64 id, undef, undef, .slice none 0 0, .pointer (some ⟨Fb, 0, none⟩), .bool true, .pointer (some ⟨b, 0, none⟩), .pointer (some ⟨W2.heap.size + 1, 0, none⟩), .pointer (pa (A x.val)), .tuple #[.pointer (some ⟨Fb, 0, none⟩), .bool true], .slice A0 l0.length c0, .tuple #[.pointer (some ⟨Fb, 0, none⟩), .bool true], .pointer (some ⟨Fb, 0, none⟩), .bool true, .bool true, .bool false, .pointer (some ⟨Fb, 0, none⟩), .int .i64 id, .pointer (some ⟨b, 0, none⟩), .pointer (some ⟨b, 0, none⟩), .bool false, .slice (some ⟨W2.heap.size, 0, none⟩) 0 0, .pointer (some ⟨b, 0, none⟩), .func (.func 105) #[] #[.pointer (some ⟨W2.heap.size + 1 + 1, 0, none⟩)], .pointer (pa (A x.val)), undef, undef, undef, undef, undef, undef, undef, undef], defers := [] }) ?assign ?body ?done ?stop
 case assign =>
  intro l x W K hK
  gi_wp2
  exact hK
 case body =>
  rintro l pre x V ⟨⟨v, hbox, hR⟩, hBw⟩ hlt
  obtain ⟨c, hc⟩ := Option.ne_none_iff_exists'.1 x.ok
  have MV := M.out.below hBw
  have q0 := MV.c0 hc
  have qb := hbox.cell
  have qf := hbox.frozen
  have hlen2 : (numsOf pre).length < 60000 := by unfold numsOf; rw [List.length_map]; omega
  rw [hc, pa_some]
  refine wpIn_block ?_
  refine startR_ (n := 8) (S := fun w' => w'.cell? ⟨W2.heap.size + 1, 0, none⟩ = some v ∧ w'.cell? ⟨c, 0, none⟩ = some (.int .i64 (x.val : Int))) (ds := [6, 7]) #[false, false, false, false, false, false, false, false] letsOut_own (noDefer_of (by kernel_rfl)) (by kernel_rfl) rfl rfl ⟨qb, q0⟩ (fun hHeld => ?_)
  clear q0
  refine take_ (i := 0) (N := some 26) (v := ?_) (a' := ?_) #[true, false, false, false, false, false, false, false] rfl rfl (by kernel_rfl) (fun _ _ _ h => h) (Or.inl ⟨by rfl, ?_⟩) hHeld ?_ ?_
  rotate_left
  ·rintro w' ⟨s0, s1⟩
   go_simp
   with_reducible rfl
  rotate_left
  ·simp only [Act.put, List.setIfInBounds_toArray, List.set_cons_zero, List.set_cons_succ, i64_w, i32_w]
   rfl
  refine pure_ (i := 1) (N := some 27) (v := ?_) (a' := ?_) #[true, true, false, false, false, false, false, false] rfl rfl (by kernel_rfl) (fun _ _ _ h => h) (Or.inl ⟨by rfl, ?_⟩) ?_ ?_
  rotate_left
  ·intro w'
   go_simp
   with_reducible rfl
  rotate_left
  ·simp only [Act.put, List.setIfInBounds_toArray, List.set_cons_zero, List.set_cons_succ, i64_w, i32_w]
   rfl
  refine pure_ (i := 2) (N := some 28) (v := ?_) (a' := ?_) #[true, true, true, false, false, false, false, false] rfl rfl (by kernel_rfl) (fun _ _ _ h => h) (Or.inl ⟨by rfl, ?_⟩) ?_ ?_
  rotate_left
  ·intro w'
   go_simp
   with_reducible rfl
  rotate_left
  ·simp only [Act.put, List.setIfInBounds_toArray, List.set_cons_zero, List.set_cons_succ, i64_w, i32_w]
   rfl
  refine pure_ (i := 3) (N := some 29) (v := ?_) (a' := ?_) #[true, true, true, true, false, false, false, false] rfl rfl (by kernel_rfl) (fun _ _ _ h => h) (Or.inl ⟨by rfl, ?_⟩) ?_ ?_
  rotate_left
  ·intro w'
   go_simp
   with_reducible rfl
  rotate_left
  ·simp only [Act.put, List.setIfInBounds_toArray, List.set_cons_zero, List.set_cons_succ, i64_w, i32_w]
   rfl
  refine take_ (i := 4) (N := some 30) (v := ?_) (a' := ?_) #[true, true, true, true, true, false, false, false] rfl rfl (by kernel_rfl) (fun _ _ _ h => h) (Or.inl ⟨by rfl, ?_⟩) hHeld ?_ ?_
  rotate_left
  ·rintro w' ⟨s0, s1⟩
   go_simp
   with_reducible rfl
  rotate_left
  ·simp only [Act.put, List.setIfInBounds_toArray, List.set_cons_zero, List.set_cons_succ, i64_w, i32_w]
   rfl
  refine one_ (i := 5) (N := some 31) #[true, true, true, true, true, true, false, false] rfl rfl (by kernel_rfl) (by decide) (fun K hK => ?_)
  refine event_step (v := .slice (some ⟨V.heap.size, 0, none⟩) 1 1) (w1 := V.drew.alloc (.cells #[.int .i64 (x.val : Int)] 3)) (by rfl) (by first | (go_simp; done) | (go_simp; rfl)) ?_
  refine hK.out _ _ ⟨cell_alloc_f _ hHeld.1, cell_alloc_f _ hHeld.2⟩ (fun _ => ?_)
  clear hK K
  refine no_ 31 ?_
  refine last_ (i := 6) (N := some 32) #[true, true, true, true, true, true, true, false] rfl rfl (by kernel_rfl) (by decide) (fun K hK => ?_)
  refine step_of_list letsOut_own ?_
  have hBd : Below W2.heap.size W2 V.drew := hBw.drew
  refine Kd.R_append (Kd.int .i64) (W := V.drew) (w0 := W2) W2.heap.size rfl (.tmp 26) (.tmp 31) 43 3 (.int .i64 0) 8 rfl Tryd.underlying43 info3 rfl (by decide) (by omega) v (numsOf pre) (x.val : Int) [.int .i64 (x.val : Int)] (fun _ => True) (fun _ => False) rfl rfl rfl (fun _ hk => hk.elim) (fun _ _ => trivial) (Kd.R_drew hR) hBd hBd.size (by omega) ?_
  intro v1 w3 hR3 hB3 hg3 hat3
  refine hK.out _ _ ?_
  clear hK K
  have hb3 : Boxed w3 (W2.heap.size + 1) 43 v := Boxed.kept (W := V.drew) hbox hg3 (Kd.R_ne hR (show V.heap[W2.heap.size + 1]? = some (.cells #[v] 43 (0, 0)) from hbox) (by decide))
  obtain ⟨A3, k3, rfl⟩ := Kd.R_slice hR3
  have s1 := hb3.cell
  have s2 := hb3.frozen
  refine no_ 32 ?_
  refine last_ (i := 7) (N := none) #[true, true, true, true, true, true, true, true] rfl rfl (by kernel_rfl) (by decide) (fun K hK => ?_)
  refine step_skip (w1 := w3.setCell ⟨W2.heap.size + 1, 0, none⟩ (.slice A3 (numsOf pre ++ [(x.val : Int)]).length k3)) (by rfl) (by first | (go_simp; done) | (go_simp; rfl)) ?_
  refine hK.out _ _ ?_
  clear hK K
  refine done_ (by kernel_rfl) ?_
  have hro : numsOf (pre ++ [x]) = numsOf pre ++ [(x.val : Int)] := by unfold numsOf; rw [List.map_append]; rfl
  have hVw : Below W2.heap.size V (w3.setCell ⟨W2.heap.size + 1, 0, none⟩ (.slice A3 (numsOf pre ++ [(x.val : Int)]).length k3)) := (((Below.refl W2.heap.size V).drew).grown hg3 hBw.size (fun k e => Kd.R_base hR k e)).setCell (p := ⟨W2.heap.size + 1, 0, none⟩) (by simp) _
  refine ⟨keeps_app_i hR hg3 _, hVw, ⟨⟨_, hb3.set _, ?_⟩, hB3.setCell (p := ⟨W2.heap.size + 1, 0, none⟩) (by simp) _⟩⟩
  rw [hro]
  exact Kd.R_mono (Kd.R_far (p := ⟨W2.heap.size + 1, 0, none⟩) (Kd.R_types hR3 hb3 (by decide)) (fun k hk => hk.2) _) (fun _ _ => trivial)
 case done =>
  rintro D zs V hD rfl ⟨⟨v, hbox, hR⟩, hBw⟩ hK
  have cT := hbox.cell
  have HR := Aside0.mk hR
  have HB := Aside0.mk hBw
  clear hbox hR hBw
  gi_wp2
  refine ⟨by simp, .inl ⟨_, _, rfl, run_takeDeferred hK, ?_⟩⟩
  refine ⟨_, results_tmp rfl _ _ _, _, rfl, ?_, HB1.out.trans ((HB.out.trans (belowK_b (w := W2) (Nat.le_refl _) V D _ _ (by omega) hK rfl rfl)).mono HB1.out.size)⟩
  refine Kd.R_lower ?_ HB1.out.size
  rw [← HYS.out, show (zs.map KA.val).map Int.ofNat = numsOf zs by unfold numsOf; rw [List.map_map]; rfl]
  refine Kd.R_mono (Kd.R_step (Kd.R_bound HR.out) fun k hk hlt => World.putObj_heap_other ?_) (fun _ _ => trivial)
  rintro rfl
  obtain ⟨_, _, _, q, hq, cells, h3⟩ := hk
  rw [h3] at hK
  cases hK
 case stop =>
  rintro D c pre V hD hpre h
  exact h.elim
theorem impl_TreeKids.calls (k : Nat) (A0 : Option Addr) (c0 : Nat) (l0 : List S37) (a1 : Int) (r : List Int) (w : World) (hr0 : Kd.C k37 w A0 l0.length l0) (hc0 : l0.length ≤ c0) (h : impl_TreeKids.f k l0 a1 = some r) (hG : Glob w) :
  Calls Tryd.prog 37 #[.slice A0 l0.length c0, .int .i64 a1] w fun e w' => ∃ v0_ : Value, e = .returned v0_ ∧ Kd.R (Kd.int .i64) 3 w' w.heap.size (fun _ => True) v0_ r ∧ Below w.heap.size w w' := by
 obtain rfl := Option.some.inj h
 unfold kidsR
 by_cases ht : treeB l0 = true
 ·rw [if_pos ht]
  by_cases h0 : fndF (toFo l0) a1 = 0
  ·rw [if_pos h0]; exact treeKids_none A0 c0 l0 a1 w hr0 hc0 hG fun _ => h0
  ·rw [if_neg h0]; exact treeKids_some A0 c0 l0 a1 w hr0 hc0 hG ht h0
 ·rw [if_neg ht]; exact treeKids_none A0 c0 l0 a1 w hr0 hc0 hG fun g => absurd g ht
end Go.Proofs.YtlkheeegkifblaaDoor.P
namespace Go.Proofs.YtlkheeegkifblaaDoor.P
open Go.RowKit Go.Proofs.YtlkheeegkifblaaDoorW.PrintWords Go.Proofs.YtlkheeegkifblaaDoorW.PrintLast
attribute [local go_sem high] eqA27
def laws_FnOutIn.j0 : Nat → List (S37) → Int → Bool → Bool → Bool → Int → Int → Int → Int → ByteArray → Int → Int → Int → Int → ByteArray → Option (Bool)
 | 0, _, _, _, _, _, _, _, _, _, _, _, _, _, _, _ => none
 | k + 1, x3, x4, x6, x8, x46, x641000, x641001, x641002, x641003, x641004, x648000, x648001, x648002, x648003, x648004 => if x46 = true then (if (x8 == x6) = true then (some (x648000 == x641000 && (x648001 == x641001 && (x648002 == x641002 && (x648003 == x641003 && (x648004.toList == x641004.toList)))))) else (none)) else ((impl_TreeUp.f k x3 x4).bind fun bt648 => ((impl_TreeKids.f k x3 bt648.1).bind fun t650 => (if 0 ≤ (wrap64 ((t650.length : Int) - 1)) then (if (wrap64 ((t650.length : Int) - 1)) < (t650.length : Int) then (if (rd t650 (wrap64 ((t650.length : Int) - 1))) = x4 then ((impl_OpDo.f k x3 x648000 x648001 x648002 x648003 x648004).bind fun t654 => ((impl_KeyIn.f k t654 x4).bind fun bt657 => (if bt657.2.2.2.2.2 = true then ((impl_OpDo.f k t654 bt657.1 bt657.2.1 bt657.2.2.1 bt657.2.2.2.1 bt657.2.2.2.2.1).bind fun t664 => ((laws_lpRows.f k t664 x3).bind fun t667 => (some t667))) else (none)))) else (some true)) else (none)) else (none))))
def laws_FnOutIn.f (k : Nat) (l0 : List Int) : Option (Bool) := if (l0.length : Int) > 1048576 then (some true) else ((spec_DrawKeyOut.f k l0).bind fun bt630 => ((spec_KeyOut.f k bt630.1 bt630.2).bind fun bt634 => ((impl_KeyOut.f k bt630.1 bt630.2).bind fun bt641 => (if (bt641.2.2.2.2.2 != bt634.2.2.2.2.2) = true then (none) else (if (!(bt641.1 == bt634.1) || (!(bt641.2.1 == bt634.2.1) || (!(bt641.2.2.1 == bt634.2.2.1) || (!(bt641.2.2.2.1 == bt634.2.2.2.1) || (!(bt641.2.2.2.2.1.toList == bt634.2.2.2.2.1.toList)))))) = true then (laws_FnOutIn.j0 k bt630.1 bt630.2 bt634.2.2.2.2.2 bt641.2.2.2.2.2 true bt634.1 bt634.2.1 bt634.2.2.1 bt634.2.2.2.1 bt634.2.2.2.2.1 bt641.1 bt641.2.1 bt641.2.2.1 bt641.2.2.2.1 bt641.2.2.2.2.1) else (laws_FnOutIn.j0 k bt630.1 bt630.2 bt634.2.2.2.2.2 bt641.2.2.2.2.2 (!bt641.2.2.2.2.2) bt634.1 bt634.2.1 bt634.2.2.1 bt634.2.2.2.1 bt634.2.2.2.2.1 bt641.1 bt641.2.1 bt641.2.2.1 bt641.2.2.2.1 bt641.2.2.2.2.1))))))
theorem laws_FnOutIn.mono_l : ∀ k, (∀ y0 y1 y2 y3 y4 y5 y6 y7 y8 y9 y10 y11 y12 y13 y14, LeO (laws_FnOutIn.j0 k y0 y1 y2 y3 y4 y5 y6 y7 y8 y9 y10 y11 y12 y13 y14) (laws_FnOutIn.j0 (k + 1) y0 y1 y2 y3 y4 y5 y6 y7 y8 y9 y10 y11 y12 y13 y14))
 | 0 => fun _ _ _ _ _ _ _ _ _ _ _ _ _ _ _ r h => by simp [laws_FnOutIn.j0] at h
 | k + 1 => by
  have ih0 := laws_FnOutIn.mono_l k
  ·intro y0 y1 y2 y3 y4 y5 y6 y7 y8 y9 y10 y11 y12 y13 y14
   unfold laws_FnOutIn.j0
   repeat' first
   | (with_reducible exact ih0 _ _ _ _ _ _ _ _ _ _ _ _ _ _ _)
   | (with_reducible exact impl_KeyIn.mono _ _ _)
   | (with_reducible exact impl_KeyOut.mono _ _ _)
   | (with_reducible exact impl_OpDo.mono _ _ _ _ _ _ _)
   | (with_reducible exact impl_TreeKids.mono _ _ _)
   | (with_reducible exact impl_TreeUp.mono _ _ _)
   | (with_reducible exact laws_lpRows.mono _ _ _)
   | (with_reducible exact spec_DrawKeyOut.mono _ _)
   | (with_reducible exact spec_KeyOut.mono _ _ _)
   | (with_reducible exact LeO.refl _)
   | (with_reducible exact LeO.none _)
   | (with_reducible refine LeO.ite ?_ ?_)
   | (with_reducible refine LeO.bind ?_ (fun _ => ?_))
   | exact ih0 _ _ _ _ _ _ _ _ _ _ _ _ _ _ _
   | exact impl_KeyIn.mono _ _ _
   | exact impl_KeyOut.mono _ _ _
   | exact impl_OpDo.mono _ _ _ _ _ _ _
   | exact impl_TreeKids.mono _ _ _
   | exact impl_TreeUp.mono _ _ _
   | exact laws_lpRows.mono _ _ _
   | exact spec_DrawKeyOut.mono _ _
   | exact spec_KeyOut.mono _ _ _
   | exact LeO.none _
   | refine LeO.ite ?_ ?_
   | refine LeO.bind ?_ (fun _ => ?_)
theorem laws_FnOutIn.mono : ∀ a0 k, LeO (laws_FnOutIn.f k a0) (laws_FnOutIn.f (k + 1) a0) := by
 intro a0 k
 have ih0 := laws_FnOutIn.mono_l k
 unfold laws_FnOutIn.f
 repeat' first
   | (with_reducible exact ih0 _ _ _ _ _ _ _ _ _ _ _ _ _ _ _)
   | (with_reducible exact impl_KeyIn.mono _ _ _)
   | (with_reducible exact impl_KeyOut.mono _ _ _)
   | (with_reducible exact impl_OpDo.mono _ _ _ _ _ _ _)
   | (with_reducible exact impl_TreeKids.mono _ _ _)
   | (with_reducible exact impl_TreeUp.mono _ _ _)
   | (with_reducible exact laws_lpRows.mono _ _ _)
   | (with_reducible exact spec_DrawKeyOut.mono _ _)
   | (with_reducible exact spec_KeyOut.mono _ _ _)
   | (with_reducible exact LeO.refl _)
   | (with_reducible exact LeO.none _)
   | (with_reducible refine LeO.ite ?_ ?_)
   | (with_reducible refine LeO.bind ?_ (fun _ => ?_))
   | exact ih0 _ _ _ _ _ _ _ _ _ _ _ _ _ _ _
   | exact impl_KeyIn.mono _ _ _
   | exact impl_KeyOut.mono _ _ _
   | exact impl_OpDo.mono _ _ _ _ _ _ _
   | exact impl_TreeKids.mono _ _ _
   | exact impl_TreeUp.mono _ _ _
   | exact laws_lpRows.mono _ _ _
   | exact spec_DrawKeyOut.mono _ _
   | exact spec_KeyOut.mono _ _ _
   | exact LeO.none _
   | refine LeO.ite ?_ ?_
   | refine LeO.bind ?_ (fun _ => ?_)
set_option maxHeartbeats 8000000 in
set_option maxRecDepth 100000 in
theorem laws_FnOutIn.calls (k : Nat) (A0 : Option Addr) (c0 : Nat) (l0 : List Int) (r : Bool) (w : World) (hr0 : Kd.C (Kd.int .u8) w A0 l0.length l0) (hc0 : l0.length ≤ c0) (h : laws_FnOutIn.f k l0 = some r) (hG : Glob w) :
  Calls Tryd.prog 8 #[.slice A0 l0.length c0] w fun e w' => e = .returned (.bool r) ∧ Below w.heap.size w w' := by
 have hu27 := Tryd.underlying27
 have HR0 := Aside0.mk hr0
 have HC0 := Aside0.mk hc0
 clear hr0 hc0
 have HB := Aside0.mk (Below.refl w.heap.size w)
 have HG := Aside0.mk hG
 clear hG
 have H : (if (l0.length : Int) > 1048576 then (some true) else ((spec_DrawKeyOut.f k l0).bind fun bt630 => ((spec_KeyOut.f k bt630.1 bt630.2).bind fun bt634 => ((impl_KeyOut.f k bt630.1 bt630.2).bind fun bt641 => (if (bt641.2.2.2.2.2 != bt634.2.2.2.2.2) = true then (none) else (if (!(bt641.1 == bt634.1) || (!(bt641.2.1 == bt634.2.1) || (!(bt641.2.2.1 == bt634.2.2.1) || (!(bt641.2.2.2.1 == bt634.2.2.2.1) || (!(bt641.2.2.2.2.1.toList == bt634.2.2.2.2.1.toList)))))) = true then (laws_FnOutIn.j0 k bt630.1 bt630.2 bt634.2.2.2.2.2 bt641.2.2.2.2.2 true bt634.1 bt634.2.1 bt634.2.2.1 bt634.2.2.2.1 bt634.2.2.2.2.1 bt641.1 bt641.2.1 bt641.2.2.1 bt641.2.2.2.1 bt641.2.2.2.2.1) else (laws_FnOutIn.j0 k bt630.1 bt630.2 bt634.2.2.2.2.2 bt641.2.2.2.2.2 (!bt641.2.2.2.2.2) bt634.1 bt634.2.1 bt634.2.2.1 bt634.2.2.2.1 bt634.2.2.2.2.1 bt641.1 bt641.2.1 bt641.2.2.1 bt641.2.2.2.1 bt641.2.2.2.2.1))))))) = some r := h
 clear h
 by_cases c2 : (l0.length : Int) > 1048576
 ·rw [if_pos c2] at H
  have c2b0 : decide (1048576 < (l0.length : Int)) = true := decide_eq_true c2
  have c2b1 : decide (1048576 < l0.length) = true := decide_eq_true (by omega)
  clear c2
  obtain rfl := Option.some.inj H
  go_enter Tryd.func8, Tryd.ntmps8
  go_wp2
  go_ret
  exact ⟨by first | rfl | (simp [errW_none, errW_some] <;> rfl) | (simp [*, errW_none, errW_some] <;> rfl), by repeat (first | (with_reducible first | exact HB.out | apply below_alloc | apply pw_below_drewN | apply below_drew1) | exact HB.out)⟩
 ·rw [if_neg c2] at H
  have c2b0 : decide (1048576 < (l0.length : Int)) = false := decide_eq_false c2
  have c2b1 : decide (1048576 < l0.length) = false := decide_eq_false (by omega)
  clear c2
  replace H := Option.bind_eq_some_iff.mp H
  obtain ⟨⟨t630, t631⟩, A30, H⟩ := H
  replace H : ((spec_KeyOut.f k t630 t631).bind fun bt634 => ((impl_KeyOut.f k t630 t631).bind fun bt641 => (if (bt641.2.2.2.2.2 != bt634.2.2.2.2.2) = true then (none) else (if (!(bt641.1 == bt634.1) || (!(bt641.2.1 == bt634.2.1) || (!(bt641.2.2.1 == bt634.2.2.1) || (!(bt641.2.2.2.1 == bt634.2.2.2.1) || (!(bt641.2.2.2.2.1.toList == bt634.2.2.2.2.1.toList)))))) = true then (laws_FnOutIn.j0 k t630 t631 bt634.2.2.2.2.2 bt641.2.2.2.2.2 true bt634.1 bt634.2.1 bt634.2.2.1 bt634.2.2.2.1 bt634.2.2.2.2.1 bt641.1 bt641.2.1 bt641.2.2.1 bt641.2.2.2.1 bt641.2.2.2.2.1) else (laws_FnOutIn.j0 k t630 t631 bt634.2.2.2.2.2 bt641.2.2.2.2.2 (!bt641.2.2.2.2.2) bt634.1 bt634.2.1 bt634.2.2.1 bt634.2.2.2.1 bt634.2.2.2.2.1 bt641.1 bt641.2.1 bt641.2.2.1 bt641.2.2.2.1 bt641.2.2.2.2.1))))) = some r := H
  have A3 := Aside0.mk A30
  clear A30
  replace H := Option.bind_eq_some_iff.mp H
  obtain ⟨⟨t634, t635, t636, t637, t638, t639⟩, A40, H⟩ := H
  replace H : ((impl_KeyOut.f k t630 t631).bind fun bt641 => (if (bt641.2.2.2.2.2 != t639) = true then (none) else (if (!(bt641.1 == t634) || (!(bt641.2.1 == t635) || (!(bt641.2.2.1 == t636) || (!(bt641.2.2.2.1 == t637) || (!(bt641.2.2.2.2.1.toList == t638.toList)))))) = true then (laws_FnOutIn.j0 k t630 t631 t639 bt641.2.2.2.2.2 true t634 t635 t636 t637 t638 bt641.1 bt641.2.1 bt641.2.2.1 bt641.2.2.2.1 bt641.2.2.2.2.1) else (laws_FnOutIn.j0 k t630 t631 t639 bt641.2.2.2.2.2 (!bt641.2.2.2.2.2) t634 t635 t636 t637 t638 bt641.1 bt641.2.1 bt641.2.2.1 bt641.2.2.2.1 bt641.2.2.2.2.1)))) = some r := H
  have A4 := Aside0.mk A40
  clear A40
  replace H := Option.bind_eq_some_iff.mp H
  obtain ⟨⟨t641, t642, t643, t644, t645, t646⟩, A50, H⟩ := H
  replace H : (if (t646 != t639) = true then (none) else (if (!(t641 == t634) || (!(t642 == t635) || (!(t643 == t636) || (!(t644 == t637) || (!(t645.toList == t638.toList)))))) = true then (laws_FnOutIn.j0 k t630 t631 t639 t646 true t634 t635 t636 t637 t638 t641 t642 t643 t644 t645) else (laws_FnOutIn.j0 k t630 t631 t639 t646 (!t646) t634 t635 t636 t637 t638 t641 t642 t643 t644 t645))) = some r := H
  have A5 := Aside0.mk A50
  clear A50
  have HC6 := Aside0.mk H
  clear H
  go_enter Tryd.func8, Tryd.ntmps8
  go_upto_region 6 with (first | ((with_reducible refine gate_callee (f := 32) rfl ?_); refine goesL_ (some 20) rfl rfl Tryd.func32 (by kernel_rfl) rfl #[.slice A0 l0.length c0] rfl (by (try simp only [List.map_toArray, List.map_cons, List.map_nil]); first | done | rfl | (simp only [List.length_drop, List.length_take]; rfl)) ?_; (with_reducible refine (spec_DrawKeyOut.calls k _ _ l0 t630 t631 _ ?side1 ?side2 A3.out).mono ?_); (case side1 => repeat (first | exact HR0.out | (with_reducible refine Kd.C_alloc ?_ _) | (with_reducible refine Kd.C_drewN ?_ _) | (with_reducible refine Kd.C_drew ?_))); (case side2 => exact HC0.out); rintro e w7 ⟨v632, rfl, ho0, hb⟩; refine ⟨_, rfl, ?_⟩; have n0_ := Aside0.mk (Kd.Q_lower ho0 (below_size (by repeat (first | (with_reducible first | exact HB.out | apply below_alloc | apply pw_below_drewN | apply below_drew1) | exact HB.out)))); have n1_ := Aside0.mk (below_step (by repeat (first | (with_reducible first | exact HB.out | apply below_alloc | apply pw_below_drewN | apply below_drew1) | exact HB.out)) hb); clear HB; have HO633 := n0_; have HB := n1_; clear n0_ n1_; (try clear hb); (try clear hb2); (try clear hk); (try clear hi); (try clear ho0); obtain ⟨Ao8, co8, eo8, _⟩ := Kd.Q_slice HO633.out; subst eo8) | ((with_reducible refine gate_callee (f := 33) rfl ?_); refine goesL_ (some 26) rfl rfl Tryd.func33 (by kernel_rfl) rfl #[.slice Ao8 t630.length co8, .int .i64 t631] rfl (by (try simp only [List.map_toArray, List.map_cons, List.map_nil]); first | done | rfl | (simp only [List.length_drop, List.length_take]; rfl)) ?_; (with_reducible refine (spec_KeyOut.calls k _ _ t630 t631 t634 t635 t636 t637 t638 t639 _ ?side1 ?side2 A4.out).mono ?_); (case side1 => repeat (first | exact (Kd.Q_reads' HO633.out).2.2 | (with_reducible refine Kd.C_alloc ?_ _) | (with_reducible refine Kd.C_drewN ?_ _) | (with_reducible refine Kd.C_drew ?_))); (case side2 => exact (Kd.Q_reads' HO633.out).2.1); rintro e w9 ⟨rfl, hb⟩; refine ⟨_, rfl, ?_⟩; have n0_ := Aside0.mk (Kd.Q_below (by (with_reducible repeat (first | apply Kd.Q_alloc | apply Kd.Q_drewN | apply Kd.Q_drew)); exact HO633.out) hb); have n1_ := Aside0.mk (below_step (by repeat (first | (with_reducible first | exact HB.out | apply below_alloc | apply pw_below_drewN | apply below_drew1) | exact HB.out)) hb); clear HO633; clear HB; have HO633 := n0_; have HB := n1_; clear n0_ n1_; (try clear hb); (try clear hb2); (try clear hk); (try clear hi)) | ((with_reducible refine gate_dst (N := 5) rfl ?_); refine box_event ?hg (N := 5) ?hd (cs := #[.int .i64 0, .int .i64 0, .int .i64 0, .int .i64 0, .string (⟨#[]⟩ : ByteArray)]) (t := 27) ?hr ?_; (case hd => rfl); (case hg => rfl); (case hr => first | (go_simp; done) | (go_simp; rfl)); intro gb640 hg w10 hbox hb; have n0_ := Aside0.mk (Kd.Q_below (by (with_reducible repeat (first | apply Kd.Q_alloc | apply Kd.Q_drewN | apply Kd.Q_drew)); exact HO633.out) hb); have n1_ := Aside0.mk (below_step (by repeat (first | (with_reducible first | exact HB.out | apply below_alloc | apply pw_below_drewN | apply below_drew1) | exact HB.out)) hb); have n2_ := Aside0.mk (hbox); have n3_ := Aside0.mk ((by rw [hg]; exact (below_size (by repeat (first | (with_reducible first | exact HB.out | apply below_alloc | apply pw_below_drewN | apply below_drew1) | exact HB.out))) : w.heap.size ≤ gb640)); have n4_ := Aside0.mk ((by rw [hg]; exact (below_size (by repeat (first | (with_reducible first | exact HB.out | apply below_alloc | apply pw_below_drewN | apply below_drew1) | exact HB.out))) : w.heap.size ≤ gb640)); clear HO633; clear HB; have HO633 := n0_; have HB := n1_; have BK640 := n2_; have GW640 := n3_; have GE640 := n4_; clear n0_ n1_ n2_ n3_ n4_; clear hb hbox hg; have hcz11_0 : w10.cell? ⟨gb640, 0, none⟩ = some (.int .i64 0) := (blk_cell BK640.out 0).trans rfl; have hcz11_1 : w10.cell? ⟨gb640, 1, none⟩ = some (.int .i64 0) := (blk_cell BK640.out 1).trans rfl; have hcz11_2 : w10.cell? ⟨gb640, 2, none⟩ = some (.int .i64 0) := (blk_cell BK640.out 2).trans rfl; have hcz11_3 : w10.cell? ⟨gb640, 3, none⟩ = some (.int .i64 0) := (blk_cell BK640.out 3).trans rfl; have hcz11_4 : w10.cell? ⟨gb640, 4, none⟩ = some (.string (⟨#[]⟩ : ByteArray)) := (blk_cell BK640.out 4).trans rfl; have hfz11_0 := blk_frozen BK640.out 0; have hfz11_1 := blk_frozen BK640.out 1; have hfz11_2 := blk_frozen BK640.out 2; have hfz11_3 := blk_frozen BK640.out 3; have hfz11_4 := blk_frozen BK640.out 4) | ((with_reducible refine gate_callee (f := 29) rfl ?_); refine goesL_ (some 32) rfl rfl Tryd.func29 (by kernel_rfl) rfl #[.slice Ao8 t630.length co8, .int .i64 t631] rfl (by (try simp only [List.map_toArray, List.map_cons, List.map_nil]); first | done | rfl | (simp only [List.length_drop, List.length_take]; rfl)) ?_; (with_reducible refine (impl_KeyOut.calls k _ _ t630 t631 t641 t642 t643 t644 t645 t646 _ ?side1 ?side2 A5.out ?side3).mono ?_); (case side1 => refine (Kd.Q_reads' (e := 37) (base := w.heap.size) (ok := fun k_ => True) (n := t630.length) (c := co8) ?_).2.2; exact (by (with_reducible repeat (first | apply Kd.Q_alloc | apply Kd.Q_drewN | apply Kd.Q_drew)); exact (Kd.Q_mono (Kd.Q_far (p := ⟨gb640, 4, none⟩) (Kd.Q_far (p := ⟨gb640, 3, none⟩) (Kd.Q_far (p := ⟨gb640, 2, none⟩) (Kd.Q_far (p := ⟨gb640, 1, none⟩) (Kd.Q_far (p := ⟨gb640, 0, none⟩) (Kd.Q_types HO633.out BK640.out (by decide)) (fun _ hk => hk.2) (.int .i64 t634)) (fun _ hk => hk.2) (.int .i64 t635)) (fun _ hk => hk.2) (.int .i64 t636)) (fun _ hk => hk.2) (.int .i64 t637)) (fun _ hk => hk.2) (.string t638)) (fun _ h_ => h_.1)))); (case side2 => exact (Kd.Q_reads' HO633.out).2.1); (case side3 => exact Glob.below HG.out (by repeat (first | (with_reducible first | exact HB.out | apply below_alloc | apply pw_below_drewN | apply below_drew1 | refine below_set ?_ GE640.out) | exact HB.out))); rintro e w12 ⟨rfl, hb⟩; refine ⟨_, rfl, ?_⟩; have n0_ := Aside0.mk (Kd.Q_below (by (with_reducible repeat (first | apply Kd.Q_alloc | apply Kd.Q_drewN | apply Kd.Q_drew)); exact (Kd.Q_mono (Kd.Q_far (p := ⟨gb640, 4, none⟩) (Kd.Q_far (p := ⟨gb640, 3, none⟩) (Kd.Q_far (p := ⟨gb640, 2, none⟩) (Kd.Q_far (p := ⟨gb640, 1, none⟩) (Kd.Q_far (p := ⟨gb640, 0, none⟩) (Kd.Q_types HO633.out BK640.out (by decide)) (fun _ hk => hk.2) (.int .i64 t634)) (fun _ hk => hk.2) (.int .i64 t635)) (fun _ hk => hk.2) (.int .i64 t636)) (fun _ hk => hk.2) (.int .i64 t637)) (fun _ hk => hk.2) (.string t638)) (fun _ h_ => h_.1))) hb); have n1_ := Aside0.mk (blk_below (g := gb640) (o := .cells #[.int .i64 t634, .int .i64 t635, .int .i64 t636, .int .i64 t637, .string t638] 27 (0, 0)) (by (with_reducible repeat (first | refine blk_drewN ?_ _ | refine blk_drew ?_ | refine blk_alloc ?_ _)); refine blk_put (cs := #[.int .i64 t634, .int .i64 t635, .int .i64 t636, .int .i64 t637, .string (⟨#[]⟩ : ByteArray)]) ?_ 4 _ rfl; (with_reducible repeat (first | refine blk_drewN ?_ _ | refine blk_drew ?_ | refine blk_alloc ?_ _)); refine blk_put (cs := #[.int .i64 t634, .int .i64 t635, .int .i64 t636, .int .i64 0, .string (⟨#[]⟩ : ByteArray)]) ?_ 3 _ rfl; (with_reducible repeat (first | refine blk_drewN ?_ _ | refine blk_drew ?_ | refine blk_alloc ?_ _)); refine blk_put (cs := #[.int .i64 t634, .int .i64 t635, .int .i64 0, .int .i64 0, .string (⟨#[]⟩ : ByteArray)]) ?_ 2 _ rfl; (with_reducible repeat (first | refine blk_drewN ?_ _ | refine blk_drew ?_ | refine blk_alloc ?_ _)); refine blk_put (cs := #[.int .i64 t634, .int .i64 0, .int .i64 0, .int .i64 0, .string (⟨#[]⟩ : ByteArray)]) ?_ 1 _ rfl; (with_reducible repeat (first | refine blk_drewN ?_ _ | refine blk_drew ?_ | refine blk_alloc ?_ _)); refine blk_put (cs := #[.int .i64 0, .int .i64 0, .int .i64 0, .int .i64 0, .string (⟨#[]⟩ : ByteArray)]) ?_ 0 _ rfl; (with_reducible repeat (first | refine blk_drewN ?_ _ | refine blk_drew ?_ | refine blk_alloc ?_ _)); exact BK640.out) hb); have n2_ := Aside0.mk (below_step (by repeat (first | (with_reducible first | exact HB.out | apply below_alloc | apply pw_below_drewN | apply below_drew1 | refine below_set ?_ GE640.out) | exact HB.out)) hb); clear HO633; clear BK640; clear HB; have HO633 := n0_; have BK640 := n1_; have HB := n2_; clear n0_ n1_ n2_; (try clear hb); (try clear hb2); (try clear hk); (try clear hi)) | ((with_reducible refine gate_dst (N := 7) rfl ?_); refine box_event ?hg (N := 7) ?hd (cs := #[.int .i64 0, .int .i64 0, .int .i64 0, .int .i64 0, .string (⟨#[]⟩ : ByteArray)]) (t := 27) ?hr ?_; (case hd => rfl); (case hg => rfl); (case hr => first | (go_simp; done) | (go_simp; rfl)); intro gb647 hg w13 hbox hb; have n0_ := Aside0.mk (Kd.Q_below (by (with_reducible repeat (first | apply Kd.Q_alloc | apply Kd.Q_drewN | apply Kd.Q_drew)); exact HO633.out) hb); have n1_ := Aside0.mk (blk_below (g := gb640) (o := .cells #[.int .i64 t634, .int .i64 t635, .int .i64 t636, .int .i64 t637, .string t638] 27 (0, 0)) (by (with_reducible repeat (first | refine blk_drewN ?_ _ | refine blk_drew ?_ | refine blk_alloc ?_ _)); exact BK640.out) hb); have n2_ := Aside0.mk (below_step (by repeat (first | (with_reducible first | exact HB.out | apply below_alloc | apply pw_below_drewN | apply below_drew1 | refine below_set ?_ GE640.out) | exact HB.out)) hb); have n3_ := Aside0.mk (hbox); have n4_ := Aside0.mk ((by rw [hg]; exact (below_size (by repeat (first | (with_reducible first | exact HB.out | apply below_alloc | apply pw_below_drewN | apply below_drew1 | refine below_set ?_ GE640.out) | exact HB.out))) : w.heap.size ≤ gb647)); have n5_ := Aside0.mk ((by rw [hg]; exact (below_size (by repeat (first | (with_reducible first | exact HB.out | apply below_alloc | apply pw_below_drewN | apply below_drew1 | refine below_set ?_ GE640.out) | exact HB.out))) : w.heap.size ≤ gb647)); have n6_ := Aside0.mk ((by rw [hg]; exact Nat.ne_of_lt (blk_lt (g := gb640) (o := .cells #[.int .i64 t634, .int .i64 t635, .int .i64 t636, .int .i64 t637, .string t638] 27 (0, 0)) (by (with_reducible repeat (first | refine blk_drewN ?_ _ | refine blk_drew ?_ | refine blk_alloc ?_ _)); exact BK640.out)) : gb640 ≠ gb647)); have n7_ := Aside0.mk ((by rw [hg]; exact Nat.ne_of_gt (blk_lt (g := gb640) (o := .cells #[.int .i64 t634, .int .i64 t635, .int .i64 t636, .int .i64 t637, .string t638] 27 (0, 0)) (by (with_reducible repeat (first | refine blk_drewN ?_ _ | refine blk_drew ?_ | refine blk_alloc ?_ _)); exact BK640.out)) : gb647 ≠ gb640)); clear HO633; clear BK640; clear HB; have HO633 := n0_; have BK640 := n1_; have HB := n2_; have BK647 := n3_; have GW647 := n4_; have GE647 := n5_; have NB640_647 := n6_; have NB647_640 := n7_; clear n0_ n1_ n2_ n3_ n4_ n5_ n6_ n7_; clear hb hbox hg; have hnb14 := NB647_640.out; have hnc14 := NB640_647.out; have hcz15_0 : w13.cell? ⟨gb647, 0, none⟩ = some (.int .i64 0) := (blk_cell BK647.out 0).trans rfl; have hcz15_1 : w13.cell? ⟨gb647, 1, none⟩ = some (.int .i64 0) := (blk_cell BK647.out 1).trans rfl; have hcz15_2 : w13.cell? ⟨gb647, 2, none⟩ = some (.int .i64 0) := (blk_cell BK647.out 2).trans rfl; have hcz15_3 : w13.cell? ⟨gb647, 3, none⟩ = some (.int .i64 0) := (blk_cell BK647.out 3).trans rfl; have hcz15_4 : w13.cell? ⟨gb647, 4, none⟩ = some (.string (⟨#[]⟩ : ByteArray)) := (blk_cell BK647.out 4).trans rfl; have hfz15_0 := blk_frozen BK647.out 0; have hfz15_1 := blk_frozen BK647.out 1; have hfz15_2 := blk_frozen BK647.out 2; have hfz15_3 := blk_frozen BK647.out 3; have hfz15_4 := blk_frozen BK647.out 4))
  (try simp only [Act.put, List.setIfInBounds_toArray, List.set_cons_zero, List.set_cons_succ])
  go_cut [46] (fun v46 wc => ∃ (kq : Nat) (x46_5 : Bool), v46 = .bool x46_5 ∧ Aside0 (laws_FnOutIn.j0 kq t630 t631 t639 t646 x46_5 t634 t635 t636 t637 t638 t641 t642 t643 t644 t645 = some r) ∧ Aside0 (kq ≤ k) ∧ Aside0 (Kd.Q k37 37 wc w.heap.size (fun _ => True) (.slice Ao8 t630.length co8) t630) ∧ Aside0 (wc.heap[gb640]? = some (.cells #[.int .i64 t634, .int .i64 t635, .int .i64 t636, .int .i64 t637, .string t638] 27 (0, 0))) ∧ Aside0 (wc.heap[gb647]? = some (.cells #[.int .i64 t641, .int .i64 t642, .int .i64 t643, .int .i64 t644, .string t645] 27 (0, 0))) ∧ Aside0 (Below w.heap.size w wc))
  case first =>
   have H := HC6.out
   clear HC6
   by_cases c16 : (t646 != t639) = true
   ·rw [if_pos c16] at H
    exact absurd H (by simp)
   ·rw [if_neg c16] at H
    have c16b0 : (t646 != t639) = false := by simpa using c16
    (try (have c16b1 : decide (t646 = t639) = true := by simpa using c16))
    (try (have c16b2 : (t646 == t639) = true := by simpa using c16))
    clear c16
    (first | rw [c16b0] | (simp only [i64_w, i32_w]; rw [c16b0]) | skip)
    by_cases c17 : (!(t641 == t634) || (!(t642 == t635) || (!(t643 == t636) || (!(t644 == t637) || (!(t645.toList == t638.toList)))))) = true
    ·rw [if_pos c17] at H
     have c17b0 : (!(t641 == t634) || (!(t642 == t635) || (!(t643 == t636) || (!(t644 == t637) || (!(t645.toList == t638.toList)))))) = true := c17
     clear c17
     have H' := Aside0.mk H
     clear H
     have hnb18 := NB647_640.out
     have hnc18 := NB640_647.out
     have hcz19_0 : w13.cell? ⟨gb647, 0, none⟩ = some (.int .i64 0) := (blk_cell BK647.out 0).trans rfl
     have hcz19_1 : w13.cell? ⟨gb647, 1, none⟩ = some (.int .i64 0) := (blk_cell BK647.out 1).trans rfl
     have hcz19_2 : w13.cell? ⟨gb647, 2, none⟩ = some (.int .i64 0) := (blk_cell BK647.out 2).trans rfl
     have hcz19_3 : w13.cell? ⟨gb647, 3, none⟩ = some (.int .i64 0) := (blk_cell BK647.out 3).trans rfl
     have hcz19_4 : w13.cell? ⟨gb647, 4, none⟩ = some (.string (⟨#[]⟩ : ByteArray)) := (blk_cell BK647.out 4).trans rfl
     have hfz19_0 := blk_frozen BK647.out 0
     have hfz19_1 := blk_frozen BK647.out 1
     have hfz19_2 := blk_frozen BK647.out 2
     have hfz19_3 := blk_frozen BK647.out 3
     have hfz19_4 := blk_frozen BK647.out 4
     have hcz20_0 : w13.cell? ⟨gb640, 0, none⟩ = some (.int .i64 t634) := (blk_cell BK640.out 0).trans rfl
     have hcz20_1 : w13.cell? ⟨gb640, 1, none⟩ = some (.int .i64 t635) := (blk_cell BK640.out 1).trans rfl
     have hcz20_2 : w13.cell? ⟨gb640, 2, none⟩ = some (.int .i64 t636) := (blk_cell BK640.out 2).trans rfl
     have hcz20_3 : w13.cell? ⟨gb640, 3, none⟩ = some (.int .i64 t637) := (blk_cell BK640.out 3).trans rfl
     have hcz20_4 : w13.cell? ⟨gb640, 4, none⟩ = some (.string t638) := (blk_cell BK640.out 4).trans rfl
     have hfz20_0 := blk_frozen BK640.out 0
     have hfz20_1 := blk_frozen BK640.out 1
     have hfz20_2 := blk_frozen BK640.out 2
     have hfz20_3 := blk_frozen BK640.out 3
     have hfz20_4 := blk_frozen BK640.out 4
     go_wp2
     go_meet
     case rel => exact ⟨_, (true), (by first | rfl | (simp; done) | (simp [*]; done)), H', ⟨by first | omega | exact Nat.le_refl _⟩, ⟨by (with_reducible repeat (first | apply Kd.Q_alloc | apply Kd.Q_drewN | apply Kd.Q_drew)); exact Kd.Q_mono (Kd.Q_far (p := ⟨gb647, 4, none⟩) (Kd.Q_far (p := ⟨gb647, 3, none⟩) (Kd.Q_far (p := ⟨gb647, 2, none⟩) (Kd.Q_far (p := ⟨gb647, 1, none⟩) (Kd.Q_far (p := ⟨gb647, 0, none⟩) (Kd.Q_types HO633.out BK647.out (by decide)) (fun _ hk => hk.2) (.int .i64 t641)) (fun _ hk => hk.2) (.int .i64 t642)) (fun _ hk => hk.2) (.int .i64 t643)) (fun _ hk => hk.2) (.int .i64 t644)) (fun _ hk => hk.2) (.string t645)) (fun _ hk => trivial)⟩, ⟨by (with_reducible repeat (first | refine blk_drewN ?_ _ | refine blk_drew ?_ | refine blk_alloc ?_ _)); refine blk_far ?_ NB640_647.out _; (with_reducible repeat (first | refine blk_drewN ?_ _ | refine blk_drew ?_ | refine blk_alloc ?_ _)); refine blk_far ?_ NB640_647.out _; (with_reducible repeat (first | refine blk_drewN ?_ _ | refine blk_drew ?_ | refine blk_alloc ?_ _)); refine blk_far ?_ NB640_647.out _; (with_reducible repeat (first | refine blk_drewN ?_ _ | refine blk_drew ?_ | refine blk_alloc ?_ _)); refine blk_far ?_ NB640_647.out _; (with_reducible repeat (first | refine blk_drewN ?_ _ | refine blk_drew ?_ | refine blk_alloc ?_ _)); refine blk_far ?_ NB640_647.out _; (with_reducible repeat (first | refine blk_drewN ?_ _ | refine blk_drew ?_ | refine blk_alloc ?_ _)); exact BK640.out⟩, ⟨by (with_reducible repeat (first | refine blk_drewN ?_ _ | refine blk_drew ?_ | refine blk_alloc ?_ _)); refine blk_put (cs := #[.int .i64 t641, .int .i64 t642, .int .i64 t643, .int .i64 t644, .string (⟨#[]⟩ : ByteArray)]) ?_ 4 _ rfl; (with_reducible repeat (first | refine blk_drewN ?_ _ | refine blk_drew ?_ | refine blk_alloc ?_ _)); refine blk_put (cs := #[.int .i64 t641, .int .i64 t642, .int .i64 t643, .int .i64 0, .string (⟨#[]⟩ : ByteArray)]) ?_ 3 _ rfl; (with_reducible repeat (first | refine blk_drewN ?_ _ | refine blk_drew ?_ | refine blk_alloc ?_ _)); refine blk_put (cs := #[.int .i64 t641, .int .i64 t642, .int .i64 0, .int .i64 0, .string (⟨#[]⟩ : ByteArray)]) ?_ 2 _ rfl; (with_reducible repeat (first | refine blk_drewN ?_ _ | refine blk_drew ?_ | refine blk_alloc ?_ _)); refine blk_put (cs := #[.int .i64 t641, .int .i64 0, .int .i64 0, .int .i64 0, .string (⟨#[]⟩ : ByteArray)]) ?_ 1 _ rfl; (with_reducible repeat (first | refine blk_drewN ?_ _ | refine blk_drew ?_ | refine blk_alloc ?_ _)); refine blk_put (cs := #[.int .i64 0, .int .i64 0, .int .i64 0, .int .i64 0, .string (⟨#[]⟩ : ByteArray)]) ?_ 0 _ rfl; (with_reducible repeat (first | refine blk_drewN ?_ _ | refine blk_drew ?_ | refine blk_alloc ?_ _)); exact BK647.out⟩, ⟨by repeat (first | (with_reducible first | exact HB.out | apply below_alloc | apply pw_below_drewN | apply below_drew1 | refine below_set ?_ GE640.out | refine below_set ?_ GE647.out) | exact HB.out)⟩⟩
    ·rw [if_neg c17] at H
     have c17b0 : (!(t641 == t634) || (!(t642 == t635) || (!(t643 == t636) || (!(t644 == t637) || (!(t645.toList == t638.toList)))))) = false := by simpa using c17
     clear c17
     have H' := Aside0.mk H
     clear H
     have hnb21 := NB647_640.out
     have hnc21 := NB640_647.out
     have hcz22_0 : w13.cell? ⟨gb647, 0, none⟩ = some (.int .i64 0) := (blk_cell BK647.out 0).trans rfl
     have hcz22_1 : w13.cell? ⟨gb647, 1, none⟩ = some (.int .i64 0) := (blk_cell BK647.out 1).trans rfl
     have hcz22_2 : w13.cell? ⟨gb647, 2, none⟩ = some (.int .i64 0) := (blk_cell BK647.out 2).trans rfl
     have hcz22_3 : w13.cell? ⟨gb647, 3, none⟩ = some (.int .i64 0) := (blk_cell BK647.out 3).trans rfl
     have hcz22_4 : w13.cell? ⟨gb647, 4, none⟩ = some (.string (⟨#[]⟩ : ByteArray)) := (blk_cell BK647.out 4).trans rfl
     have hfz22_0 := blk_frozen BK647.out 0
     have hfz22_1 := blk_frozen BK647.out 1
     have hfz22_2 := blk_frozen BK647.out 2
     have hfz22_3 := blk_frozen BK647.out 3
     have hfz22_4 := blk_frozen BK647.out 4
     have hcz23_0 : w13.cell? ⟨gb640, 0, none⟩ = some (.int .i64 t634) := (blk_cell BK640.out 0).trans rfl
     have hcz23_1 : w13.cell? ⟨gb640, 1, none⟩ = some (.int .i64 t635) := (blk_cell BK640.out 1).trans rfl
     have hcz23_2 : w13.cell? ⟨gb640, 2, none⟩ = some (.int .i64 t636) := (blk_cell BK640.out 2).trans rfl
     have hcz23_3 : w13.cell? ⟨gb640, 3, none⟩ = some (.int .i64 t637) := (blk_cell BK640.out 3).trans rfl
     have hcz23_4 : w13.cell? ⟨gb640, 4, none⟩ = some (.string t638) := (blk_cell BK640.out 4).trans rfl
     have hfz23_0 := blk_frozen BK640.out 0
     have hfz23_1 := blk_frozen BK640.out 1
     have hfz23_2 := blk_frozen BK640.out 2
     have hfz23_3 := blk_frozen BK640.out 3
     have hfz23_4 := blk_frozen BK640.out 4
     go_wp2
     go_meet
     case rel => exact ⟨_, (!t646), (by first | rfl | (simp; done) | (simp [*]; done)), H', ⟨by first | omega | exact Nat.le_refl _⟩, ⟨by (with_reducible repeat (first | apply Kd.Q_alloc | apply Kd.Q_drewN | apply Kd.Q_drew)); exact Kd.Q_mono (Kd.Q_far (p := ⟨gb647, 4, none⟩) (Kd.Q_far (p := ⟨gb647, 3, none⟩) (Kd.Q_far (p := ⟨gb647, 2, none⟩) (Kd.Q_far (p := ⟨gb647, 1, none⟩) (Kd.Q_far (p := ⟨gb647, 0, none⟩) (Kd.Q_types HO633.out BK647.out (by decide)) (fun _ hk => hk.2) (.int .i64 t641)) (fun _ hk => hk.2) (.int .i64 t642)) (fun _ hk => hk.2) (.int .i64 t643)) (fun _ hk => hk.2) (.int .i64 t644)) (fun _ hk => hk.2) (.string t645)) (fun _ hk => trivial)⟩, ⟨by (with_reducible repeat (first | refine blk_drewN ?_ _ | refine blk_drew ?_ | refine blk_alloc ?_ _)); refine blk_far ?_ NB640_647.out _; (with_reducible repeat (first | refine blk_drewN ?_ _ | refine blk_drew ?_ | refine blk_alloc ?_ _)); refine blk_far ?_ NB640_647.out _; (with_reducible repeat (first | refine blk_drewN ?_ _ | refine blk_drew ?_ | refine blk_alloc ?_ _)); refine blk_far ?_ NB640_647.out _; (with_reducible repeat (first | refine blk_drewN ?_ _ | refine blk_drew ?_ | refine blk_alloc ?_ _)); refine blk_far ?_ NB640_647.out _; (with_reducible repeat (first | refine blk_drewN ?_ _ | refine blk_drew ?_ | refine blk_alloc ?_ _)); refine blk_far ?_ NB640_647.out _; (with_reducible repeat (first | refine blk_drewN ?_ _ | refine blk_drew ?_ | refine blk_alloc ?_ _)); exact BK640.out⟩, ⟨by (with_reducible repeat (first | refine blk_drewN ?_ _ | refine blk_drew ?_ | refine blk_alloc ?_ _)); refine blk_put (cs := #[.int .i64 t641, .int .i64 t642, .int .i64 t643, .int .i64 t644, .string (⟨#[]⟩ : ByteArray)]) ?_ 4 _ rfl; (with_reducible repeat (first | refine blk_drewN ?_ _ | refine blk_drew ?_ | refine blk_alloc ?_ _)); refine blk_put (cs := #[.int .i64 t641, .int .i64 t642, .int .i64 t643, .int .i64 0, .string (⟨#[]⟩ : ByteArray)]) ?_ 3 _ rfl; (with_reducible repeat (first | refine blk_drewN ?_ _ | refine blk_drew ?_ | refine blk_alloc ?_ _)); refine blk_put (cs := #[.int .i64 t641, .int .i64 t642, .int .i64 0, .int .i64 0, .string (⟨#[]⟩ : ByteArray)]) ?_ 2 _ rfl; (with_reducible repeat (first | refine blk_drewN ?_ _ | refine blk_drew ?_ | refine blk_alloc ?_ _)); refine blk_put (cs := #[.int .i64 t641, .int .i64 0, .int .i64 0, .int .i64 0, .string (⟨#[]⟩ : ByteArray)]) ?_ 1 _ rfl; (with_reducible repeat (first | refine blk_drewN ?_ _ | refine blk_drew ?_ | refine blk_alloc ?_ _)); refine blk_put (cs := #[.int .i64 0, .int .i64 0, .int .i64 0, .int .i64 0, .string (⟨#[]⟩ : ByteArray)]) ?_ 0 _ rfl; (with_reducible repeat (first | refine blk_drewN ?_ _ | refine blk_drew ?_ | refine blk_alloc ?_ _)); exact BK647.out⟩, ⟨by repeat (first | (with_reducible first | exact HB.out | apply below_alloc | apply pw_below_drewN | apply below_drew1 | refine below_set ?_ GE640.out | refine below_set ?_ GE647.out) | exact HB.out)⟩⟩
  case rest =>
   clear HC6
   try clear c1
   try clear c2
   try clear c2b0
   try clear c2b1
   try clear p2
   try clear c3
   try clear c8
   try clear c14
   try clear c16
   try clear c16b0
   try clear c16b1
   try clear c16b2
   try clear c17
   try clear c17b0
   try clear c18
   try clear c21
   try clear hcz11_0
   try clear hcz11_1
   try clear hcz11_2
   try clear hcz11_3
   try clear hcz11_4
   try clear hcz15_0
   try clear hcz15_1
   try clear hcz15_2
   try clear hcz15_3
   try clear hcz15_4
   try clear hcz19_0
   try clear hcz19_1
   try clear hcz19_2
   try clear hcz19_3
   try clear hcz19_4
   try clear hcz20_0
   try clear hcz20_1
   try clear hcz20_2
   try clear hcz20_3
   try clear hcz20_4
   try clear hcz22_0
   try clear hcz22_1
   try clear hcz22_2
   try clear hcz22_3
   try clear hcz22_4
   try clear hcz23_0
   try clear hcz23_1
   try clear hcz23_2
   try clear hcz23_3
   try clear hcz23_4
   try clear hfz11_0
   try clear hfz11_1
   try clear hfz11_2
   try clear hfz11_3
   try clear hfz11_4
   try clear hfz15_0
   try clear hfz15_1
   try clear hfz15_2
   try clear hfz15_3
   try clear hfz15_4
   try clear hfz19_0
   try clear hfz19_1
   try clear hfz19_2
   try clear hfz19_3
   try clear hfz19_4
   try clear hfz20_0
   try clear hfz20_1
   try clear hfz20_2
   try clear hfz20_3
   try clear hfz20_4
   try clear hfz22_0
   try clear hfz22_1
   try clear hfz22_2
   try clear hfz22_3
   try clear hfz22_4
   try clear hfz23_0
   try clear hfz23_1
   try clear hfz23_2
   try clear hfz23_3
   try clear hfz23_4
   obtain ⟨kq, x46_5, rfl, HA, HJ5, HO_3, BK640, BK647, HB⟩ := hcut
   cases kq with
   | zero => exact absurd HA.out (by simp [laws_FnOutIn.j0])
   | succ kj5 =>
    have H := HA.out
    clear HA
    simp only [laws_FnOutIn.j0] at H
    by_cases c24 : x46_5 = true
    ·subst c24
     have H1 : (if (t646 == t639) = true then (some (t641 == t634 && (t642 == t635 && (t643 == t636 && (t644 == t637 && (t645.toList == t638.toList)))))) else (none)) = some r := by rw [if_pos rfl] at H; exact H
     clear H
     have H := H1
     clear H1
     by_cases c25 : (t646 == t639) = true
     ·rw [if_pos c25] at H
      have c25b0 : (t646 == t639) = true := c25
      (try (have c25b1 : decide (t646 = t639) = true := by simpa using c25))
      (try (have c25b2 : (t646 == t639) = true := by simpa using c25))
      clear c25
      obtain rfl := Option.some.inj H
      have hnb26 := NB647_640.out
      have hnc26 := NB640_647.out
      have hcz27_0 : wc.cell? ⟨gb647, 0, none⟩ = some (.int .i64 t641) := (blk_cell BK647.out 0).trans rfl
      have hcz27_1 : wc.cell? ⟨gb647, 1, none⟩ = some (.int .i64 t642) := (blk_cell BK647.out 1).trans rfl
      have hcz27_2 : wc.cell? ⟨gb647, 2, none⟩ = some (.int .i64 t643) := (blk_cell BK647.out 2).trans rfl
      have hcz27_3 : wc.cell? ⟨gb647, 3, none⟩ = some (.int .i64 t644) := (blk_cell BK647.out 3).trans rfl
      have hcz27_4 : wc.cell? ⟨gb647, 4, none⟩ = some (.string t645) := (blk_cell BK647.out 4).trans rfl
      have hfz27_0 := blk_frozen BK647.out 0
      have hfz27_1 := blk_frozen BK647.out 1
      have hfz27_2 := blk_frozen BK647.out 2
      have hfz27_3 := blk_frozen BK647.out 3
      have hfz27_4 := blk_frozen BK647.out 4
      have hcz28_0 : wc.cell? ⟨gb640, 0, none⟩ = some (.int .i64 t634) := (blk_cell BK640.out 0).trans rfl
      have hcz28_1 : wc.cell? ⟨gb640, 1, none⟩ = some (.int .i64 t635) := (blk_cell BK640.out 1).trans rfl
      have hcz28_2 : wc.cell? ⟨gb640, 2, none⟩ = some (.int .i64 t636) := (blk_cell BK640.out 2).trans rfl
      have hcz28_3 : wc.cell? ⟨gb640, 3, none⟩ = some (.int .i64 t637) := (blk_cell BK640.out 3).trans rfl
      have hcz28_4 : wc.cell? ⟨gb640, 4, none⟩ = some (.string t638) := (blk_cell BK640.out 4).trans rfl
      have hfz28_0 := blk_frozen BK640.out 0
      have hfz28_1 := blk_frozen BK640.out 1
      have hfz28_2 := blk_frozen BK640.out 2
      have hfz28_3 := blk_frozen BK640.out 3
      have hfz28_4 := blk_frozen BK640.out 4
      go_wp2
      go_ret
      exact ⟨by first | rfl | (simp [errW_none, errW_some] <;> rfl) | (simp [*, errW_none, errW_some] <;> rfl), by repeat (first | (with_reducible first | exact HB.out | apply below_alloc | apply pw_below_drewN | apply below_drew1 | refine below_set ?_ GE640.out | refine below_set ?_ GE647.out) | exact HB.out)⟩
     ·rw [if_neg c25] at H
      exact absurd H (by simp)
    ·replace c24 := Bool.eq_false_iff.mpr c24
     subst c24
     have H1 : ((impl_TreeUp.f kj5 t630 t631).bind fun bt648 => ((impl_TreeKids.f kj5 t630 bt648.1).bind fun t650 => (if 0 ≤ (wrap64 ((t650.length : Int) - 1)) then (if (wrap64 ((t650.length : Int) - 1)) < (t650.length : Int) then (if (rd t650 (wrap64 ((t650.length : Int) - 1))) = t631 then ((impl_OpDo.f kj5 t630 t641 t642 t643 t644 t645).bind fun t654 => ((impl_KeyIn.f kj5 t654 t631).bind fun bt657 => (if bt657.2.2.2.2.2 = true then ((impl_OpDo.f kj5 t654 bt657.1 bt657.2.1 bt657.2.2.1 bt657.2.2.2.1 bt657.2.2.2.2.1).bind fun t664 => ((laws_lpRows.f kj5 t664 t630).bind fun t667 => (some t667))) else (none)))) else (some true)) else (none)) else (none)))) = some r := by rw [if_neg (show ¬ (false = true) by decide)] at H; exact H
     clear H
     have H := H1
     clear H1
     replace H := Option.bind_eq_some_iff.mp H
     obtain ⟨⟨t648, t649⟩, A290, H⟩ := H
     replace H : ((impl_TreeKids.f kj5 t630 t648).bind fun t650 => (if 0 ≤ (wrap64 ((t650.length : Int) - 1)) then (if (wrap64 ((t650.length : Int) - 1)) < (t650.length : Int) then (if (rd t650 (wrap64 ((t650.length : Int) - 1))) = t631 then ((impl_OpDo.f kj5 t630 t641 t642 t643 t644 t645).bind fun t654 => ((impl_KeyIn.f kj5 t654 t631).bind fun bt657 => (if bt657.2.2.2.2.2 = true then ((impl_OpDo.f kj5 t654 bt657.1 bt657.2.1 bt657.2.2.1 bt657.2.2.2.1 bt657.2.2.2.2.1).bind fun t664 => ((laws_lpRows.f kj5 t664 t630).bind fun t667 => (some t667))) else (none)))) else (some true)) else (none)) else (none))) = some r := H
     have A29 := Aside0.mk A290
     clear A290
     replace H := Option.bind_eq_some_iff.mp H
     obtain ⟨t650, A300, H⟩ := H
     replace H : (if 0 ≤ (wrap64 ((t650.length : Int) - 1)) then (if (wrap64 ((t650.length : Int) - 1)) < (t650.length : Int) then (if (rd t650 (wrap64 ((t650.length : Int) - 1))) = t631 then ((impl_OpDo.f kj5 t630 t641 t642 t643 t644 t645).bind fun t654 => ((impl_KeyIn.f kj5 t654 t631).bind fun bt657 => (if bt657.2.2.2.2.2 = true then ((impl_OpDo.f kj5 t654 bt657.1 bt657.2.1 bt657.2.2.1 bt657.2.2.2.1 bt657.2.2.2.2.1).bind fun t664 => ((laws_lpRows.f kj5 t664 t630).bind fun t667 => (some t667))) else (none)))) else (some true)) else (none)) else (none)) = some r := H
     have A30 := Aside0.mk A300
     clear A300
     obtain ⟨ji31, hji31⟩ : ∃ j_ : Int, (wrap64 ((t650.length : Int) - 1)) = j_ := ⟨_, rfl⟩
     replace H : (if 0 ≤ (ji31) then (if (ji31) < (t650.length : Int) then (if (rd t650 (ji31)) = t631 then ((impl_OpDo.f kj5 t630 t641 t642 t643 t644 t645).bind fun t654 => ((impl_KeyIn.f kj5 t654 t631).bind fun bt657 => (if bt657.2.2.2.2.2 = true then ((impl_OpDo.f kj5 t654 bt657.1 bt657.2.1 bt657.2.2.1 bt657.2.2.2.1 bt657.2.2.2.2.1).bind fun t664 => ((laws_lpRows.f kj5 t664 t630).bind fun t667 => (some t667))) else (none)))) else (some true)) else (none)) else (none)) = some r := by first | (rw [hji31] at H; exact H) | (simp only [hji31] at H ⊢; exact H)
     (try rw [hji31] at A29)
     (try rw [hji31] at A30)
     have hji31w : (IntKind.i64.wrap ((t650.length : Int) - 1)) = ji31 := (i64_w _).trans hji31
     by_cases c32 : 0 ≤ (ji31)
     ·rw [if_pos c32] at H
      have c32b0 : decide (0 ≤ (ji31)) = true := decide_eq_true c32
      clear c32
      by_cases c33 : (ji31) < (t650.length : Int)
      ·rw [if_pos c33] at H
       have c33b0 : decide ((ji31) < (t650.length : Int)) = true := decide_eq_true c33
       clear c33
       by_cases c34 : (rd t650 (ji31)) = t631
       ·rw [if_pos c34] at H
        have c34b0 : ((rd t650 (ji31)) == t631) = true := beq_iff_eq.mpr c34
        have c34b1 : ((rd t650 (ji31)) != t631) = false := bne_eq_false_iff_eq.mpr c34
        clear c34
        replace H := Option.bind_eq_some_iff.mp H
        obtain ⟨t654, A350, H⟩ := H
        replace H : ((impl_KeyIn.f kj5 t654 t631).bind fun bt657 => (if bt657.2.2.2.2.2 = true then ((impl_OpDo.f kj5 t654 bt657.1 bt657.2.1 bt657.2.2.1 bt657.2.2.2.1 bt657.2.2.2.2.1).bind fun t664 => ((laws_lpRows.f kj5 t664 t630).bind fun t667 => (some t667))) else (none))) = some r := H
        have A35 := Aside0.mk A350
        clear A350
        replace H := Option.bind_eq_some_iff.mp H
        obtain ⟨⟨t657, t658, t659, t660, t661, t662⟩, A360, H⟩ := H
        replace H : (if t662 = true then ((impl_OpDo.f kj5 t654 t657 t658 t659 t660 t661).bind fun t664 => ((laws_lpRows.f kj5 t664 t630).bind fun t667 => (some t667))) else (none)) = some r := H
        have A36 := Aside0.mk A360
        clear A360
        by_cases c37 : t662 = true
        ·subst c37
         have H1 : ((impl_OpDo.f kj5 t654 t657 t658 t659 t660 t661).bind fun t664 => ((laws_lpRows.f kj5 t664 t630).bind fun t667 => (some t667))) = some r := by rw [if_pos rfl] at H; exact H
         clear H
         have H := H1
         clear H1
         replace H := Option.bind_eq_some_iff.mp H
         obtain ⟨t664, A380, H⟩ := H
         replace H : ((laws_lpRows.f kj5 t664 t630).bind fun t667 => (some t667)) = some r := H
         have A38 := Aside0.mk A380
         clear A380
         replace H := Option.bind_eq_some_iff.mp H
         obtain ⟨t667, A390, H⟩ := H
         replace H : (some t667) = some r := H
         have A39 := Aside0.mk A390
         clear A390
         obtain rfl := Option.some.inj H
         go_wp2_with (first | ((with_reducible refine gate_callee (f := 34) rfl ?_); refine goesL_ (some 58) rfl rfl Tryd.func34 (by kernel_rfl) rfl #[.slice Ao8 t630.length co8, .int .i64 t631] rfl (by (try simp only [List.map_toArray, List.map_cons, List.map_nil]); first | done | rfl | (simp only [List.length_drop, List.length_take]; rfl)) ?_; (with_reducible refine (impl_TreeUp.calls kj5 _ _ t630 t631 t648 t649 _ ?side1 ?side2 A29.out ?side3).mono ?_); (case side1 => repeat (first | exact (Kd.Q_reads' HO_3.out).2.2 | (with_reducible refine Kd.C_alloc ?_ _) | (with_reducible refine Kd.C_drewN ?_ _) | (with_reducible refine Kd.C_drew ?_))); (case side2 => exact (Kd.Q_reads' HO_3.out).2.1); (case side3 => exact Glob.below HG.out (by repeat (first | (with_reducible first | exact HB.out | apply below_alloc | apply pw_below_drewN | apply below_drew1 | refine below_set ?_ GE640.out | refine below_set ?_ GE647.out) | exact HB.out))); rintro e w40 ⟨rfl, hb⟩; refine ⟨_, rfl, ?_⟩; have n0_ := Aside0.mk (Kd.Q_below (by (with_reducible repeat (first | apply Kd.Q_alloc | apply Kd.Q_drewN | apply Kd.Q_drew)); exact HO_3.out) hb); have n1_ := Aside0.mk (blk_below (g := gb640) (o := .cells #[.int .i64 t634, .int .i64 t635, .int .i64 t636, .int .i64 t637, .string t638] 27 (0, 0)) (by (with_reducible repeat (first | refine blk_drewN ?_ _ | refine blk_drew ?_ | refine blk_alloc ?_ _)); exact BK640.out) hb); have n2_ := Aside0.mk (blk_below (g := gb647) (o := .cells #[.int .i64 t641, .int .i64 t642, .int .i64 t643, .int .i64 t644, .string t645] 27 (0, 0)) (by (with_reducible repeat (first | refine blk_drewN ?_ _ | refine blk_drew ?_ | refine blk_alloc ?_ _)); exact BK647.out) hb); have n3_ := Aside0.mk (below_step (by repeat (first | (with_reducible first | exact HB.out | apply below_alloc | apply pw_below_drewN | apply below_drew1 | refine below_set ?_ GE640.out | refine below_set ?_ GE647.out) | exact HB.out)) hb); clear HO_3; clear BK640; clear BK647; clear HB; have HO_3 := n0_; have BK640 := n1_; have BK647 := n2_; have HB := n3_; clear n0_ n1_ n2_ n3_; (try clear hb); (try clear hb2); (try clear hk); (try clear hi)) | ((with_reducible refine gate_callee (f := 37) rfl ?_); refine goesL_ (some 63) rfl rfl Tryd.func37 (by kernel_rfl) rfl #[.slice Ao8 t630.length co8, .int .i64 t648] rfl (by (try simp only [List.map_toArray, List.map_cons, List.map_nil]); first | done | rfl | (simp only [List.length_drop, List.length_take]; rfl)) ?_; (with_reducible refine (impl_TreeKids.calls kj5 _ _ t630 t648 t650 _ ?side1 ?side2 A30.out ?side3).mono ?_); (case side1 => repeat (first | exact (Kd.Q_reads' HO_3.out).2.2 | (with_reducible refine Kd.C_alloc ?_ _) | (with_reducible refine Kd.C_drewN ?_ _) | (with_reducible refine Kd.C_drew ?_))); (case side2 => exact (Kd.Q_reads' HO_3.out).2.1); (case side3 => exact Glob.below HG.out (by repeat (first | (with_reducible first | exact HB.out | apply below_alloc | apply pw_below_drewN | apply below_drew1 | refine below_set ?_ GE640.out | refine below_set ?_ GE647.out) | exact HB.out))); rintro e w41 ⟨v651, rfl, ho0, hb⟩; refine ⟨_, rfl, ?_⟩; have n0_ := Aside0.mk (Kd.Q_below (by (with_reducible repeat (first | apply Kd.Q_alloc | apply Kd.Q_drewN | apply Kd.Q_drew)); exact HO_3.out) hb); have n1_ := Aside0.mk (Kd.R_lower ho0 (below_size (by repeat (first | (with_reducible first | exact HB.out | apply below_alloc | apply pw_below_drewN | apply below_drew1 | refine below_set ?_ GE640.out | refine below_set ?_ GE647.out) | exact HB.out)))); have n2_ := Aside0.mk (blk_below (g := gb640) (o := .cells #[.int .i64 t634, .int .i64 t635, .int .i64 t636, .int .i64 t637, .string t638] 27 (0, 0)) (by (with_reducible repeat (first | refine blk_drewN ?_ _ | refine blk_drew ?_ | refine blk_alloc ?_ _)); exact BK640.out) hb); have n3_ := Aside0.mk (blk_below (g := gb647) (o := .cells #[.int .i64 t641, .int .i64 t642, .int .i64 t643, .int .i64 t644, .string t645] 27 (0, 0)) (by (with_reducible repeat (first | refine blk_drewN ?_ _ | refine blk_drew ?_ | refine blk_alloc ?_ _)); exact BK647.out) hb); have n4_ := Aside0.mk (below_step (by repeat (first | (with_reducible first | exact HB.out | apply below_alloc | apply pw_below_drewN | apply below_drew1 | refine below_set ?_ GE640.out | refine below_set ?_ GE647.out) | exact HB.out)) hb); clear HO_3; clear BK640; clear BK647; clear HB; have HO_3 := n0_; have HO652 := n1_; have BK640 := n2_; have BK647 := n3_; have HB := n4_; clear n0_ n1_ n2_ n3_ n4_; (try clear hb); (try clear hb2); (try clear hk); (try clear hi); (try clear ho0); obtain ⟨Ao42, co42, eo42⟩ := Kd.R_slice HO652.out; subst eo42; have p653 : 0 ≤ ((ji31) : Int) := of_decide_eq_true (by first | (with_reducible assumption) | assumption); have q653 : (ji31) < (t650.length : Int) := of_decide_eq_true (by first | (with_reducible assumption) | assumption); obtain ⟨ad653, e653, hx653_0⟩ := Kd.at_int (Kd.R_reads' HO652.out).2.2 (ji31) p653 q653; cases e653; replace p653 := eq_true p653; replace q653 := eq_true q653; have hnb43 := NB647_640.out; have hnc43 := NB640_647.out; have hcz44_0 : w41.cell? ⟨gb647, 0, none⟩ = some (.int .i64 t641) := (blk_cell BK647.out 0).trans rfl; have hcz44_1 : w41.cell? ⟨gb647, 1, none⟩ = some (.int .i64 t642) := (blk_cell BK647.out 1).trans rfl; have hcz44_2 : w41.cell? ⟨gb647, 2, none⟩ = some (.int .i64 t643) := (blk_cell BK647.out 2).trans rfl; have hcz44_3 : w41.cell? ⟨gb647, 3, none⟩ = some (.int .i64 t644) := (blk_cell BK647.out 3).trans rfl; have hcz44_4 : w41.cell? ⟨gb647, 4, none⟩ = some (.string t645) := (blk_cell BK647.out 4).trans rfl; have hfz44_0 := blk_frozen BK647.out 0; have hfz44_1 := blk_frozen BK647.out 1; have hfz44_2 := blk_frozen BK647.out 2; have hfz44_3 := blk_frozen BK647.out 3; have hfz44_4 := blk_frozen BK647.out 4) | ((with_reducible refine gate_callee (f := 23) rfl ?_); refine goesL_ (some 74) rfl rfl Tryd.func23 (by kernel_rfl) rfl #[.slice Ao8 t630.length co8, .agg #[.int .i64 t641, .int .i64 t642, .int .i64 t643, .int .i64 t644, .string t645]] rfl (by (try simp only [List.map_toArray, List.map_cons, List.map_nil]); first | done | rfl | (simp only [List.length_drop, List.length_take]; rfl)) ?_; (with_reducible refine (impl_OpDo.calls kj5 _ _ t630 t641 t642 t643 t644 t645 t654 _ ?side1 ?side2 A35.out ?side3).mono ?_); (case side1 => repeat (first | exact (Kd.Q_reads' HO_3.out).2.2 | (with_reducible refine Kd.C_alloc ?_ _) | (with_reducible refine Kd.C_drewN ?_ _) | (with_reducible refine Kd.C_drew ?_))); (case side2 => exact (Kd.Q_reads' HO_3.out).2.1); (case side3 => exact Glob.below HG.out (by repeat (first | (with_reducible first | exact HB.out | apply below_alloc | apply pw_below_drewN | apply below_drew1 | refine below_set ?_ GE640.out | refine below_set ?_ GE647.out) | exact HB.out))); rintro e w45 ⟨v655, rfl, ho0, hb⟩; refine ⟨_, rfl, ?_⟩; have n0_ := Aside0.mk (Kd.Q_elder' (by (with_reducible repeat (first | apply Kd.Q_alloc | apply Kd.Q_drewN | apply Kd.Q_drew)); exact HO_3.out) (Kd.R_base ho0) hb); have n1_ := Aside0.mk (Kd.R_below (by (with_reducible repeat (first | apply Kd.R_alloc | apply Kd.R_drewN | apply Kd.R_drew)); exact HO652.out) hb); have n2_ := Aside0.mk (Kd.R_lower (Kd.R_new' ho0 (Kd.Q_lt (by (with_reducible repeat (first | apply Kd.Q_alloc | apply Kd.Q_drewN | apply Kd.Q_drew)); exact HO_3.out))) (below_size (by repeat (first | (with_reducible first | exact HB.out | apply below_alloc | apply pw_below_drewN | apply below_drew1 | refine below_set ?_ GE640.out | refine below_set ?_ GE647.out) | exact HB.out)))); have n3_ := Aside0.mk (blk_below (g := gb640) (o := .cells #[.int .i64 t634, .int .i64 t635, .int .i64 t636, .int .i64 t637, .string t638] 27 (0, 0)) (by (with_reducible repeat (first | refine blk_drewN ?_ _ | refine blk_drew ?_ | refine blk_alloc ?_ _)); exact BK640.out) hb); have n4_ := Aside0.mk (blk_below (g := gb647) (o := .cells #[.int .i64 t641, .int .i64 t642, .int .i64 t643, .int .i64 t644, .string t645] 27 (0, 0)) (by (with_reducible repeat (first | refine blk_drewN ?_ _ | refine blk_drew ?_ | refine blk_alloc ?_ _)); exact BK647.out) hb); have n5_ := Aside0.mk (below_step (by repeat (first | (with_reducible first | exact HB.out | apply below_alloc | apply pw_below_drewN | apply below_drew1 | refine below_set ?_ GE640.out | refine below_set ?_ GE647.out) | exact HB.out)) hb); clear HO_3; clear HO652; clear BK640; clear BK647; clear HB; have HO_3 := n0_; have HO652 := n1_; have HO656 := n2_; have BK640 := n3_; have BK647 := n4_; have HB := n5_; clear n0_ n1_ n2_ n3_ n4_ n5_; (try clear hb); (try clear hb2); (try clear hk); (try clear hi); (try clear ho0); obtain ⟨Ao46, co46, eo46⟩ := Kd.R_slice HO656.out; subst eo46) | ((with_reducible refine gate_callee (f := 28) rfl ?_); refine goesL_ (some 78) rfl rfl Tryd.func28 (by kernel_rfl) rfl #[.slice Ao46 t654.length co46, .int .i64 t631] rfl (by (try simp only [List.map_toArray, List.map_cons, List.map_nil]); first | done | rfl | (simp only [List.length_drop, List.length_take]; rfl)) ?_; (with_reducible refine (impl_KeyIn.calls kj5 _ _ t654 t631 t657 t658 t659 t660 t661 true _ ?side1 ?side2 A36.out ?side3).mono ?_); (case side1 => repeat (first | exact (Kd.R_reads' HO656.out).2.2 | (with_reducible refine Kd.C_alloc ?_ _) | (with_reducible refine Kd.C_drewN ?_ _) | (with_reducible refine Kd.C_drew ?_))); (case side2 => exact (Kd.R_reads' HO656.out).2.1); (case side3 => exact Glob.below HG.out (by repeat (first | (with_reducible first | exact HB.out | apply below_alloc | apply pw_below_drewN | apply below_drew1 | refine below_set ?_ GE640.out | refine below_set ?_ GE647.out) | exact HB.out))); rintro e w47 ⟨rfl, hb⟩; refine ⟨_, rfl, ?_⟩; have n0_ := Aside0.mk (Kd.Q_below (by (with_reducible repeat (first | apply Kd.Q_alloc | apply Kd.Q_drewN | apply Kd.Q_drew)); exact HO_3.out) hb); have n1_ := Aside0.mk (Kd.R_below (by (with_reducible repeat (first | apply Kd.R_alloc | apply Kd.R_drewN | apply Kd.R_drew)); exact HO652.out) hb); have n2_ := Aside0.mk (Kd.R_below (by (with_reducible repeat (first | apply Kd.R_alloc | apply Kd.R_drewN | apply Kd.R_drew)); exact HO656.out) hb); have n3_ := Aside0.mk (blk_below (g := gb640) (o := .cells #[.int .i64 t634, .int .i64 t635, .int .i64 t636, .int .i64 t637, .string t638] 27 (0, 0)) (by (with_reducible repeat (first | refine blk_drewN ?_ _ | refine blk_drew ?_ | refine blk_alloc ?_ _)); exact BK640.out) hb); have n4_ := Aside0.mk (blk_below (g := gb647) (o := .cells #[.int .i64 t641, .int .i64 t642, .int .i64 t643, .int .i64 t644, .string t645] 27 (0, 0)) (by (with_reducible repeat (first | refine blk_drewN ?_ _ | refine blk_drew ?_ | refine blk_alloc ?_ _)); exact BK647.out) hb); have n5_ := Aside0.mk (below_step (by repeat (first | (with_reducible first | exact HB.out | apply below_alloc | apply pw_below_drewN | apply below_drew1 | refine below_set ?_ GE640.out | refine below_set ?_ GE647.out) | exact HB.out)) hb); clear HO_3; clear HO652; clear HO656; clear BK640; clear BK647; clear HB; have HO_3 := n0_; have HO652 := n1_; have HO656 := n2_; have BK640 := n3_; have BK647 := n4_; have HB := n5_; clear n0_ n1_ n2_ n3_ n4_ n5_; (try clear hb); (try clear hb2); (try clear hk); (try clear hi)) | ((with_reducible refine gate_dst (N := 13) rfl ?_); refine box_event ?hg (N := 13) ?hd (cs := #[.int .i64 0, .int .i64 0, .int .i64 0, .int .i64 0, .string (⟨#[]⟩ : ByteArray)]) (t := 27) ?hr ?_; (case hd => rfl); (case hg => rfl); (case hr => first | (go_simp; done) | (go_simp; rfl)); intro gb663 hg w48 hbox hb; have n0_ := Aside0.mk (Kd.Q_below (by (with_reducible repeat (first | apply Kd.Q_alloc | apply Kd.Q_drewN | apply Kd.Q_drew)); exact HO_3.out) hb); have n1_ := Aside0.mk (Kd.R_below (by (with_reducible repeat (first | apply Kd.R_alloc | apply Kd.R_drewN | apply Kd.R_drew)); exact HO652.out) hb); have n2_ := Aside0.mk (Kd.R_below (by (with_reducible repeat (first | apply Kd.R_alloc | apply Kd.R_drewN | apply Kd.R_drew)); exact HO656.out) hb); have n3_ := Aside0.mk (blk_below (g := gb640) (o := .cells #[.int .i64 t634, .int .i64 t635, .int .i64 t636, .int .i64 t637, .string t638] 27 (0, 0)) (by (with_reducible repeat (first | refine blk_drewN ?_ _ | refine blk_drew ?_ | refine blk_alloc ?_ _)); exact BK640.out) hb); have n4_ := Aside0.mk (blk_below (g := gb647) (o := .cells #[.int .i64 t641, .int .i64 t642, .int .i64 t643, .int .i64 t644, .string t645] 27 (0, 0)) (by (with_reducible repeat (first | refine blk_drewN ?_ _ | refine blk_drew ?_ | refine blk_alloc ?_ _)); exact BK647.out) hb); have n5_ := Aside0.mk (below_step (by repeat (first | (with_reducible first | exact HB.out | apply below_alloc | apply pw_below_drewN | apply below_drew1 | refine below_set ?_ GE640.out | refine below_set ?_ GE647.out) | exact HB.out)) hb); have n6_ := Aside0.mk (hbox); have n7_ := Aside0.mk ((by rw [hg]; exact (below_size (by repeat (first | (with_reducible first | exact HB.out | apply below_alloc | apply pw_below_drewN | apply below_drew1 | refine below_set ?_ GE640.out | refine below_set ?_ GE647.out) | exact HB.out))) : w.heap.size ≤ gb663)); have n8_ := Aside0.mk ((by rw [hg]; exact (below_size (by repeat (first | (with_reducible first | exact HB.out | apply below_alloc | apply pw_below_drewN | apply below_drew1 | refine below_set ?_ GE640.out | refine below_set ?_ GE647.out) | exact HB.out))) : w.heap.size ≤ gb663)); have n9_ := Aside0.mk ((by rw [hg]; exact Nat.ne_of_lt (blk_lt (g := gb640) (o := .cells #[.int .i64 t634, .int .i64 t635, .int .i64 t636, .int .i64 t637, .string t638] 27 (0, 0)) (by (with_reducible repeat (first | refine blk_drewN ?_ _ | refine blk_drew ?_ | refine blk_alloc ?_ _)); exact BK640.out)) : gb640 ≠ gb663)); have n10_ := Aside0.mk ((by rw [hg]; exact Nat.ne_of_gt (blk_lt (g := gb640) (o := .cells #[.int .i64 t634, .int .i64 t635, .int .i64 t636, .int .i64 t637, .string t638] 27 (0, 0)) (by (with_reducible repeat (first | refine blk_drewN ?_ _ | refine blk_drew ?_ | refine blk_alloc ?_ _)); exact BK640.out)) : gb663 ≠ gb640)); have n11_ := Aside0.mk ((by rw [hg]; exact Nat.ne_of_lt (blk_lt (g := gb647) (o := .cells #[.int .i64 t641, .int .i64 t642, .int .i64 t643, .int .i64 t644, .string t645] 27 (0, 0)) (by (with_reducible repeat (first | refine blk_drewN ?_ _ | refine blk_drew ?_ | refine blk_alloc ?_ _)); exact BK647.out)) : gb647 ≠ gb663)); have n12_ := Aside0.mk ((by rw [hg]; exact Nat.ne_of_gt (blk_lt (g := gb647) (o := .cells #[.int .i64 t641, .int .i64 t642, .int .i64 t643, .int .i64 t644, .string t645] 27 (0, 0)) (by (with_reducible repeat (first | refine blk_drewN ?_ _ | refine blk_drew ?_ | refine blk_alloc ?_ _)); exact BK647.out)) : gb663 ≠ gb647)); clear HO_3; clear HO652; clear HO656; clear BK640; clear BK647; clear HB; have HO_3 := n0_; have HO652 := n1_; have HO656 := n2_; have BK640 := n3_; have BK647 := n4_; have HB := n5_; have BK663 := n6_; have GW663 := n7_; have GE663 := n8_; have NB640_663 := n9_; have NB663_640 := n10_; have NB647_663 := n11_; have NB663_647 := n12_; clear n0_ n1_ n2_ n3_ n4_ n5_ n6_ n7_ n8_ n9_ n10_ n11_ n12_; clear hb hbox hg; have hnb49 := NB663_640.out; have hnc49 := NB640_663.out; have hnb50 := NB663_647.out; have hnc50 := NB647_663.out; have hcz51_0 : w48.cell? ⟨gb663, 0, none⟩ = some (.int .i64 0) := (blk_cell BK663.out 0).trans rfl; have hcz51_1 : w48.cell? ⟨gb663, 1, none⟩ = some (.int .i64 0) := (blk_cell BK663.out 1).trans rfl; have hcz51_2 : w48.cell? ⟨gb663, 2, none⟩ = some (.int .i64 0) := (blk_cell BK663.out 2).trans rfl; have hcz51_3 : w48.cell? ⟨gb663, 3, none⟩ = some (.int .i64 0) := (blk_cell BK663.out 3).trans rfl; have hcz51_4 : w48.cell? ⟨gb663, 4, none⟩ = some (.string (⟨#[]⟩ : ByteArray)) := (blk_cell BK663.out 4).trans rfl; have hfz51_0 := blk_frozen BK663.out 0; have hfz51_1 := blk_frozen BK663.out 1; have hfz51_2 := blk_frozen BK663.out 2; have hfz51_3 := blk_frozen BK663.out 3; have hfz51_4 := blk_frozen BK663.out 4) | (go_at_call 23; (with_reducible refine (impl_OpDo.calls kj5 _ _ t654 t657 t658 t659 t660 t661 t664 _ ?side1 ?side2 A38.out ?side3).mono ?_); (case side1 => refine (Kd.R_reads' (e := 37) (base := w.heap.size) (ok := fun k_ => (True ∧ some k_ ≠ (.slice Ao8 t630.length co8 : Value).ownBlock)) (n := t654.length) (c := co46) ?_).2.2; exact (by (with_reducible repeat (first | apply Kd.R_alloc | apply Kd.R_drewN | apply Kd.R_drew)); exact (Kd.R_mono (Kd.R_far (p := ⟨gb663, 4, none⟩) (Kd.R_far (p := ⟨gb663, 3, none⟩) (Kd.R_far (p := ⟨gb663, 2, none⟩) (Kd.R_far (p := ⟨gb663, 1, none⟩) (Kd.R_far (p := ⟨gb663, 0, none⟩) (Kd.R_types HO656.out BK663.out (by decide)) (fun _ hk => hk.2) (.int .i64 t657)) (fun _ hk => hk.2) (.int .i64 t658)) (fun _ hk => hk.2) (.int .i64 t659)) (fun _ hk => hk.2) (.int .i64 t660)) (fun _ hk => hk.2) (.string t661)) (fun _ h_ => h_.1)))); (case side2 => exact (Kd.R_reads' HO656.out).2.1); (case side3 => exact Glob.below HG.out (by repeat (first | (with_reducible first | exact HB.out | apply below_alloc | apply pw_below_drewN | apply below_drew1 | refine below_set ?_ GE640.out | refine below_set ?_ GE647.out | refine below_set ?_ GE663.out) | exact HB.out))); rintro e w52 ⟨v665, rfl, ho0, hb⟩; have n0_ := Aside0.mk (Kd.Q_elder' (by (with_reducible repeat (first | apply Kd.Q_alloc | apply Kd.Q_drewN | apply Kd.Q_drew)); exact (Kd.Q_mono (Kd.Q_far (p := ⟨gb663, 4, none⟩) (Kd.Q_far (p := ⟨gb663, 3, none⟩) (Kd.Q_far (p := ⟨gb663, 2, none⟩) (Kd.Q_far (p := ⟨gb663, 1, none⟩) (Kd.Q_far (p := ⟨gb663, 0, none⟩) (Kd.Q_types HO_3.out BK663.out (by decide)) (fun _ hk => hk.2) (.int .i64 t657)) (fun _ hk => hk.2) (.int .i64 t658)) (fun _ hk => hk.2) (.int .i64 t659)) (fun _ hk => hk.2) (.int .i64 t660)) (fun _ hk => hk.2) (.string t661)) (fun _ h_ => h_.1))) (Kd.R_base ho0) hb); have n1_ := Aside0.mk (Kd.R_below (by (with_reducible repeat (first | apply Kd.R_alloc | apply Kd.R_drewN | apply Kd.R_drew)); exact (Kd.R_mono (Kd.R_far (p := ⟨gb663, 4, none⟩) (Kd.R_far (p := ⟨gb663, 3, none⟩) (Kd.R_far (p := ⟨gb663, 2, none⟩) (Kd.R_far (p := ⟨gb663, 1, none⟩) (Kd.R_far (p := ⟨gb663, 0, none⟩) (Kd.R_types HO652.out BK663.out (by decide)) (fun _ hk => hk.2) (.int .i64 t657)) (fun _ hk => hk.2) (.int .i64 t658)) (fun _ hk => hk.2) (.int .i64 t659)) (fun _ hk => hk.2) (.int .i64 t660)) (fun _ hk => hk.2) (.string t661)) (fun _ h_ => h_.1))) hb); have n2_ := Aside0.mk (Kd.R_elder' (by (with_reducible repeat (first | apply Kd.R_alloc | apply Kd.R_drewN | apply Kd.R_drew)); exact (Kd.R_mono (Kd.R_far (p := ⟨gb663, 4, none⟩) (Kd.R_far (p := ⟨gb663, 3, none⟩) (Kd.R_far (p := ⟨gb663, 2, none⟩) (Kd.R_far (p := ⟨gb663, 1, none⟩) (Kd.R_far (p := ⟨gb663, 0, none⟩) (Kd.R_types HO656.out BK663.out (by decide)) (fun _ hk => hk.2) (.int .i64 t657)) (fun _ hk => hk.2) (.int .i64 t658)) (fun _ hk => hk.2) (.int .i64 t659)) (fun _ hk => hk.2) (.int .i64 t660)) (fun _ hk => hk.2) (.string t661)) (fun _ h_ => h_.1))) (Kd.R_base ho0) hb); have n3_ := Aside0.mk (Kd.R_lower (Kd.R_new' (Kd.R_new' ho0 (Kd.Q_lt (by (with_reducible repeat (first | apply Kd.Q_alloc | apply Kd.Q_drewN | apply Kd.Q_drew)); exact (Kd.Q_mono (Kd.Q_far (p := ⟨gb663, 4, none⟩) (Kd.Q_far (p := ⟨gb663, 3, none⟩) (Kd.Q_far (p := ⟨gb663, 2, none⟩) (Kd.Q_far (p := ⟨gb663, 1, none⟩) (Kd.Q_far (p := ⟨gb663, 0, none⟩) (Kd.Q_types HO_3.out BK663.out (by decide)) (fun _ hk => hk.2) (.int .i64 t657)) (fun _ hk => hk.2) (.int .i64 t658)) (fun _ hk => hk.2) (.int .i64 t659)) (fun _ hk => hk.2) (.int .i64 t660)) (fun _ hk => hk.2) (.string t661)) (fun _ h_ => h_.1))))) (Kd.R_lt (by (with_reducible repeat (first | apply Kd.R_alloc | apply Kd.R_drewN | apply Kd.R_drew)); exact (Kd.R_mono (Kd.R_far (p := ⟨gb663, 4, none⟩) (Kd.R_far (p := ⟨gb663, 3, none⟩) (Kd.R_far (p := ⟨gb663, 2, none⟩) (Kd.R_far (p := ⟨gb663, 1, none⟩) (Kd.R_far (p := ⟨gb663, 0, none⟩) (Kd.R_types HO656.out BK663.out (by decide)) (fun _ hk => hk.2) (.int .i64 t657)) (fun _ hk => hk.2) (.int .i64 t658)) (fun _ hk => hk.2) (.int .i64 t659)) (fun _ hk => hk.2) (.int .i64 t660)) (fun _ hk => hk.2) (.string t661)) (fun _ h_ => h_.1))))) (below_size (by repeat (first | (with_reducible first | exact HB.out | apply below_alloc | apply pw_below_drewN | apply below_drew1 | refine below_set ?_ GE640.out | refine below_set ?_ GE647.out | refine below_set ?_ GE663.out) | exact HB.out)))); have n4_ := Aside0.mk (blk_below (g := gb640) (o := .cells #[.int .i64 t634, .int .i64 t635, .int .i64 t636, .int .i64 t637, .string t638] 27 (0, 0)) (by (with_reducible repeat (first | refine blk_drewN ?_ _ | refine blk_drew ?_ | refine blk_alloc ?_ _)); refine blk_far ?_ NB640_663.out _; (with_reducible repeat (first | refine blk_drewN ?_ _ | refine blk_drew ?_ | refine blk_alloc ?_ _)); refine blk_far ?_ NB640_663.out _; (with_reducible repeat (first | refine blk_drewN ?_ _ | refine blk_drew ?_ | refine blk_alloc ?_ _)); refine blk_far ?_ NB640_663.out _; (with_reducible repeat (first | refine blk_drewN ?_ _ | refine blk_drew ?_ | refine blk_alloc ?_ _)); refine blk_far ?_ NB640_663.out _; (with_reducible repeat (first | refine blk_drewN ?_ _ | refine blk_drew ?_ | refine blk_alloc ?_ _)); refine blk_far ?_ NB640_663.out _; (with_reducible repeat (first | refine blk_drewN ?_ _ | refine blk_drew ?_ | refine blk_alloc ?_ _)); exact BK640.out) hb); have n5_ := Aside0.mk (blk_below (g := gb647) (o := .cells #[.int .i64 t641, .int .i64 t642, .int .i64 t643, .int .i64 t644, .string t645] 27 (0, 0)) (by (with_reducible repeat (first | refine blk_drewN ?_ _ | refine blk_drew ?_ | refine blk_alloc ?_ _)); refine blk_far ?_ NB647_663.out _; (with_reducible repeat (first | refine blk_drewN ?_ _ | refine blk_drew ?_ | refine blk_alloc ?_ _)); refine blk_far ?_ NB647_663.out _; (with_reducible repeat (first | refine blk_drewN ?_ _ | refine blk_drew ?_ | refine blk_alloc ?_ _)); refine blk_far ?_ NB647_663.out _; (with_reducible repeat (first | refine blk_drewN ?_ _ | refine blk_drew ?_ | refine blk_alloc ?_ _)); refine blk_far ?_ NB647_663.out _; (with_reducible repeat (first | refine blk_drewN ?_ _ | refine blk_drew ?_ | refine blk_alloc ?_ _)); refine blk_far ?_ NB647_663.out _; (with_reducible repeat (first | refine blk_drewN ?_ _ | refine blk_drew ?_ | refine blk_alloc ?_ _)); exact BK647.out) hb); have n6_ := Aside0.mk (blk_below (g := gb663) (o := .cells #[.int .i64 t657, .int .i64 t658, .int .i64 t659, .int .i64 t660, .string t661] 27 (0, 0)) (by (with_reducible repeat (first | refine blk_drewN ?_ _ | refine blk_drew ?_ | refine blk_alloc ?_ _)); refine blk_put (cs := #[.int .i64 t657, .int .i64 t658, .int .i64 t659, .int .i64 t660, .string (⟨#[]⟩ : ByteArray)]) ?_ 4 _ rfl; (with_reducible repeat (first | refine blk_drewN ?_ _ | refine blk_drew ?_ | refine blk_alloc ?_ _)); refine blk_put (cs := #[.int .i64 t657, .int .i64 t658, .int .i64 t659, .int .i64 0, .string (⟨#[]⟩ : ByteArray)]) ?_ 3 _ rfl; (with_reducible repeat (first | refine blk_drewN ?_ _ | refine blk_drew ?_ | refine blk_alloc ?_ _)); refine blk_put (cs := #[.int .i64 t657, .int .i64 t658, .int .i64 0, .int .i64 0, .string (⟨#[]⟩ : ByteArray)]) ?_ 2 _ rfl; (with_reducible repeat (first | refine blk_drewN ?_ _ | refine blk_drew ?_ | refine blk_alloc ?_ _)); refine blk_put (cs := #[.int .i64 t657, .int .i64 0, .int .i64 0, .int .i64 0, .string (⟨#[]⟩ : ByteArray)]) ?_ 1 _ rfl; (with_reducible repeat (first | refine blk_drewN ?_ _ | refine blk_drew ?_ | refine blk_alloc ?_ _)); refine blk_put (cs := #[.int .i64 0, .int .i64 0, .int .i64 0, .int .i64 0, .string (⟨#[]⟩ : ByteArray)]) ?_ 0 _ rfl; (with_reducible repeat (first | refine blk_drewN ?_ _ | refine blk_drew ?_ | refine blk_alloc ?_ _)); exact BK663.out) hb); have n7_ := Aside0.mk (below_step (by repeat (first | (with_reducible first | exact HB.out | apply below_alloc | apply pw_below_drewN | apply below_drew1 | refine below_set ?_ GE640.out | refine below_set ?_ GE647.out | refine below_set ?_ GE663.out) | exact HB.out)) hb); clear HO_3; clear HO652; clear HO656; clear BK640; clear BK647; clear BK663; clear HB; have HO_3 := n0_; have HO652 := n1_; have HO656 := n2_; have HO666 := n3_; have BK640 := n4_; have BK647 := n5_; have BK663 := n6_; have HB := n7_; clear n0_ n1_ n2_ n3_ n4_ n5_ n6_ n7_; (try clear hb); (try clear hb2); (try clear hk); (try clear hi); (try clear ho0); obtain ⟨Ao53, co53, eo53⟩ := Kd.R_slice HO666.out; subst eo53) | (go_at_call 30; (with_reducible refine (laws_lpRows.calls kj5 _ _ t664 _ _ t630 t667 _ ?side1 ?side2 ?side3 ?side4 A39.out).mono ?_); (case side1 => repeat (first | exact (Kd.R_reads' HO666.out).2.2 | (with_reducible refine Kd.C_alloc ?_ _) | (with_reducible refine Kd.C_drewN ?_ _) | (with_reducible refine Kd.C_drew ?_))); (case side2 => exact (Kd.R_reads' HO666.out).2.1); (case side3 => repeat (first | exact (Kd.Q_reads' HO_3.out).2.2 | (with_reducible refine Kd.C_alloc ?_ _) | (with_reducible refine Kd.C_drewN ?_ _) | (with_reducible refine Kd.C_drew ?_))); (case side4 => exact (Kd.Q_reads' HO_3.out).2.1); rintro e w' ⟨rfl, ⟨nd, rfl⟩⟩))
         go_ret
         exact ⟨by first | rfl | (simp [errW_none, errW_some] <;> rfl) | (simp only [← hji31]; first | rfl | (simp [errW_none, errW_some] <;> rfl)) | (simp [*, errW_none, errW_some] <;> rfl), by repeat (first | (with_reducible first | exact HB.out | apply below_alloc | apply pw_below_drewN | apply below_drew1 | refine below_set ?_ GE640.out | refine below_set ?_ GE647.out | refine below_set ?_ GE663.out) | exact HB.out)⟩
        ·replace c37 := Bool.eq_false_iff.mpr c37
         subst c37
         have H1 : (none) = some r := by rw [if_neg (show ¬ (false = true) by decide)] at H; exact H
         clear H
         have H := H1
         clear H1
         exact absurd H (by simp)
       ·rw [if_neg c34] at H
        have c34b0 : ((rd t650 (ji31)) == t631) = false := beq_eq_false_iff_ne.mpr c34
        have c34b1 : ((rd t650 (ji31)) != t631) = true := bne_iff_ne.mpr c34
        obtain rfl := Option.some.inj H
        go_wp2_with (first | ((with_reducible refine gate_callee (f := 34) rfl ?_); refine goesL_ (some 58) rfl rfl Tryd.func34 (by kernel_rfl) rfl #[.slice Ao8 t630.length co8, .int .i64 t631] rfl (by (try simp only [List.map_toArray, List.map_cons, List.map_nil]); first | done | rfl | (simp only [List.length_drop, List.length_take]; rfl)) ?_; (with_reducible refine (impl_TreeUp.calls kj5 _ _ t630 t631 t648 t649 _ ?side1 ?side2 A29.out ?side3).mono ?_); (case side1 => repeat (first | exact (Kd.Q_reads' HO_3.out).2.2 | (with_reducible refine Kd.C_alloc ?_ _) | (with_reducible refine Kd.C_drewN ?_ _) | (with_reducible refine Kd.C_drew ?_))); (case side2 => exact (Kd.Q_reads' HO_3.out).2.1); (case side3 => exact Glob.below HG.out (by repeat (first | (with_reducible first | exact HB.out | apply below_alloc | apply pw_below_drewN | apply below_drew1 | refine below_set ?_ GE640.out | refine below_set ?_ GE647.out) | exact HB.out))); rintro e w54 ⟨rfl, hb⟩; refine ⟨_, rfl, ?_⟩; have n0_ := Aside0.mk (Kd.Q_below (by (with_reducible repeat (first | apply Kd.Q_alloc | apply Kd.Q_drewN | apply Kd.Q_drew)); exact HO_3.out) hb); have n1_ := Aside0.mk (blk_below (g := gb640) (o := .cells #[.int .i64 t634, .int .i64 t635, .int .i64 t636, .int .i64 t637, .string t638] 27 (0, 0)) (by (with_reducible repeat (first | refine blk_drewN ?_ _ | refine blk_drew ?_ | refine blk_alloc ?_ _)); exact BK640.out) hb); have n2_ := Aside0.mk (blk_below (g := gb647) (o := .cells #[.int .i64 t641, .int .i64 t642, .int .i64 t643, .int .i64 t644, .string t645] 27 (0, 0)) (by (with_reducible repeat (first | refine blk_drewN ?_ _ | refine blk_drew ?_ | refine blk_alloc ?_ _)); exact BK647.out) hb); have n3_ := Aside0.mk (below_step (by repeat (first | (with_reducible first | exact HB.out | apply below_alloc | apply pw_below_drewN | apply below_drew1 | refine below_set ?_ GE640.out | refine below_set ?_ GE647.out) | exact HB.out)) hb); clear HO_3; clear BK640; clear BK647; clear HB; have HO_3 := n0_; have BK640 := n1_; have BK647 := n2_; have HB := n3_; clear n0_ n1_ n2_ n3_; (try clear hb); (try clear hb2); (try clear hk); (try clear hi)) | ((with_reducible refine gate_callee (f := 37) rfl ?_); refine goesL_ (some 63) rfl rfl Tryd.func37 (by kernel_rfl) rfl #[.slice Ao8 t630.length co8, .int .i64 t648] rfl (by (try simp only [List.map_toArray, List.map_cons, List.map_nil]); first | done | rfl | (simp only [List.length_drop, List.length_take]; rfl)) ?_; (with_reducible refine (impl_TreeKids.calls kj5 _ _ t630 t648 t650 _ ?side1 ?side2 A30.out ?side3).mono ?_); (case side1 => repeat (first | exact (Kd.Q_reads' HO_3.out).2.2 | (with_reducible refine Kd.C_alloc ?_ _) | (with_reducible refine Kd.C_drewN ?_ _) | (with_reducible refine Kd.C_drew ?_))); (case side2 => exact (Kd.Q_reads' HO_3.out).2.1); (case side3 => exact Glob.below HG.out (by repeat (first | (with_reducible first | exact HB.out | apply below_alloc | apply pw_below_drewN | apply below_drew1 | refine below_set ?_ GE640.out | refine below_set ?_ GE647.out) | exact HB.out))); rintro e w55 ⟨v651, rfl, ho0, hb⟩; refine ⟨_, rfl, ?_⟩; have n0_ := Aside0.mk (Kd.Q_below (by (with_reducible repeat (first | apply Kd.Q_alloc | apply Kd.Q_drewN | apply Kd.Q_drew)); exact HO_3.out) hb); have n1_ := Aside0.mk (Kd.R_lower ho0 (below_size (by repeat (first | (with_reducible first | exact HB.out | apply below_alloc | apply pw_below_drewN | apply below_drew1 | refine below_set ?_ GE640.out | refine below_set ?_ GE647.out) | exact HB.out)))); have n2_ := Aside0.mk (blk_below (g := gb640) (o := .cells #[.int .i64 t634, .int .i64 t635, .int .i64 t636, .int .i64 t637, .string t638] 27 (0, 0)) (by (with_reducible repeat (first | refine blk_drewN ?_ _ | refine blk_drew ?_ | refine blk_alloc ?_ _)); exact BK640.out) hb); have n3_ := Aside0.mk (blk_below (g := gb647) (o := .cells #[.int .i64 t641, .int .i64 t642, .int .i64 t643, .int .i64 t644, .string t645] 27 (0, 0)) (by (with_reducible repeat (first | refine blk_drewN ?_ _ | refine blk_drew ?_ | refine blk_alloc ?_ _)); exact BK647.out) hb); have n4_ := Aside0.mk (below_step (by repeat (first | (with_reducible first | exact HB.out | apply below_alloc | apply pw_below_drewN | apply below_drew1 | refine below_set ?_ GE640.out | refine below_set ?_ GE647.out) | exact HB.out)) hb); clear HO_3; clear BK640; clear BK647; clear HB; have HO_3 := n0_; have HO652 := n1_; have BK640 := n2_; have BK647 := n3_; have HB := n4_; clear n0_ n1_ n2_ n3_ n4_; (try clear hb); (try clear hb2); (try clear hk); (try clear hi); (try clear ho0); obtain ⟨Ao56, co56, eo56⟩ := Kd.R_slice HO652.out; subst eo56; have p653 : 0 ≤ ((ji31) : Int) := of_decide_eq_true (by first | (with_reducible assumption) | assumption); have q653 : (ji31) < (t650.length : Int) := of_decide_eq_true (by first | (with_reducible assumption) | assumption); obtain ⟨ad653, e653, hx653_0⟩ := Kd.at_int (Kd.R_reads' HO652.out).2.2 (ji31) p653 q653; cases e653; replace p653 := eq_true p653; replace q653 := eq_true q653))
        go_ret
        exact ⟨by first | rfl | (simp [errW_none, errW_some] <;> rfl) | (simp only [← hji31]; first | rfl | (simp [errW_none, errW_some] <;> rfl)) | (simp [*, errW_none, errW_some] <;> rfl), by repeat (first | (with_reducible first | exact HB.out | apply below_alloc | apply pw_below_drewN | apply below_drew1 | refine below_set ?_ GE640.out | refine below_set ?_ GE647.out) | exact HB.out)⟩
      ·rw [if_neg c33] at H
       exact absurd H (by simp)
     ·rw [if_neg c32] at H
      exact absurd H (by simp)

def laws_FnOutIn.Pure : Prop := ∀ (l0 : List Int), l0.length ≤ maxLen → l0.length * 1 ≤ 140737488351232 → (∀ x ∈ l0, (Lit.int .u8 x).wf = true) → ∃ k, laws_FnOutIn.f k l0 = some true
theorem laws_FnOutIn.walk (P : laws_FnOutIn.Pure) (a0 : Option Addr) (len0 cap0 : Nat) (z0 : List Int) (w : World) (w0 : (a0 = none ∧ len0 = 0 ∧ cap0 = 0 ∧ z0 = []) ∨ ∃ x, a0 = some x ∧ len0 ≤ cap0 ∧ cap0 ≤ maxLen ∧ z0.length = cap0 ∧ (∀ i, i < z0.length → w.cell? (x.add i) = some (.int .u8 (z0.getD i 0))) ∧ ∀ n ∈ z0, (Lit.int .u8 n).wf = true) (y0 : len0 * 1 ≤ 140737488351232) (hG : Glob w) :
  Calls Tryd.prog 8 #[.slice a0 len0 cap0] w fun e w' => e = .returned (.bool true) ∧ Below w.heap.size w w' := by
 obtain ⟨l0, rfl, hr0, hm0, hw0, hc0⟩ := ReadsInt.ofRowC w0
 obtain ⟨k, h⟩ := P l0 hm0 y0 hw0
 refine (laws_FnOutIn.calls k _ _ l0 true w (Kd.C_of_reads (d := (0 : Int)) (h1 := fun _ => rfl) hr0) hc0 h hG).mono ?_
 rintro e w' ⟨rfl, hd⟩
 exact ⟨rfl, hd⟩

end Go.Proofs.YtlkheeegkifblaaDoor.P
namespace Go.Proofs.YtlkheeegkifblaaDoor.PL
open Go.RowKit Go.Proofs.YtlkheeegkifblaaDoor.P Go.Proofs.YtlkheeegkifblaaDoorW.PrintWords Go.Proofs.YtlkheeegkifblaaDoorW.PrintLast
theorem of_f (b : List Int) (p : Int) (m : Nat) (l : List ByteArray) (hb : Bytes b) (hp : Rd p (m + 1)) (h1 : 1 ≤ l.length) (h2 : l.length ≤ 1000) : ∃ (s : ByteArray), Ev (fun k => spec_l6Rd_of.f k b p l) (s, p + 1) ∧ s ∈ l := by
 obtain ⟨r, hr, _, h0, hlt, _⟩ := pick_f b p (l.length : Int) m hb hp
 have hlt := hlt (by omega)
 have hi : r.toNat < l.length := by omega
 refine ⟨l[r.toNat], ?_, List.getElem_mem hi⟩
 unfold spec_l6Rd_of.f
 refine Ev.bind hr ?_
 refine ev_pos h0 (ev_pos hlt ?_)
 have : rdOf ByteArray.empty l r = l[r.toNat] := by
  unfold rdOf
  rw [List.getD_eq_getElem?_getD, List.getElem?_eq_getElem hi]
  rfl
 rw [this]
 exact evnow _
theorem text_l0_f (b : List Int) (hb : Bytes b) : ∀ (n : Nat) (s : ByteArray) (p : Int) (m : Nat), s.size + n ≤ 1000 → Rd p (m + n + 2) → ∃ (s' : ByteArray) (p' : Int), Ev (fun k => spec_l71Text.l0 k s n b p) (s', p') ∧ Rd p' m ∧ s'.size ≤ 1010
 | 0, s, p, m, hs, hp => by
  obtain ⟨r, hr, hR, _, _, _⟩ := pick_f b p 40 (m + 1) hb hp
  by_cases h0 : r = 0
  ·obtain ⟨u, hu, hm⟩ := of_f b (p + 1) m [(⟨#[101]⟩ : ByteArray), (⟨#[32]⟩ : ByteArray), (⟨#[97, 97, 97, 97]⟩ : ByteArray), (⟨#[39]⟩ : ByteArray)] hb hR (by simp) (by simp)
   have hz : u.size ≤ 4 := by
    simp only [List.mem_cons, List.not_mem_nil, or_false] at hm
    rcases hm with rfl | rfl | rfl | rfl <;> decide
   refine ⟨s ++ u, p + 1 + 1, ?_, ⟨by have := hR.1; omega, by have := hR.2; omega⟩, by rw [ByteArray.size_append]; omega⟩
   refine Ev.step (fun k => by simp only [spec_l71Text.l0]; rfl) ?_
   refine ev_neg (by omega) (Ev.bind hr (ev_pos h0 (Ev.bind hu (ev_pos (show s.size + u.size ≤ 9223372036854775807 by omega) (evnow _)))))
  ·refine ⟨s, p + 1, ?_, hR.less (by omega), by omega⟩
   refine Ev.step (fun k => by simp only [spec_l71Text.l0]; rfl) ?_
   exact ev_neg (by omega) (Ev.bind hr (ev_neg h0 (evnow _)))
 | n + 1, s, p, m, hs, hp => by
  obtain ⟨u, hu, hm⟩ := of_f b p (m + n + 2) [(⟨#[97]⟩ : ByteArray), (⟨#[98]⟩ : ByteArray), (⟨#[99]⟩ : ByteArray), (⟨#[100]⟩ : ByteArray)] hb (hp.less (by omega)) (by simp) (by simp)
  have hz : u.size = 1 := by
   simp only [List.mem_cons, List.not_mem_nil, or_false] at hm
   rcases hm with rfl | rfl | rfl | rfl <;> decide
  obtain ⟨s', p', h1, h2, h3⟩ := text_l0_f b hb n (s ++ u) (p + 1) m (by rw [ByteArray.size_append]; omega) ⟨by have := hp.1; omega, by have := hp.2; omega⟩
  refine ⟨s', p', ?_, h2, h3⟩
  refine Ev.step (fun k => by simp only [spec_l71Text.l0]; rfl) ?_
  refine ev_pos (by omega) (Ev.bind hu (ev_pos (show s.size + u.size ≤ 9223372036854775807 by omega) ?_))
  have hw : wrap64 (((n + 1 : Nat) : Int) - 1) = n := by rw [wrap_id _ (by omega) (by have := hs; omega)]; omega
  rw [hw]
  exact h1
theorem dtext_f (b : List Int) (p : Int) (m : Nat) (hb : Bytes b) (hp : Rd p (m + 6)) : ∃ (s : ByteArray) (p' : Int), Ev (fun k => spec_l71Text.f k b p) (s, p') ∧ Rd p' m ∧ s.size ≤ 1010 := by
 obtain ⟨r, hr, hR, h0, hlt, _⟩ := pick_f b p 4 (m + 5) hb hp
 have hlt := hlt (by omega)
 obtain ⟨n, rfl⟩ : ∃ n : Nat, r = n := ⟨r.toNat, by omega⟩
 obtain ⟨s', p', h1, h2, h3⟩ := text_l0_f b hb n ⟨#[]⟩ (p + 1) m (by show 0 + n ≤ 1000; omega) (hR.less (by omega))
 refine ⟨s', p', ?_, h2, h3⟩
 unfold spec_l71Text.f
 exact Ev.bind hr h1
theorem did_f (b : List Int) (p : Int) (m : Nat) (hb : Bytes b) (hp : Rd p (m + 2)) : ∃ r p' : Int, Ev (fun k => spec_l71Id.f k b p) (r, p') ∧ Rd p' m ∧ 11 ≤ r ∧ r ≤ 44 := by
 obtain ⟨x, hx, hR, x0, x1, _⟩ := pick_f b p 3 (m + 1) hb hp
 obtain ⟨y, hy, hR2, y0, y1, _⟩ := pick_f b (p + 1) 4 m hb hR
 have x1 := x1 (by omega)
 have y1 := y1 (by omega)
 have e : wrap64 (wrap64 (wrap64 (10 * wrap64 (1 + x)) + 1) + y) = 10 * (1 + x) + 1 + y := by
  rw [wrap_id (1 + x) (by omega) (by omega), wrap_id (10 * (1 + x)) (by omega) (by omega), wrap_id (10 * (1 + x) + 1) (by omega) (by omega), wrap_id _ (by omega) (by omega)]
 refine ⟨10 * (1 + x) + 1 + y, p + 1 + 1, ?_, hR2, by omega, by omega⟩
 unfold spec_l71Id.f
 refine Ev.bind hx (Ev.bind hy ?_)
 rw [e]
 exact evnow _
theorem i64_small {x : Int} (h0 : -1000 ≤ x) (h1 : x ≤ 1000) : I64 x := ⟨by omega, by omega⟩
theorem rd_mem (l : List Int) (r : Int) (h0 : 0 ≤ r) (h1 : r < l.length) : rd l r ∈ l := by
 have hi : r.toNat < l.length := by omega
 unfold rd
 rw [List.getD_eq_getElem?_getD, List.getElem?_eq_getElem hi]
 exact List.getElem_mem hi
theorem open_f (code : List Int) (h : ∀ x ∈ code, 0 ≤ x ∧ x ≤ 255) : ∃ b : List Int, spec_l6Open.f code = some (b, 0) ∧ Bytes b := by
 unfold spec_l6Open.f
 by_cases hl : (code.length : Int) > 2000
 ·refine ⟨code.take 2000, by rw [if_pos hl, if_pos (by omega)], by rw [List.length_take]; omega, fun x hx => h x (List.mem_of_mem_take hx)⟩
 ·exact ⟨code, by rw [if_neg hl], by omega, h⟩
theorem byte_of {x : Int} (h : (Lit.int .u8 x).wf = true) : 0 ≤ x ∧ x ≤ 255 := by
 simp only [Lit.wf, Bool.and_eq_true, decide_eq_true_eq] at h
 exact ⟨h.1, h.2⟩
def wfD (r : S37) : Prop := I64 r.f0 ∧ r.f2.size ≤ 2000
theorem do_wf (t : List S37) (B kd id up at_ : Int) (s : ByteArray) (hI : Inv t B) (hB0 : 0 ≤ B) (hB : B ≤ 1099511627776) (hk : kd = 1 ∨ kd = 2 ∨ kd = 3) (hid : id ≠ 3) (hid64 : I64 id) (hl : t.length ≤ 100000) (hs : s.size ≤ 2000) (hw : ∀ r ∈ t, wfD r) :
  ∃ t' : List S37, Ev (fun n => spec_l3Do.f n t kd id up at_ s) t' ∧ Inv t' (2 * B + 1) ∧ (t'.length ≤ t.length + 1 ∧ t.length ≤ t'.length) ∧ ∀ r ∈ t', wfD r := by
 obtain ⟨t', h1, h2, h3⟩ := do_f t B kd id up at_ s hI hB0 hB hk hid hid64 hl hs
 exact ⟨t', h1, h2, h3, h2.ids⟩
theorem mem_set_wf {t : List S37} (h : ∀ r ∈ t, wfD r) {k : Nat} {v : S37} (hv : wfD v) : ∀ r ∈ t.set k v, wfD r := fun r hr => by
 rcases List.mem_or_eq_of_mem_set hr with hr | rfl
 ·exact h r hr
 ·exact hv
theorem tree_l1 (b : List Int) (hb : Bytes b) : ∀ (n : Nat) (t : List S37) (i : Nat) (p : Int) (m : Nat), i + n = t.length → (∀ r ∈ t, wfD r) → 3 ≤ t.length → t.length ≤ 20 → Rd p (m + n + 3) →
  ∃ (t' : List S37) (p' : Int), Ev (fun k => spec_l71Tree.l1 k t i b p) (t', p') ∧ (∀ r ∈ t', wfD r) ∧ 2 ≤ t'.length ∧ t'.length ≤ 21 ∧ Rd p' m
 | 0, t, i, p, m, h, hw, h3, h20, hp => by
  obtain ⟨r, hr, hR, r0, r1, _⟩ := pick_f b p 24 (m + 2) hb hp
  obtain ⟨x, hx, hX, x0, x1, _⟩ := pick_f b (p + 1) (t.length : Int) (m + 1) hb hR
  obtain ⟨y, hy, hY, y0, y1, _⟩ := pick_f b (p + 1 + 1) 5 m hb hX
  have x1 := x1 (by omega)
  obtain ⟨j, rfl⟩ : ∃ n : Nat, x = n := ⟨x.toNat, by omega⟩
  have hj : j < t.length := by omega
  have hwj := hw _ (List.getElem_mem hj)
  by_cases e0 : r = 0
  ·refine ⟨t.set j ⟨t[j].f0, y, t[j].f2⟩, p + 1 + 1 + 1, ?_, mem_set_wf hw hwj, by rw [List.length_set]; omega, by rw [List.length_set]; omega, hY⟩
   refine Ev.step (fun n => by simp only [spec_l71Tree.l1]; rfl) ?_
   refine ev_neg (by omega) (Ev.bind hr (ev_pos e0 (Ev.bind hx (Ev.bind hy (ev_pos x0 (ev_pos x1 ?_))))))
   simp only [rdR_get t j hj, Int.toNat_natCast]
   exact evnow _
  ·by_cases e1 : r = 1
   ·refine ⟨t ++ [⟨t[j].f0, t[j].f1, t[j].f2⟩], p + 1 + 1, ?_, fun q hq => ?_, by simp; omega, by simp; omega, hX.less (by omega)⟩
    ·refine Ev.step (fun n => by simp only [spec_l71Tree.l1]; rfl) ?_
     refine ev_neg (by omega) (Ev.bind hr (ev_neg e0 (ev_pos e1 (Ev.bind hx (ev_pos x0 (ev_pos x1 (ev_pos (by omega) ?_)))))))
     simp only [rdR_get t j hj]
     exact evnow _
    ·rcases List.mem_append.1 hq with hq | hq
     ·exact hw q hq
     ·rw [List.mem_singleton.1 hq]; exact hwj
   ·by_cases e2 : r = 2
    ·refine ⟨t.drop (1 : Int).toNat, p + 1, ?_, fun q hq => hw q (List.mem_of_mem_drop hq), by rw [List.length_drop]; simp; omega, by rw [List.length_drop]; omega, hR.less (by omega)⟩
     refine Ev.step (fun n => by simp only [spec_l71Tree.l1]; rfl) ?_
     exact ev_neg (by omega) (Ev.bind hr (ev_neg e0 (ev_neg e1 (ev_pos e2 (ev_pos (by omega) (evnow _))))))
    ·refine ⟨t, p + 1, ?_, hw, by omega, by omega, hR.less (by omega)⟩
     refine Ev.step (fun n => by simp only [spec_l71Tree.l1]; rfl) ?_
     exact ev_neg (by omega) (Ev.bind hr (ev_neg e0 (ev_neg e1 (ev_neg e2 (evnow _)))))
 | n + 1, t, i, p, m, h, hw, h3, h20, hp => by
  have hi : i < t.length := by omega
  have hwi := hw _ (List.getElem_mem hi)
  have hsz : t[i].f2.size ≤ 2000 := hwi.2
  have ht := text_f t[i].f2 (by omega)
  have wi : wrap64 ((i : Int) + 1) = ((i + 1 : Nat) : Int) := by rw [wrap_id _ (by omega) (by omega)]; omega
  cases hB : textB t[i].f2 with
  | true =>
   rw [hB] at ht
   obtain ⟨t', p', h1, h2⟩ := tree_l1 b hb n t (i + 1) p m (by omega) hw h3 h20 (hp.less (by omega))
   refine ⟨t', p', ?_, h2⟩
   refine Ev.step (fun n => by simp only [spec_l71Tree.l1]; rfl) ?_
   refine ev_pos (by omega) (ev_pos (by omega) ?_)
   rw [rdR_get t i hi, wi]
   exact Ev.bind ht (ev_pos rfl h1)
  | false =>
   rw [hB] at ht
   obtain ⟨r, hr, hR, r0, r1, _⟩ := pick_f b p 2 (m + n + 3) hb (hp.less (by omega))
   by_cases e0 : r = 0
   ·obtain ⟨t', p', h1, h2⟩ := tree_l1 b hb n (t.set i ⟨t[i].f0, t[i].f1, ⟨#[]⟩⟩) (i + 1) (p + 1) m (by rw [List.length_set]; omega) (mem_set_wf hw ⟨hwi.1, by show (0 : Nat) ≤ 2000; omega⟩) (by rw [List.length_set]; omega) (by rw [List.length_set]; omega) hR
    refine ⟨t', p', ?_, h2⟩
    refine Ev.step (fun n => by simp only [spec_l71Tree.l1]; rfl) ?_
    refine ev_pos (by omega) (ev_pos (by omega) ?_)
    rw [rdR_get t i hi, wi, Int.toNat_natCast]
    exact Ev.bind ht (ev_neg (by decide) (Ev.bind hr (ev_pos e0 h1)))
   ·obtain ⟨t', p', h1, h2⟩ := tree_l1 b hb n t (i + 1) (p + 1) m (by omega) hw h3 h20 hR
    refine ⟨t', p', ?_, h2⟩
    refine Ev.step (fun n => by simp only [spec_l71Tree.l1]; rfl) ?_
    refine ev_pos (by omega) (ev_pos (by omega) ?_)
    rw [rdR_get t i hi, wi]
    exact Ev.bind ht (ev_neg (by decide) (Ev.bind hr (ev_neg e0 h1)))
theorem tree_j2 (b : List Int) (hb : Bytes b) (x4 : Int) (t : List S37) (B : Nat) (up p : Int) (m : Nat) (hI : Inv t B) (hB : B ≤ 100000) (hw : ∀ r ∈ t, wfD r) (hl : t.length ≤ 1000) (hp : Rd p (m + 10)) :
  ∃ (t' : List S37) (p' : Int), (∀ (r : List S37 × Int), Ev (fun k => spec_l71Tree.l0 k t' (wrap64 (x4 - 1)) b p') r → Ev (fun k => spec_l71Tree.j2 k t x4 up b p) r) ∧ Inv t' ((2 * B + 1 : Nat) : Int) ∧ (t'.length ≤ t.length + 1 ∧ t.length ≤ t'.length) ∧ (∀ r ∈ t', wfD r) ∧ Rd p' m := by
 obtain ⟨ks, hks, hkl, hkk⟩ := kids_f t up (by omega)
 have tail : ∀ (at_ q : Int), Rd q (m + 8) → ∃ (t' : List S37) (p' : Int), (∀ (f : Nat → Option (List S37 × Int)) (r : List S37 × Int), (∀ n, f n = ((spec_l71Id.f n b q).bind fun z => ((spec_l71Text.f n b z.2).bind fun y => ((spec_l3Do.f n t 1 z.1 up at_ y.1).bind fun t' => (spec_l71Tree.l0 n t' (wrap64 (x4 - 1)) b y.2))))) → Ev (fun k => spec_l71Tree.l0 k t' (wrap64 (x4 - 1)) b p') r → Ev f r) ∧ Inv t' ((2 * B + 1 : Nat) : Int) ∧ (t'.length ≤ t.length + 1 ∧ t.length ≤ t'.length) ∧ (∀ r ∈ t', wfD r) ∧ Rd p' m := by
  intro at_ q hq
  obtain ⟨z, p1, hz, hZ, z0, z1⟩ := did_f b q (m + 6) hb hq
  obtain ⟨y, p2, hy, hY, y0⟩ := dtext_f b p1 m hb hZ
  obtain ⟨t', ht', hI', hlt, hwt⟩ := do_wf t B 1 z up at_ y hI (by omega) (by omega) (Or.inl rfl) (by omega) (i64_small (by omega) (by omega)) (by omega) (by omega) hw
  exact ⟨t', p2, fun f r hf h => Ev.congr hf (Ev.bind hz (Ev.bind hy (Ev.bind ht' h))), hI'.more (by omega), hlt, hwt, hY⟩
 by_cases hz : (ks.length : Int) > 0
 ·obtain ⟨x, hx, hX, x0, x1, _⟩ := pick_f b p 2 (m + 9) hb hp
  by_cases e0 : x = 0
  ·obtain ⟨y, hy, hY, y0, y1, _⟩ := pick_f b (p + 1) (ks.length : Int) (m + 8) hb hX
   have y1 := y1 (by omega)
   obtain ⟨t', p', h1, h2⟩ := tail (rd ks y) (p + 1 + 1) hY
   refine ⟨t', p', fun r hr => ?_, h2⟩
   refine Ev.step (fun n => by simp only [spec_l71Tree.j2]; rfl) ?_
   refine Ev.bind hks (ev_pos hz (Ev.bind hx ?_))
   refine Ev.step (fun n => by simp only [spec_l71Tree.j3]; rfl) ?_
   refine ev_pos (by simp [e0]) (Ev.bind hy (ev_pos y0 (ev_pos y1 ?_)))
   exact h1 _ r (fun n => rfl) hr
  ·obtain ⟨t', p', h1, h2⟩ := tail 0 (p + 1) (hX.less (by omega))
   refine ⟨t', p', fun r hr => ?_, h2⟩
   refine Ev.step (fun n => by simp only [spec_l71Tree.j2]; rfl) ?_
   refine Ev.bind hks (ev_pos hz (Ev.bind hx ?_))
   refine Ev.step (fun n => by simp only [spec_l71Tree.j3]; rfl) ?_
   refine ev_neg (by simp [e0]) ?_
   exact h1 _ r (fun n => rfl) hr
 ·obtain ⟨t', p', h1, h2⟩ := tail 0 p (hp.less (by omega))
  refine ⟨t', p', fun r hr => ?_, h2⟩
  refine Ev.step (fun n => by simp only [spec_l71Tree.j2]; rfl) ?_
  refine Ev.bind hks (ev_neg hz ?_)
  refine Ev.step (fun n => by simp only [spec_l71Tree.j3]; rfl) ?_
  refine ev_neg (by decide) ?_
  exact h1 _ r (fun n => rfl) hr
theorem tree_l0 (b : List Int) (hb : Bytes b) : ∀ (n : Nat) (t : List S37) (B : Nat) (p : Int) (m : Nat), Inv t B → (B + 1) * 2 ^ n ≤ 16384 → (∀ r ∈ t, wfD r) → 3 ≤ t.length → t.length + n ≤ 20 → Rd p (m + 12 * n + 30) →
  ∃ (t' : List S37) (p' : Int), Ev (fun k => spec_l71Tree.l0 k t n b p) (t', p') ∧ (∀ r ∈ t', wfD r) ∧ 2 ≤ t'.length ∧ t'.length ≤ 21 ∧ Rd p' m
 | 0, t, B, p, m, hI, hB, hw, h3, hl, hp => by
  obtain ⟨t', p', h1, h2⟩ := tree_l1 b hb t.length t 0 p m (by omega) hw h3 (by omega) (hp.less (by omega))
  refine ⟨t', p', ?_, h2⟩
  refine Ev.step (fun n => by simp only [spec_l71Tree.l0]; rfl) ?_
  exact ev_neg (by omega) h1
 | n + 1, t, B, p, m, hI, hB, hw, h3, hl, hp => by
  have hB2 : B + 1 ≤ 16384 := Nat.le_trans (Nat.le_mul_of_pos_right _ (Nat.two_pow_pos _)) hB
  have hB3 : (2 * B + 1 + 1) * 2 ^ n ≤ 16384 := by
   have e : (2 * B + 1 + 1) * 2 ^ n = (B + 1) * 2 ^ (n + 1) := by rw [Nat.pow_succ, show 2 * B + 1 + 1 = (B + 1) * 2 by omega, Nat.mul_assoc, Nat.mul_comm 2]
   rw [e]; exact hB
  have wn : wrap64 (((n + 1 : Nat) : Int) - 1) = n := by rw [wrap_id _ (by omega) (by omega)]; omega
  have go : ∀ (up q : Int), Rd q (m + 12 * n + 40) → ∃ (t' : List S37) (p' : Int), Ev (fun k => spec_l71Tree.j2 k t (n + 1 : Nat) up b q) (t', p') ∧ (∀ r ∈ t', wfD r) ∧ 2 ≤ t'.length ∧ t'.length ≤ 21 ∧ Rd p' m := by
   intro up q hq
   obtain ⟨t1, p1, h1, h2, h3', h4, h5⟩ := tree_j2 b hb (n + 1 : Nat) t B up q (m + 12 * n + 30) hI (by omega) hw (by omega) hq
   obtain ⟨t', p', g1, g2⟩ := tree_l0 b hb n t1 (2 * B + 1) p1 m h2 hB3 h4 (by omega) (by omega) h5
   exact ⟨t', p', h1 _ (by rw [wn]; exact g1), g2⟩
  by_cases e3 : (t.length : Int) > 3
  ·obtain ⟨x, hx, hX, x0, x1, _⟩ := pick_f b p 3 (m + 12 * n + 41) hb (hp.less (by omega))
   by_cases e0 : x > 0
   ·obtain ⟨y, hy, hY, y0, y1, _⟩ := pick_f b (p + 1) (t.length : Int) (m + 12 * n + 40) hb hX
    have y1 := y1 (by omega)
    obtain ⟨t', p', g1, g2⟩ := go (rd_T37 t y).f0 (p + 1 + 1) hY
    refine ⟨t', p', ?_, g2⟩
    refine Ev.step (fun n => by simp only [spec_l71Tree.l0]; rfl) ?_
    refine ev_pos (by omega) (ev_pos e3 (Ev.bind hx ?_))
    refine Ev.step (fun n => by simp only [spec_l71Tree.j1]; rfl) ?_
    exact ev_pos (by simpa using e0) (Ev.bind hy (ev_pos y0 (ev_pos y1 g1)))
   ·obtain ⟨t', p', g1, g2⟩ := go 1 (p + 1) (hX.less (by omega))
    refine ⟨t', p', ?_, g2⟩
    refine Ev.step (fun n => by simp only [spec_l71Tree.l0]; rfl) ?_
    refine ev_pos (by omega) (ev_pos e3 (Ev.bind hx ?_))
    refine Ev.step (fun n => by simp only [spec_l71Tree.j1]; rfl) ?_
    exact ev_neg (by simpa using e0) g1
  ·obtain ⟨t', p', g1, g2⟩ := go 1 p (hp.less (by omega))
   refine ⟨t', p', ?_, g2⟩
   refine Ev.step (fun n => by simp only [spec_l71Tree.l0]; rfl) ?_
   refine ev_pos (by omega) (ev_neg e3 ?_)
   refine Ev.step (fun n => by simp only [spec_l71Tree.j1]; rfl) ?_
   exact ev_neg (by decide) g1
theorem tree71_f (b : List Int) (hb : Bytes b) (p : Int) (m : Nat) (hp : Rd p (m + 200)) : ∃ (t : List S37) (p' : Int), Ev (fun k => spec_l71Tree.f k b p) (t, p') ∧ (∀ r ∈ t, wfD r) ∧ 2 ≤ t.length ∧ t.length ≤ 21 ∧ Rd p' m := by
 obtain ⟨r, hr, hR, r0, r1, _⟩ := pick_f b p 11 (m + 199) hb hp
 have r1 := r1 (by omega)
 obtain ⟨n, rfl⟩ : ∃ n : Nat, r = n := ⟨r.toNat, by omega⟩
 have hI : Inv ([⟨1, 0, ⟨#[]⟩⟩, ⟨2, 0, ⟨#[]⟩⟩, ⟨3, 0, ⟨#[]⟩⟩] : List S37) ((0 : Nat) : Int) := by
  refine ⟨fun x hx => ?_, fun x hx h3 => ?_, ⟨⟨3, 0, ⟨#[]⟩⟩, by simp, rfl⟩, fun x hx => ?_⟩
  all_goals simp only [List.mem_cons, List.not_mem_nil, or_false] at hx
  ·rcases hx with rfl | rfl | rfl <;> exact ⟨Int.le_refl _, Int.le_refl _⟩
  ·rcases hx with rfl | rfl | rfl <;> rfl
  ·rcases hx with rfl | rfl | rfl <;> exact ⟨i64_small (by decide) (by decide), by decide⟩
 have hwf : ∀ r ∈ ([⟨1, 0, ⟨#[]⟩⟩, ⟨2, 0, ⟨#[]⟩⟩, ⟨3, 0, ⟨#[]⟩⟩] : List S37), wfD r := fun x hx => by
  simp only [List.mem_cons, List.not_mem_nil, or_false] at hx
  rcases hx with rfl | rfl | rfl <;> exact ⟨i64_small (by decide) (by decide), by decide⟩
 have hpow : (0 + 1) * 2 ^ n ≤ 16384 := by
  have : 2 ^ n ≤ 2 ^ 14 := Nat.pow_le_pow_right (by decide) (by omega)
  omega
 obtain ⟨t, p', h1, h2⟩ := tree_l0 b hb n _ 0 (p + 1) m hI hpow hwf (by simp) (by simp; omega) (hR.less (by omega))
 refine ⟨t, p', ?_, h2⟩
 unfold spec_l71Tree.f spec_TreeNew.f
 simp only [Option.bind_some]
 exact Ev.bind hr h1
end Go.Proofs.YtlkheeegkifblaaDoor.PL
