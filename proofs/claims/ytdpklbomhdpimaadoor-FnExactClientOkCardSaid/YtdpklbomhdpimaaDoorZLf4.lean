/- Joined by a program (wip/shake.py): the declarations that 'YtdpklbomhdpimaaDoorCardFnExactClientOk' reaches. -/
import Derived.Test.YtdpklbomhdpimaaDoorZLf3
set_option linter.unusedVariables false
set_option linter.unusedSimpArgs false
set_option linter.unusedSectionVars false
namespace Go.Proofs.YtdpklbomhdpimaaDoor.P
open Go.RowKit Go.Shelf Go.Proofs.YtdpklbomhdpimaaDoorW.PrintWords Go.Proofs.YtdpklbomhdpimaaDoorW.PrintLast Go.Proofs.YtdpklbomhdpimaaDoorW.PrintMore Go.Proofs.YtdpklbomhdpimaaDoor.FP
attribute [local go_sem] Oper.semAt_some
attribute [local go_sem] Oper.semAt_some

theorem roomN {F : Fence} (hd : F.depth = none) (k : Nat) : F.room k := fun d h => by rw [hd] at h; cases h
theorem callsIn_any {F : Fence} (hd : F.depth = none) {m m' : Nat} {P : Program} {f : FuncId} {args : Array Value} {w : World} {R : Ending → World → Prop} (h : CallsIn F m P f args w R) : CallsIn F m' P f args w R :=
 ⟨h.1, fun cs _ => h.2 cs (roomN hd _)⟩
theorem KeepsFrom.mono {B B' : Nat} {W W' : World} (h : KeepsFrom B W W') (hB : B ≤ B') : KeepsFrom B' W W' := ⟨h.size, fun k o hk => h.same k o (Nat.le_trans hB hk)⟩
def Stb {β : Type} (B0 : Nat) (J : β → World → Prop) : Prop :=
 ∀ s V W row, J s V → V.grownBy W row → (∀ r, row = some r → B0 ≤ r ∧ ∃ o : Obj, V.heap[r]? = some o ∧ (o.isCells = false ∨ ∃ v, o = .cells #[v] 4 (0, 0))) → J s W
theorem Stb.own {β : Type} {B0 B : Nat} {J : β → World → Prop} (h : Stb B0 J) (hB : B0 ≤ B) : OwnFrom B J := fun s V W row hs hg hr => h s V W row hs hg fun r e => by
 obtain ⟨h1, o, h2, h3⟩ := hr r e
 exact ⟨Nat.le_trans hB h1, o, h2, Or.inl h3⟩
theorem Stb.alloc {β : Type} {B0 : Nat} {J : β → World → Prop} (h : Stb B0 J) {s : β} {V : World} (o : Obj) (hs : J s V) : J s (V.alloc o) := h s V _ none hs (World.grownBy_alloc V o none) (fun r e => by cases e)
theorem Stb.put {β : Type} {B0 : Nat} {J : β → World → Prop} (h : Stb B0 J) {s : β} {V : World} {l : Nat} {o : Obj} (o' : Obj) (hs : J s V) (hl : V.heap[l]? = some o) (ho : o.isCells = false) (hB : B0 ≤ l) : J s (V.putObj l o') :=
 h s V _ (some l) hs (grownBy_putObj' V l o') (fun r e => by cases e; exact ⟨hB, o, hl, Or.inl ho⟩)
theorem Stb.box {β : Type} {B0 : Nat} {J : β → World → Prop} (h : Stb B0 J) {s : β} {V : World} {l : Nat} {v : Value} (v' : Value) (hs : J s V) (hl : Boxed V l 4 v) (hB : B0 ≤ l) : J s (V.setCell ⟨l, 0, none⟩ v') :=
 h s V _ (some l) hs (grownBy_setCell' V l v') (fun r e => by cases e; exact ⟨hB, _, hl, Or.inr ⟨v, rfl⟩⟩)
structure YE (A : Nat → Option Nat) where
 val : Nat
 dep : Int
 ok : A val ≠ none
 d0 : 0 ≤ dep ∧ dep ≤ 1000
def YE.pr {A : Nat → Option Nat} (e : YE A) : Nat × Int := (e.val, e.dep)
theorem YE.inj {A : Nat → Option Nat} : ∀ {e e' : YE A}, e.pr = e'.pr → e = e'
 | ⟨v, d, _, _⟩, ⟨v', d', _, _⟩, h => by
  have h1 : v = v' := congrArg Prod.fst h
  have h2 : d = d' := congrArg Prod.snd h
  subst h1; subst h2; rfl
theorem YE.inj_map {A : Nat → Option Nat} : ∀ {l l' : List (YE A)}, l.map YE.pr = l'.map YE.pr → l = l'
 | [], [], _ => rfl
 | [], _ :: _, h => by cases h
 | _ :: _, [], h => by cases h
 | e :: l, e' :: l', h => by
  rw [List.map_cons, List.map_cons] at h
  rw [YE.inj (List.cons.inj h).1, YE.inj_map (List.cons.inj h).2]
def mkYE (A : Nat → Option Nat) : (l : List (Nat × Int)) → (∀ p ∈ l, A p.1 ≠ none ∧ 0 ≤ p.2 ∧ p.2 ≤ 1000) → List (YE A)
 | [], _ => []
 | p :: l, h => ⟨p.1, p.2, (h p List.mem_cons_self).1, (h p List.mem_cons_self).2⟩ :: mkYE A l fun q hq => h q (List.mem_cons_of_mem _ hq)
theorem mkYE_pr (A : Nat → Option Nat) : ∀ (l : List (Nat × Int)) (h : ∀ p ∈ l, A p.1 ≠ none ∧ 0 ≤ p.2 ∧ p.2 ≤ 1000), (mkYE A l h).map YE.pr = l
 | [], _ => rfl
 | p :: l, h => by
  unfold mkYE
  rw [List.map_cons, mkYE_pr A l]
  rfl
def pre1 (d : Int) : Fo → List (Nat × Int)
 | .nil => []
 | .nd i _ k n => (i, d) :: (pre1 (d + 1) k ++ pre1 d n)
theorem pre1_len : ∀ (F : Fo) (d : Int), (pre1 d F).length = F.ids.length
 | .nil, d => rfl
 | .nd i t k n, d => by simp [pre1, Fo.ids, pre1_len k, pre1_len n]
theorem pre1_mem : ∀ {F : Fo} {d : Int} {p : Nat × Int}, p ∈ pre1 d F → p.1 ∈ F.ids ∧ d ≤ p.2 ∧ p.2 < d + F.ids.length
 | .nil, d, p, h => by cases h
 | .nd i t k n, d, p, h => by
  simp only [pre1, List.mem_cons, List.mem_append] at h
  simp only [Fo.ids, List.mem_cons, List.mem_append, List.length_cons, List.length_append]
  rcases h with rfl | h | h
  ·exact ⟨Or.inl rfl, by simp, by simp; omega⟩
  ·obtain ⟨h1, h2, h3⟩ := pre1_mem h
   exact ⟨Or.inr (Or.inl h1), by omega, by omega⟩
  ·obtain ⟨h1, h2, h3⟩ := pre1_mem h
   exact ⟨Or.inr (Or.inr h1), by omega, by omega⟩
def kf (x : Nat) : Fo → Fo
 | .nil => .nil
 | .nd j _ k n => if j = x then k else kf x n
theorem kf_spec {h : Nat → Nd} {x : Nat} : ∀ {F : Fo} {up : Nat}, Rep h up F → F.ids.Nodup → x ∈ F.tops → Rep h x (kf x F) ∧ (h x).first = (kf x F).hd ∧ (∀ y ∈ (kf x F).ids, y ∈ F.ids) ∧ (kf x F).ids.length < F.ids.length ∧ (kf x F).ids.Nodup
 | .nil, _, _, _, hx => by cases hx
 | .nd j t k n, up, ⟨h1, h2, h3, h4⟩, hn, hx => by
  obtain ⟨n1, n2, n3, n4, n5⟩ := nodup_nd hn
  unfold kf
  by_cases e : j = x
  ·subst e
   rw [if_pos rfl]
   exact ⟨h3, by rw [h2], fun y hy => by simp [Fo.ids, hy], by simp [Fo.ids]; omega, n3⟩
  ·rw [if_neg e]
   have hx' : x ∈ n.tops := by
    simp only [Fo.tops, List.mem_cons] at hx
    exact hx.resolve_left fun e' => e e'.symm
   obtain ⟨g1, g2, g3, g4, g5⟩ := kf_spec h4 n4 hx'
   exact ⟨g1, g2, fun y hy => by simp [Fo.ids, g3 y hy], by simp [Fo.ids]; omega, g5⟩
theorem flatMap_congr' {α β : Type} {f g : α → List β} : ∀ {l : List α}, (∀ x ∈ l, f x = g x) → l.flatMap f = l.flatMap g
 | [], _ => rfl
 | x :: l, h => by rw [List.flatMap_cons, List.flatMap_cons, h x List.mem_cons_self, flatMap_congr' fun y hy => h y (List.mem_cons_of_mem _ hy)]
theorem pre1_kids : ∀ (F : Fo) (d : Int), F.ids.Nodup → pre1 d F = F.tops.flatMap fun x => (x, d) :: pre1 (d + 1) (kf x F)
 | .nil, d, _ => rfl
 | .nd j t k n, d, hn => by
  obtain ⟨n1, n2, n3, n4, n5⟩ := nodup_nd hn
  simp only [Fo.tops, List.flatMap_cons, pre1]
  rw [pre1_kids n d n4]
  have e1 : kf j (Fo.nd j t k n) = k := by unfold kf; exact if_pos rfl
  rw [e1, List.cons_append]
  congr 2
  refine flatMap_congr' fun x hx => ?_
  have e2 : kf x (Fo.nd j t k n) = kf x n := by
   have : j ≠ x := fun e => n2 (tops_ids (e ▸ hx))
   show (if j = x then k else kf x n) = kf x n
   exact if_neg this
  rw [e2]
theorem map_flatMap' {α β γ : Type} (f : α → List β) (g : β → γ) : ∀ (l : List α), (l.flatMap f).map g = l.flatMap fun x => (f x).map g
 | [] => rfl
 | x :: l => by rw [List.flatMap_cons, List.flatMap_cons, List.map_append, map_flatMap' f g l]
theorem flatMap_map' {α β γ : Type} (f : β → List γ) (g : α → β) : ∀ (l : List α), (l.map g).flatMap f = l.flatMap fun x => f (g x)
 | [] => rfl
 | x :: l => by rw [List.map_cons, List.flatMap_cons, List.flatMap_cons, flatMap_map' f g l]
theorem flatMap_len {α β : Type} (f : α → List β) (c : Nat) : ∀ (l : List α), (∀ x ∈ l, (f x).length ≤ c) → (l.flatMap f).length ≤ c * l.length
 | [], _ => by simp
 | x :: l, h => by
  rw [List.flatMap_cons, List.length_append, List.length_cons, Nat.mul_add]
  have h1 := h x List.mem_cons_self
  have h2 := flatMap_len f c l fun y hy => h y (List.mem_cons_of_mem _ hy)
  omega
theorem tops_len : ∀ (F : Fo), F.tops.length ≤ F.ids.length
 | .nil => Nat.le_refl _
 | .nd i t k n => by
  have := tops_len n
  simp only [Fo.tops, Fo.ids, List.length_cons, List.length_append]
  omega
attribute [local go_sem] Oper.semAt_some

def KB (V W : World) : Prop := ∀ (b : Nat) (t : TypeId) (v : Value), (t = 3 ∨ t = 194 ∨ t = 4 ∨ t = 162 ∨ t = 121) → Boxed V b t v → Boxed W b t v
theorem KB.refl (W : World) : KB W W := fun _ _ _ _ h => h
theorem KB.trans {U V W : World} (h : KB U V) (k : KB V W) : KB U W := fun b t v ht hb => k b t v ht (h b t v ht hb)
theorem KB.grown {V W : World} {row : Option Nat} (hg : V.grownBy W row) (hr : ∀ r, row = some r → ∃ o : Obj, V.heap[r]? = some o ∧ o.isCells = false) : KB V W := fun b t v _ hb => hb.kept hg fun e => by
 obtain ⟨o, h1, h2⟩ := hr b e.symm
 have h3 : V.heap[b]? = some (.cells #[v] t (0, 0)) := hb
 rw [h3] at h1
 rw [← Option.some.inj h1] at h2
 cases h2
theorem KB.alloc {U V : World} (h : KB U V) (o : Obj) : KB U (V.alloc o) := h.trans (KB.grown (World.grownBy_alloc V o none) (fun r e => by cases e))
structure Stp (w0 : World) (B0 : Nat) (V W : World) : Prop where
 below : Below w0.heap.size V W
 from_ : KeepsFrom B0 V W
 kb : KB V W
theorem Stp.refl (w0 : World) (B0 : Nat) (W : World) : Stp w0 B0 W W := ⟨Below.refl _ _, KeepsFrom.refl _ _, KB.refl _⟩
theorem Stp.trans {w0 : World} {B0 : Nat} {U V W : World} (h : Stp w0 B0 U V) (k : Stp w0 B0 V W) : Stp w0 B0 U W := ⟨h.below.trans k.below, h.from_.trans k.from_, h.kb.trans k.kb⟩
theorem Stp.alloc {w0 : World} {B0 : Nat} {U V : World} (h : Stp w0 B0 U V) (hB : w0.heap.size ≤ V.heap.size) (o : Obj) : Stp w0 B0 U (V.alloc o) := ⟨h.below.alloc hB _, h.from_.trans ((KeepsOthers.alloc _ _).from _), h.kb.alloc o⟩
theorem ownFrom_stp {β : Type} {B B0 : Nat} {w0 U : World} (h1 : w0.heap.size ≤ U.heap.size) (h2 : U.heap.size ≤ B) : OwnFrom B (fun (_ : β) W => Stp w0 B0 U W) := fun s V W row hs hg hr =>
 ⟨ownFrom_below (n₀ := w0.heap.size) (β := Unit) h1 (Nat.le_trans h1 h2) () V W row hs.below hg hr, ownFrom_keepsFrom (β := Unit) (B := B0) h2 () V W row hs.from_ hg hr, hs.kb.trans (KB.grown hg fun r e => (hr r e).2)⟩
def WalkI {A : Nat → Option Nat} {Q : Nat → Prop} (J : List (YE A) → World → Prop) (pre : List (YE A)) (ys : KA Q → List (YE A)) (w0 W0 : World) (B0 g l : Nat) (d : Int) (ks : List (KA Q)) (W : World) : Prop :=
 J (pre ++ ks.flatMap ys) W ∧ (Boxed W g 3 (.int .i64 d) ∧ Boxed W (g + 1) 194 (.func (.yield l) #[] #[]) ∧ Boxed W (g + 1 + 1) 4 (.bool false)) ∧ Stp w0 B0 W0 W
theorem walkI_own {A : Nat → Option Nat} {Q : Nat → Prop} {J : List (YE A) → World → Prop} {pre : List (YE A)} {ys : KA Q → List (YE A)} {w0 W0 : World} {B0 g l B : Nat} {d : Int} (hJ : Stb B0 J) (hB : B0 ≤ B) (h1 : w0.heap.size ≤ W0.heap.size) (h2 : W0.heap.size ≤ B) :
    OwnFrom B (WalkI (Q := Q) J pre ys w0 W0 B0 g l d) := fun s V W row hs hg hr =>
  ⟨hJ.own hB (pre ++ s.flatMap ys) V W row hs.1 hg hr,
   ⟨boxed_own g _ (fun (_ : Unit) => _) () V W row hs.2.1.1 hg (fun r e => (hr r e).2), boxed_own (g + 1) _ (fun (_ : Unit) => _) () V W row hs.2.1.2.1 hg (fun r e => (hr r e).2), boxed_own (g + 1 + 1) _ (fun (_ : Unit) => _) () V W row hs.2.1.2.2 hg (fun r e => (hr r e).2)⟩,
   ownFrom_stp (β := Unit) h1 h2 () V W row hs.2.2 hg hr⟩
theorem KB.far {U V : World} (h : KB U V) {g : Nat} (hg : U.heap.size ≤ g) (v : Value) : KB U (V.setCell ⟨g, 0, none⟩ v) := fun b t u ht hb => (h b t u ht hb).other (fun e => by have := hb.lt; omega) v
theorem KeepsFrom.far {B : Nat} {U V : World} (h : KeepsFrom B U V) {D : Nat} (hD : U.heap.size ≤ D) {o : Obj} (hK : V.heap[D]? = some o) (ho : o.isCells = false) (o' : Obj) : KeepsFrom B U (V.putObj D o') :=
 ownFrom_keepsFrom (β := Unit) (B' := U.heap.size) (Nat.le_refl _) () V _ (some D) h (grownBy_putObj' V D o') (fun r e => by cases e; exact ⟨hD, o, hK, ho⟩)
def WalkPost {A : Nat → Option Nat} (J : List (YE A) → World → Prop) (w0 : World) (B0 : Nat) (l : List (YE A)) (W : World) (e : Ending) (W' : World) : Prop := e = .returned (.bool true) ∧ J l W' ∧ Stp w0 B0 W W'
set_option maxRecDepth 100000 in
set_option maxHeartbeats 4000000 in
theorem wlk_in_ (F : Fence) (hd : F.depth = none) (h81 : F.fn 153) (h56 : F.fn 156) (h76 : F.fn 157) (hro : F.round = none) (l N B0 : Nat) {w0 : World} {n0 Fb : Nat} {A : Nat → Option Nat} {h : Nat → Nd} (m : Mem w0 n0 Fb A h)
  (J : List (YE A) → World → Prop) (hJ : Stb B0 J)
  (hY : ∀ (q : Nat) (pre : List (YE A)) (x : YE A) (W : World), J pre W → Below w0.heap.size w0 W → pre.length < N → YieldAt F q Tryd.prog l #[.pointer (pa (A x.val)), .int .i64 x.dep] W (WalkPost J w0 B0 (pre ++ [x]) W)) :
  ∀ (s : Nat) (k : Fo), k.ids.length < s → ∀ (q i : Nat) (d : Int) (es pre : List (YE A)) (W : World), Rep h i k → k.ids.Nodup → (∀ x ∈ k.ids, A x ≠ none) → A i ≠ none → (h i).first = k.hd → es.map YE.pr = (i, d) :: pre1 (d + 1) k → J pre W → Below w0.heap.size w0 W → B0 ≤ W.heap.size →
   pre.length + 1400 * (k.ids.length + 1) ≤ N → k.ids.length ≤ 36 → 0 ≤ d → d + k.ids.length ≤ 900 →
   CallsIn F q Tryd.prog 153 #[.pointer (pa (A i)), .int .i64 d, .func (.yield l) #[] #[]] W (WalkPost J w0 B0 (pre ++ es) W) := by
 intro s
 induction s with
 | zero => intro k hk; omega
 | succ s ih =>
  intro k hks q i d es pre W hR hnd hAk hAi hfirst hes hJ0 hB hB0 hN h36 hd0 hd1
  obtain ⟨b, hb⟩ := Option.ne_none_iff_exists'.1 hAi
  -- what is handed on
  obtain ⟨e0, rest, rfl⟩ : ∃ e0 rest, es = e0 :: rest := by
   cases es with
   | nil => cases hes
   | cons e0 rest => exact ⟨e0, rest, rfl⟩
  rw [List.map_cons] at hes
  obtain ⟨he0, hrest⟩ := List.cons.inj hes
  have hv : e0.val = i := congrArg Prod.fst he0
  have hdp : e0.dep = d := congrArg Prod.snd he0
  obtain ⟨ks, hks2⟩ := attach_val (Q := fun y => y ∈ k.tops) (l := k.tops) fun x hx => hx
  have hok : ∀ x : KA (fun y => y ∈ k.tops), ∀ p ∈ (x.val, d + 1) :: pre1 (d + 1 + 1) (kf x.val k), A p.1 ≠ none ∧ 0 ≤ p.2 ∧ p.2 ≤ 1000 := fun x p hp => by
   obtain ⟨g1, g2, g3, g4, g5⟩ := kf_spec hR hnd x.ok
   rcases List.mem_cons.1 hp with rfl | hp
   ·exact ⟨hAk _ (tops_ids x.ok), by simp; omega, by simp; omega⟩
   ·obtain ⟨a1, a2, a3⟩ := pre1_mem hp
    exact ⟨hAk _ (g3 _ a1), by omega, by omega⟩
  obtain ⟨ys, hys⟩ : ∃ ys : KA (fun y => y ∈ k.tops) → List (YE A), ∀ x, (ys x).map YE.pr = (x.val, d + 1) :: pre1 (d + 1 + 1) (kf x.val k) := ⟨fun x => mkYE A _ (hok x), fun x => mkYE_pr A _ (hok x)⟩
  have hrest2 : rest = ks.flatMap ys := by
   apply YE.inj_map
   rw [hrest, map_flatMap', pre1_kids k (d + 1) hnd]
   refine ((congrArg (fun (z : List Nat) => z.flatMap fun x => (x, d + 1) :: pre1 (d + 1 + 1) (kf x k)) hks2).symm.trans (flatMap_map' _ KA.val ks)).trans ?_
   exact flatMap_congr' fun x _ => (hys x).symm
  have hyl : ∀ x, (ys x).length ≤ 36 := fun x => by
   have h1 := congrArg List.length (hys x)
   have g4 := (kf_spec hR hnd x.ok).2.2.2.1
   rw [List.length_map, List.length_cons, pre1_len] at h1
   omega
  have hkl : ks.length ≤ 36 := by
   have h1 := congrArg List.length hks2
   rw [List.length_map] at h1
   have := tops_len k
   omega
  subst hrest2
  clear hes hrest hok he0
  have hsz := hB.size
  -- the boxes
  obtain ⟨W3, hW3⟩ : ∃ W3, W3 = ((W.alloc (.cells #[.int .i64 d] 3)).alloc (.cells #[.func (.yield l) #[] #[]] 194)).alloc (.cells #[.bool false] 4) := ⟨_, rfl⟩
  have b1 := ((Boxed.new W 3 (.int .i64 d)).alloc (.cells #[.func (.yield l) #[] #[]] 194)).alloc (.cells #[.bool false] 4)
  have b2 := (Boxed.new (W.alloc (.cells #[.int .i64 d] 3)) 194 (.func (.yield l) #[] #[])).alloc (.cells #[.bool false] 4)
  have b3 := Boxed.new ((W.alloc (.cells #[.int .i64 d] 3)).alloc (.cells #[.func (.yield l) #[] #[]] 194)) 4 (.bool false)
  simp only [World.size_alloc] at b2 b3
  have hJ3 : J pre W3 := by rw [hW3]; exact hJ.alloc _ (hJ.alloc _ (hJ.alloc _ hJ0))
  have hS3 : Stp w0 B0 W W3 := by rw [hW3]; exact (((Stp.refl w0 B0 W).alloc hsz _).alloc (by simp; omega) _).alloc (by simp; omega) _
  have hz3 : W3.heap.size = W.heap.size + 3 := by rw [hW3]; simp
  rw [← hW3] at b1 b2 b3
  obtain ⟨fn, tmps, assign, body, hy, hRd⟩ := hY 7 pre e0 W3 hJ3 (hB.trans hS3.below) (by omega)
  rw [hv, hdp, hb, pa_some] at hy
  have cD := b1.cell
  have cY := b2.cell
  have M := Aside0.mk m
  have HB := Aside0.mk hB
  have HBi := Aside0.mk hb
  have HS3 := Aside0.mk hS3
  refine callsIn_any hd (m := 8) ?_
  rw [hb, pa_some]
  refine callsIn_of_wp_marks Tryd.func153 rfl h81 ?_ hro
  simp only [Tryd.ntmps153, List.size_toArray, List.length_cons, List.length_nil, Nat.reduceAdd, Nat.reduceSub, Array.replicate_succ, Array.replicate_zero, List.push_toArray, List.append_toArray, List.nil_append, List.cons_append]
  rw [hW3] at hy cD cY
  gi_wp2
  rw [← hW3]
  refine hRd.mono ?_
  clear hRd hy cD cY hJ3 hS3
  rintro e W4 ⟨rfl, hJ4, hS4⟩
  have HJ4 := Aside0.mk hJ4
  have HS4 := Aside0.mk (HS3.out.trans hS4)
  have HK4 := Aside0.mk hS4.kb
  have HZ4 := Aside0.mk hS4.below.size
  clear hJ4 hS4
  gi_wp2_with (gi_at_call 156; refine (kids_in F _ h56 hro _ _).mono ?_; rintro e w' ⟨rfl, rfl⟩)
  have hS4 := HS4.out
  have hz4 : W3.heap.size ≤ W4.heap.size := HZ4.out
  obtain ⟨W5, hW5⟩ : ∃ W5, W5 = W4.alloc (.cells #[.pointer (some ⟨b, 0, none⟩)] 162) := ⟨_, rfl⟩
  have hz5 : W5.heap.size = W4.heap.size + 1 := by rw [hW5]; simp
  have hB05 : B0 ≤ W5.heap.size := by omega
  have hbox : W5.cell? ⟨W4.heap.size, 0, none⟩ = some (.pointer (some ⟨b, 0, none⟩)) := by rw [hW5]; exact (cell_new_f W4 _ _).1
  have hS45 : Stp w0 B0 W4 W5 := by rw [hW5]; exact (Stp.refl w0 B0 W4).alloc (by omega) _
  have hB5 : Below w0.heap.size w0 W5 := (HB.out.trans hS4.below).trans hS45.below
  have M5 := M.out.below hB5
  have c3 := M5.c3 HBi.out
  rw [hfirst] at c3
  have hL : NList A w0.heap.size W5 (pa (A k.hd)) (ks.map KA.val) := by rw [hks2]; exact (nlist_of M.out hR hAk).below hB5
  have hbl : b < w0.heap.size := M.out.lt HBi.out
  have hI0 : WalkI J (pre ++ [e0]) ys w0 W5 B0 W.heap.size l d [] W5 := ⟨by rw [List.flatMap_nil, List.append_nil, hW5]; exact hJ.alloc _ HJ4.out, ⟨hS45.kb _ _ _ (Or.inl rfl) (HK4.out _ _ _ (Or.inl rfl) b1), hS45.kb _ _ _ (Or.inr (Or.inl rfl)) (HK4.out _ _ _ (Or.inr (Or.inl rfl)) b2), hS45.kb _ _ _ (Or.inr (Or.inr (Or.inl rfl))) (HK4.out _ _ _ (Or.inr (Or.inr (Or.inl rfl))) b3)⟩, Stp.refl _ _ _⟩
  rw [← hW5]
  have HB5 := Aside0.mk hB5
  have HS45 := Aside0.mk hS45
  clear b1 b2 b3 hB5 hS45
  refine wpIn_rangeFunc_ownG hro (show 1 ≤ 8 by omega) (gf := 157) (lb := #[.pointer (some ⟨W4.heap.size, 0, none⟩)]) rfl h76 (enters_of Tryd.func157 (by kernel_rfl) rfl)
   (kids_stops F 7 h76 hro (by omega) W4.heap.size w0.heap.size b (fun y => y ∈ k.tops) A (pa (A k.hd)) ks W5 (by omega) (by omega) (by omega) hbox c3 hL) belowK_t (belowK_b (by omega)) (Below.refl _ _) (fun _ => by rfl)
   (WalkI J (pre ++ [e0]) ys w0 W5 B0 W.heap.size l d) (fun _ _ _ => False) (walkI_own hJ (by omega) (by omega) (by omega)) (fun _ _ _ _ _ hs _ _ => hs) hI0
   (fun x => { tmps := #[.pointer (some ⟨b, 0, none⟩), .int .i64 d, .func (.yield l) #[] #[], undef, .pointer (some ⟨W.heap.size, 0, none⟩), .pointer (some ⟨W.heap.size + 1, 0, none⟩), .pointer (some ⟨W.heap.size + 1 + 1, 0, none⟩), .pointer (pa (A x.val)), .func (.yield l) #[] #[], .pointer (some ⟨b, 0, none⟩), .int .i64 d, .bool true, .bool false, .pointer (some ⟨b, 0, none⟩), .func (.func 157) #[] #[.pointer (some ⟨W4.heap.size, 0, none⟩)], .pointer (pa (A x.val)), undef, undef, undef, undef, undef, undef], defers := [] }) ?assign ?body ?done ?stop
  case assign =>
   intro l2 x V K hK
   gi_wp2
   exact hK
  case body =>
   rintro l2 pre' x V hI hlt
   obtain ⟨hJv, ⟨v1, v2, v3⟩, hSv⟩ := hI
   obtain ⟨g1, g2, g3, g4, g5⟩ := kf_spec hR hnd x.ok
   have hfl := flatMap_len ys 36 pre' fun x _ => hyl x
   have IH := Aside0.mk (ih (kf x.val k) (by omega) (8 - 1 - 1 - 1) x.val (d + 1) (ys x) (pre ++ [e0] ++ pre'.flatMap ys) V g1 g5 (fun y hy => hAk y (g3 y hy)) (hAk _ (tops_ids x.ok)) g2 (hys x) hJv (HB5.out.trans hSv.below) (by have := hSv.below.size; omega)
    (by simp only [List.length_append, List.length_cons, List.length_nil]; omega) (by omega) (by omega) (by omega))
   have p1 := v1.cell
   have p2 := v2.cell
   have HV := Aside0.mk (And.intro v1 (And.intro v2 v3))
   have HSv := Aside0.mk hSv
   clear hJv v1 v2 v3 hSv g1 g2 g3 g4 g5 hfl hlt hI0 hL c3 hbox M5 hz4 hz5 hkl hyl hys hks2 hv hdp hN h36
   have hd0' : 0 ≤ d := hd0
   have hd9 : d ≤ 900 := by omega
   gi_wp2_with (gi_at_call 153; refine (CallsIn.inRound l2 IH.out).mono ?_; clear IH; rintro e W6 ⟨rfl, hJ6, hS6⟩; have HJ6 := Aside0.mk hJ6; have HS6 := Aside0.mk hS6; clear hJ6 hS6)
   have h6 := HS6.out
   obtain ⟨v1, v2, v3⟩ := HV.out
   have hJ6 := HJ6.out
   refine ⟨KeepsFrom.mono h6.from_ hB05, h6.below, ⟨?_, ⟨h6.kb _ _ _ (Or.inl rfl) v1, h6.kb _ _ _ (Or.inr (Or.inl rfl)) v2, h6.kb _ _ _ (Or.inr (Or.inr (Or.inl rfl))) v3⟩, HSv.out.trans h6⟩⟩
   rw [List.flatMap_append, List.flatMap_cons, List.flatMap_nil, List.append_nil, ← List.append_assoc]
   exact hJ6
  case done =>
   rintro D zs V hD rfl ⟨hJv, ⟨v1, v2, v3⟩, hSv⟩ hK
   have p3 := v3.cell
   have f3 := v3.frozen
   have HV3 := Aside0.mk v3
   have HSv := Aside0.mk hSv
   have HJv := Aside0.mk hJv
   clear v1 v2 v3 hSv hJv hI0 hL c3 hbox M5
   gi_wp2
   have hK' := (KeepsOthers.setCell V ⟨W.heap.size + 1 + 1, 0, none⟩ (.bool true)).same D _ hK rfl
   refine ⟨by simp, .inl ⟨_, _, rfl, run_takeDeferred hK', ?_⟩⟩
   have hc5 := cell_kept (World.cell?_setCell_same' V ⟨W.heap.size + 1 + 1, 0, none⟩ (.bool true) (by rw [p3]; rfl)) (grownBy_putObj' _ D (.deferred none)) (fun r e => by cases e; exact ⟨_, hK', rfl⟩)
   have hSW : Stp w0 B0 W V := (hS4.trans HS45.out).trans HSv.out
   refine ⟨.bool true, ?_, rfl, ?_, ?_⟩
   ·simp [results, Tryd.f153, go_sem, hc5]
   ·refine hJ.put _ ?_ hK' rfl (by omega)
    have hb := hJ.box (.bool true) HJv.out HV3.out (by omega)
    rw [List.append_assoc] at hb
    exact hb
   ·refine ⟨?_, ?_, ?_⟩
    ·exact (hSW.below.setCell (p := ⟨W.heap.size + 1 + 1, 0, none⟩) (by simp; omega) _).trans (belowK_b (w := W) hsz _ D _ _ (by omega) hK' rfl rfl)
    ·exact KeepsFrom.far (hSW.from_.trans ((KeepsOthers.setCell _ _ _).from _)) (by omega) hK' rfl _
    ·exact (hSW.kb.far (by omega) _).trans (KB.grown (grownBy_putObj' _ D _) (fun r e => by cases e; exact ⟨_, hK', rfl⟩))
  case stop =>
   rintro D c pre' V _ _ hf _
   exact hf.elim
attribute [local go_sem] Oper.semAt_some

theorem roots_kf {h : Nat → Nd} {r : Nat} : ∀ {G : Fo}, RepTop h G → G.ids.Nodup → r ∈ G.tops → Rep h r (kf r G) ∧ (h r).first = (kf r G).hd ∧ (∀ y ∈ (kf r G).ids, y ∈ G.ids) ∧ (kf r G).ids.length < G.ids.length ∧ (kf r G).ids.Nodup
 | .nil, _, _, hx => by cases hx
 | .nd j t k n, ⟨h1, h2, h3, h4⟩, hn, hx => by
  obtain ⟨n1, n2, n3, n4, n5⟩ := nodup_nd hn
  unfold kf
  by_cases e : j = r
  ·subst e
   rw [if_pos rfl]
   exact ⟨h3, by rw [h2], fun y hy => by simp [Fo.ids, hy], by simp [Fo.ids]; omega, n3⟩
  ·rw [if_neg e]
   have hx' : r ∈ n.tops := by
    simp only [Fo.tops, List.mem_cons] at hx
    exact hx.resolve_left fun e' => e e'.symm
   obtain ⟨g1, g2, g3, g4, g5⟩ := roots_kf h4 n4 hx'
   exact ⟨g1, g2, fun y hy => by simp [Fo.ids, g3 y hy], by simp [Fo.ids]; omega, g5⟩
def ahead_ {α : Type} (part : Nat → List α) (r : Nat) : List α := (List.range' 1 (r - 1)).flatMap part
theorem ahead_succ {α : Type} (part : Nat → List α) (r : Nat) (hr : 1 ≤ r) : ahead_ part (r + 1) = ahead_ part r ++ part r := by
 unfold ahead_
 rw [show r + 1 - 1 = (r - 1) + 1 by omega, List.range'_concat, List.flatMap_append]
 simp only [List.flatMap_cons, List.flatMap_nil, List.append_nil, Nat.one_mul]
 rw [show 1 + (r - 1) = r by omega]
def AllI {A : Nat → Option Nat} (J : List (YE A) → World → Prop) (part : Nat → List (YE A)) (w0 : World) (B0 : Nat) (W : World) (v : Value) (V : World) : Prop :=
 ∃ r : Nat, 1 ≤ r ∧ r ≤ 4 ∧ v = .int .i64 (r : Int) ∧ J (ahead_ part r) V ∧ Stp w0 B0 W V
def AllPost {A : Nat → Option Nat} (J : List (YE A) → World → Prop) (w0 : World) (B0 : Nat) (l : List (YE A)) (W : World) (e : Ending) (W' : World) : Prop := (∃ v, e = .returned v) ∧ J l W' ∧ Stp w0 B0 W W'
set_option maxRecDepth 100000 in
set_option maxHeartbeats 4000000 in
theorem all1_in (F : Fence) (hd : F.depth = none) (h80 : F.fn 152) (h81 : F.fn 153) (h56 : F.fn 156) (h76 : F.fn 157) (hro : F.round = none) (l N B0 q : Nat) {w0 : World} {n0 Fb : Nat} {A : Nat → Option Nat} {h : Nat → Nd} (m : Mem w0 n0 Fb A h)
  {G : Fo} (hG : RepTop h G) (hnd : G.ids.Nodup) (hroots : G.tops = [1, 2, 3]) (hA : ∀ x ∈ G.ids, A x ≠ none) (h36 : G.ids.length ≤ 36)
  (J : List (YE A) → World → Prop) (hJ : Stb B0 J)
  (hY : ∀ (q : Nat) (pre : List (YE A)) (x : YE A) (W : World), J pre W → Below w0.heap.size w0 W → pre.length < N → YieldAt F q Tryd.prog l #[.pointer (pa (A x.val)), .int .i64 x.dep] W (WalkPost J w0 B0 (pre ++ [x]) W))
  (hN : 60000 ≤ N) (es : List (YE A)) (hes : es.map YE.pr = pre1 0 G) (Bn : Nat) (W : World) (hBn : Boxed W Bn 121 (.pointer (some ⟨Fb, 0, none⟩))) (hB : Below w0.heap.size w0 W) (hB0 : B0 ≤ W.heap.size) (hJ0 : J [] W) :
  CallsIn F q Tryd.prog 152 #[.func (.yield l) #[] #[], .pointer (some ⟨Bn, 0, none⟩)] W (AllPost J w0 B0 es W) := by
 -- the roots' parts
 have hrt : ∀ r : Nat, 1 ≤ r → r ≤ 3 → r ∈ G.tops := fun r h1 h2 => by rw [hroots]; simp; omega
 obtain ⟨part, hpart⟩ : ∃ part : Nat → List (YE A), ∀ r, 1 ≤ r → r ≤ 3 → (part r).map YE.pr = (r, 0) :: pre1 (0 + 1) (kf r G) := by
  have hok : ∀ r : Nat, 1 ≤ r ∧ r ≤ 3 → ∀ p ∈ (r, (0 : Int)) :: pre1 (0 + 1) (kf r G), A p.1 ≠ none ∧ 0 ≤ p.2 ∧ p.2 ≤ 1000 := fun r hr p hp => by
   obtain ⟨g1, g2, g3, g4, g5⟩ := roots_kf hG hnd (hrt r hr.1 hr.2)
   rcases List.mem_cons.1 hp with rfl | hp
   ·exact ⟨hA _ (tops_ids (hrt r hr.1 hr.2)), by simp, by simp⟩
   ·obtain ⟨a1, a2, a3⟩ := pre1_mem hp
    exact ⟨hA _ (g3 _ a1), by omega, by omega⟩
  refine ⟨fun r => if hr : 1 ≤ r ∧ r ≤ 3 then mkYE A _ (hok r hr) else [], fun r h1 h2 => ?_⟩
  have hr : 1 ≤ r ∧ r ≤ 3 := ⟨h1, h2⟩
  simp only [dif_pos hr]
  exact mkYE_pr A _ (hok r hr)
 have hes2 : es = ahead_ part 4 := by
  apply YE.inj_map
  rw [hes, pre1_kids G 0 hnd, hroots]
  show _ = List.map YE.pr ([1, 2, 3].flatMap part)
  rw [map_flatMap']
  refine flatMap_congr' fun x hx => ?_
  have : 1 ≤ x ∧ x ≤ 3 := by simp at hx; omega
  exact (hpart x this.1 this.2).symm
 have hpl : ∀ r, 1 ≤ r → r ≤ 3 → (part r).length ≤ 36 := fun r h1 h2 => by
  have h3 := congrArg List.length (hpart r h1 h2)
  have h4 := (roots_kf hG hnd (hrt r h1 h2)).2.2.2.1
  rw [List.length_map, List.length_cons, pre1_len] at h3
  omega
 have hal : ∀ r, 1 ≤ r → r ≤ 4 → (ahead_ part r).length ≤ 36 * 3 := fun r h1 h2 => by
  unfold ahead_
  refine Nat.le_trans (flatMap_len part 36 _ fun x hx => ?_) (by rw [List.length_range']; omega)
  have := List.mem_range'.1 hx
  obtain ⟨i, hi, rfl⟩ := this
  exact hpl _ (by omega) (by omega)
 subst hes2
 have M := Aside0.mk m
 have HB := Aside0.mk hB
 have HBn := Aside0.mk hBn
 have HJ0 := Aside0.mk hJ0
 have cB := hBn.cell
 clear hes hB hBn hJ0
 refine callsIn_any hd (m := 8) ?_
 refine callsIn_of_wp Tryd.func152 rfl h80 ?_ hro
 simp only [Tryd.ntmps152, List.size_toArray, List.length_cons, List.length_nil, Nat.reduceAdd, Nat.reduceSub, Array.replicate_succ, Array.replicate_zero, List.push_toArray, List.append_toArray, List.nil_append, List.cons_append]
 gi_wp2
 gi_loopw [3] (fun v V => AllI J part w0 B0 W v V) (fun v _ => 4 - (intOf v).toNat)
 case atStart => exact ⟨1, by omega, by omega, rfl, HJ0.out, Stp.refl _ _ _⟩
 case round =>
  obtain ⟨r, hr1, hr4, rfl, hJr, hSr⟩ := hrel
  have cB := (hSr.kb _ _ _ (Or.inr (Or.inr (Or.inr (Or.inr rfl)))) HBn.out).cell
  by_cases hr3 : r ≤ 3
  ·have hd1 : decide (r ≤ 3) = true := decide_eq_true hr3
   have hd2 : decide ((r : Int) ≤ 3) = true := decide_eq_true (by omega)
   have cF := (M.out.below (HB.out.trans hSr.below)).cF r (by omega)
   obtain ⟨g1, g2, g3, g4, g5⟩ := roots_kf hG hnd (hrt r hr1 hr3)
   have IH := Aside0.mk (wlk_in_ F hd h81 h56 h76 hro l N B0 m J hJ hY 40 (kf r G) (by omega) (8 - 1) r 0 (part r) (ahead_ part r) _ g1 g5 (fun y hy => hA y (g3 y hy)) (hA _ (tops_ids (hrt r hr1 hr3))) g2 (hpart r hr1 hr3) hJr (HB.out.trans hSr.below) (by have := hSr.below.size; omega)
    (by have := hal r hr1 hr4; omega) (by omega) (by omega) (by omega))
   have hi0 : 0 ≤ (r : Int) := by omega
   have hi37 : (r : Int) < 37 := by omega
   have HS := Aside0.mk hSr
   have HR := Aside0.mk (And.intro hr1 hr3)
   have HAS := Aside0.mk (ahead_succ part r hr1)
   clear g1 g2 g3 g4 g5 hJr hSr
   gi_wp2_with (gi_at_call 153; refine (IH.out).mono ?_; clear IH; rintro e W6 ⟨rfl, hJ6, hS6⟩; have HJ6 := Aside0.mk hJ6; have HS6 := Aside0.mk hS6; clear hJ6 hS6)
   refine ⟨⟨r + 1, by have := HR.out; omega, by have := HR.out; omega, by simp, by rw [HAS.out]; exact HJ6.out, HS.out.trans HS6.out⟩, ?_⟩
   have := HR.out
   simp [intOf]
   omega
  ·have hd1 : decide (r ≤ 3) = false := decide_eq_false hr3
   have hd2 : decide ((r : Int) ≤ 3) = false := decide_eq_false (by omega)
   obtain rfl : r = 4 := by omega
   gi_wp2
   go_end0
   exact ⟨⟨_, rfl⟩, hJr, hSr⟩
#print axioms all1_in
theorem Stp.mono {w0 V W : World} {B B' : Nat} (h : Stp w0 B V W) (hB : B ≤ B') : Stp w0 B' V W := ⟨h.below, KeepsFrom.mono h.from_ hB, h.kb⟩
theorem Stb.mono {β : Type} {B B' : Nat} {J : β → World → Prop} (h : Stb B J) (hB : B ≤ B') : Stb B' J := fun s V W row hs hg hr => h s V W row hs hg fun r e => ⟨Nat.le_trans hB (hr r e).1, (hr r e).2⟩
attribute [local go_sem] Oper.semAt_some

end Go.Proofs.YtdpklbomhdpimaaDoor.P
namespace Go.Proofs.YtdpklbomhdpimaaDoor.PL
open Go.RowKit Go.Proofs.YtdpklbomhdpimaaDoor.P Go.Proofs.YtdpklbomhdpimaaDoorW.PrintWords Go.Proofs.YtdpklbomhdpimaaDoorW.PrintLast Go.Proofs.YtdpklbomhdpimaaDoor.FP
theorem take_set_nx {α : Type} (x : List α) (i : Int) (v : α) (h0 : 0 ≤ i) (h : i < x.length) : (x.set i.toNat v).take (i + 1).toNat = x.take i.toNat ++ [v] := by
 have e : (i + 1).toNat = i.toNat + 1 := by omega
 have hl : i.toNat < (x.set i.toNat v).length := by rw [List.length_set]; omega
 rw [e, List.take_succ_eq_append_getElem hl, List.getElem_set_self]
 congr 1
 rw [List.take_set_of_le (Nat.le_refl _)]
theorem eqRow_refl (a b : Int) (e : ByteArray) : laws_eqRow.f a b e a b e = some true := by simp [laws_eqRow.f]
theorem eqR_ev (d : Nat) : ∀ (x : List S69) (i : Int), 0 ≤ i → (x.length : Int) - i = d → x.length ≤ 1099511627776 → Ev (fun k => laws_eqRowS.l0 k x x i) true := by
 induction d with
 | zero =>
  intro x i h0 hd hl
  refine Ev.step (f := fun _ => some true) (fun k => ?_) (evnow _)
  simp only [laws_eqRowS.l0]; rw [if_neg (by omega)]
 | succ d ih =>
  intro x i h0 hd hl
  have hi : i < (x.length : Int) := by omega
  refine Ev.step (fun k => ?_) (ih x (i + 1) (by omega) (by omega) hl)
  simp only [laws_eqRowS.l0, if_pos hi, if_pos h0, eqRow_refl, Option.bind_some, if_true, wrapS i h0 (by omega)]
theorem eqR (x : List S69) (hl : x.length ≤ 1099511627776) : Ev (fun k => laws_eqRowS.f k x x) true :=
 Ev.congr (fun k => by simp only [laws_eqRowS.f, if_true]) (eqR_ev x.length x 0 (by omega) (by omega) hl)
def convR (e : S183) : S69 := ⟨e.f0, e.f1, e.f2⟩
def wfXR (e : S183) : Prop := I64 e.f0 ∧ I64 e.f1 ∧ e.f2.size ≤ 9223372036854775807
theorem rdXR_get (l : List S183) (i : Nat) (h : i < l.length) : rd_T183 l i = l[i] := by
 unfold rd_T183
 rw [List.getD_eq_getElem?_getD, show ((i : Int)).toNat = i from rfl, List.getElem?_eq_getElem h]
 rfl
theorem wf_convR {l : List S183} (h : ∀ e ∈ l, wfXR e) : ∀ r ∈ l.map convR, wfR r := by
 intro e he
 obtain ⟨x, hx, rfl⟩ := List.mem_map.1 he
 exact ⟨(h x hx).1, (h x hx).2.2⟩
theorem szR_l0 (l : List S183) (hw : ∀ e ∈ l, wfXR e) (hl : l.length ≤ 1099511627776) : ∀ (n : Nat) (i : Nat) (b : Int), i + n = l.length → 0 ≤ b → b ≤ 1048576 → ∃ r : Int, Ev (fun k => laws_szRowS.l0 k l b i) r ∧ r ≤ 1048576
 | 0, i, b, h, h0, h1 => ⟨b, Ev.step (f := fun _ => some b) (fun k => by simp only [laws_szRowS.l0]; rw [if_neg (by omega)]) (evnow _), h1⟩
 | n + 1, i, b, h, h0, h1 => by
  have hi : i < l.length := by omega
  obtain ⟨_, _, hs⟩ := hw _ (List.getElem_mem hi)
  have hww : wrap64 (b - (l[i].f2.size : Int)) = b - l[i].f2.size := by unfold wrap64; omega
  by_cases hb : b - (l[i].f2.size : Int) < 0
  ·refine ⟨-1, Ev.step (f := fun _ => some (-1)) (fun k => ?_) (evnow _), by omega⟩
   simp only [laws_szRowS.l0]
   rw [if_pos (by omega), if_pos (by omega), rdXR_get l i hi]
   simp only [laws_szRow.f, hww]
   rw [if_pos hb]
   rfl
  ·obtain ⟨r, hr, hr1⟩ := szR_l0 l hw hl n (i + 1) (b - l[i].f2.size) (by omega) (by omega) (by omega)
   refine ⟨r, Ev.step (fun k => ?_) hr, hr1⟩
   simp only [laws_szRowS.l0]
   rw [if_pos (by omega), if_pos (by omega), rdXR_get l i hi]
   simp only [laws_szRow.f, hww]
   rw [if_neg hb]
   simp only [Option.bind_some]
   rw [if_neg hb, wrapS i (by omega) (by omega)]
   rfl
theorem szR_f (l : List S183) (hw : ∀ e ∈ l, wfXR e) (hl : l.length ≤ 9223372036854775807) : ∃ r : Int, Ev (fun k => laws_szRowS.f k l 1048576) r ∧ r ≤ 1048576 ∧ (¬ r < 0 → l.length ≤ 1048576) := by
 unfold laws_szRowS.f
 have hww : wrap64 (1048576 - (l.length : Int)) = 1048576 - l.length := by unfold wrap64; omega
 rw [hww]
 by_cases hb : 1048576 - (l.length : Int) < 0
 ·exact ⟨-1, ev_pos hb (evnow _), by omega, fun h => absurd (by decide) h⟩
 ·obtain ⟨r, hr, hr1⟩ := szR_l0 l hw (by omega) l.length 0 (1048576 - l.length) (by omega) (by omega) (by omega)
  exact ⟨r, ev_neg hb hr, hr1, fun _ => by omega⟩
theorem toR_l0 (l : List S183) (hl : l.length ≤ 1099511627776) : ∀ (n : Nat) (i : Nat) (x : List S69), i + n = l.length → x.length = l.length → x.take i = (l.take i).map convR → Ev (fun k => laws_toRowS.l0 k l x i) (l.map convR)
 | 0, i, x, h, hx, ht => by
  refine Ev.step (f := fun _ => some x) (fun k => ?_) ?_
  ·simp only [laws_toRowS.l0]; rw [if_neg (by omega)]
  ·rw [List.take_of_length_le (by omega), List.take_of_length_le (by omega)] at ht
   rw [ht]; exact evnow _
 | n + 1, i, x, h, hx, ht => by
  have hi : i < l.length := by omega
  refine Ev.step (fun k => ?_) (toR_l0 l hl n (i + 1) (x.set i (convR l[i])) (by omega) (by rw [List.length_set]; exact hx) ?_)
  ·simp only [laws_toRowS.l0]
   rw [if_pos (by omega), if_pos (by omega), rdXR_get l i hi]
   simp only [laws_toRow.f, Option.bind_some]
   rw [if_pos (by omega), wrapS i (by omega) (by omega)]
   rfl
  ·have := take_set_nx x (i : Int) (convR l[i]) (by omega) (by omega)
   simp only [Int.toNat_natCast] at this
   rw [show ((i : Int) + 1).toNat = i + 1 by omega] at this
   rw [this, ht, List.take_succ_eq_append_getElem hi, List.map_append]
   rfl
theorem toR_f (l : List S183) (hl : l.length ≤ 1048576) : Ev (fun k => laws_toRowS.f k l) (l.map convR) := by
 unfold laws_toRowS.f
 refine ev_pos (by omega) (ev_pos (by omega) ?_)
 exact toR_l0 l (by omega) l.length 0 _ (by omega) (by simp) (by simp)
theorem szCli_f (a b c d : Int) (t : List S183) (l : List S36) (hwt : ∀ e ∈ t, wfXR e) (hlt : t.length ≤ 9223372036854775807) (hw : ∀ e ∈ l, wfX e) (hl : l.length ≤ 9223372036854775807) : ∃ r : Int, Ev (fun k => laws_szClient.f k a b t l c d 1048576) r ∧ (¬ r < 0 → t.length ≤ 1048576 ∧ l.length ≤ 1048576) := by
 obtain ⟨r, h1, h2, h3⟩ := szR_f t hwt hlt
 unfold laws_szClient.f
 by_cases h0 : r < 0
 ·exact ⟨-1, Ev.bind h1 (ev_pos h0 (evnow _)), fun h => absurd (by decide) h⟩
 ·obtain ⟨q, g1, g2⟩ := szE_g l r hw hl (by omega) h2
  by_cases q0 : q < 0
  ·exact ⟨-1, Ev.bind h1 (ev_neg h0 (Ev.bind g1 (ev_pos q0 (evnow _)))), fun h => absurd (by decide) h⟩
  ·exact ⟨q, Ev.bind h1 (ev_neg h0 (Ev.bind g1 (ev_neg q0 (evnow _)))), fun h => ⟨h3 h0, g2 h⟩⟩
theorem toCli_f (a b c d : Int) (t : List S183) (l : List S36) (hlt : t.length ≤ 1048576) (hl : l.length ≤ 1048576) : Ev (fun k => laws_toClient.f k a b t l c d) (a, b, t.map convR, l.map conv, c, d) := by
 unfold laws_toClient.f
 exact Ev.bind (toR_f t hlt) (Ev.bind (toE_f l hl) (evnow _))
theorem eqCli_f (a b c d : Int) (t : List S69) (l : List S44) (hlt : t.length ≤ 1099511627776) (hl : l.length ≤ 1099511627776) : Ev (fun k => laws_eqClient.f k a b t l c d a b t l c d) true := by
 unfold laws_eqClient.f
 exact ev_pos rfl (ev_pos rfl (Ev.bind (eqR t hlt) (ev_pos rfl (Ev.bind (eqE l hl) (ev_pos rfl (ev_pos rfl (ev_pos rfl (evnow _))))))))
theorem FnExactClientOk (a b : Int) (t : List S183) (l : List S36) (c d : Int) (hwt : ∀ e ∈ t, wfXR e) (hlt : t.length ≤ 9223372036854775807) (hw : ∀ e ∈ l, wfX e) (hl : l.length ≤ 9223372036854775807) (_ : I64 a) (hb : I64 b) (hc : I64 c) (_ : I64 d) : ∃ k, laws_FnExactClientOk.f k a b t l c d = some true := by
 suffices h : Ev (fun k => laws_FnExactClientOk.f k a b t l c d) true by obtain ⟨K, h⟩ := h; exact ⟨K, h K (Nat.le_refl K)⟩
 obtain ⟨r, hr, hb2⟩ := szCli_f a b c d t l hwt hlt hw hl
 unfold laws_FnExactClientOk.f
 refine Ev.bind hr ?_
 by_cases h0 : r < 0
 ·exact ev_pos h0 (evnow _)
 ·obtain ⟨n1, n2⟩ := hb2 h0
  have hT := toCli_f a b c d t l n1 n2
  have hW := wf_conv hw
  have hR := wf_convR hwt
  have m1 : (t.map convR).length ≤ 1048576 := by rw [List.length_map]; exact n1
  have m2 : (l.map conv).length ≤ 1048576 := by rw [List.length_map]; exact n2
  have hs := scli_f a b c d (t.map convR) (l.map conv) hW (by omega) (by omega) hR hb hc
  have hi := icli_f a b c d (t.map convR) (l.map conv) hW (by omega)
  have he := eqCli_f a b c d (t.map convR) (l.map conv) (by omega) (by omega)
  exact ev_neg h0 (Ev.bind hT (Ev.bind hs (Ev.bind hT (Ev.bind hi (ev_neg (by simp) (Ev.bind hT (Ev.bind he (ev_pos rfl (evnow _)))))))))
end Go.Proofs.YtdpklbomhdpimaaDoor.PL
namespace Go.Proofs.YtdpklbomhdpimaaDoor.P
open Go.ChangeShapes Go.WideShapes Go.ChangeAt Go.RowKit
theorem tOwners : (Tryd.prog.globals[0]?).map (·.type) = some 126 := by kernel_rfl
theorem cOwners : Tryd.prog.cellsOf 126 = 37 := by kernel_rfl
theorem cInt : Tryd.prog.cellsOf 3 = 1 := by kernel_rfl
abbrev ownCells : Array Value := (owners.map fun z => Value.int .i64 z).toArray
theorem glob_of_laid {W : World} (h : laidMet Tryd.prog [("loop.example/plashet/impl.rowOwners", Rows.laid_loop_example_plashet_impl_rowOwners)] W) : Glob W :=
 Lib.tabIs_of_head gOwners tOwners Tryd.underlying126 Tryd.underlying3 cInt cOwners h
theorem door_met (os : Os) (args : Array Value) : laidMet Tryd.prog [("loop.example/plashet/impl.rowOwners", Rows.laid_loop_example_plashet_impl_rowOwners)] ((World.doorLaid Tryd.prog 400 os).forCall (fun _ _ => 0) ⟨#[], args, []⟩).memory :=
 laidMet_of_run' 8 (by kernel_rfl) (by kernel_rfl)
abbrev tableH {H : Type} : DataW H := .agg (owners.map fun z => .lit (.int .i64 z))
theorem reads_table {H : Type} (enc : TypeId × Value → H) (W : World) (sp : Nat → Bool) : DataW.trod enc Tryd.prog W 0 sp true 3 126 ownCells.toList = some (tableH, []) := by kernel_rfl
theorem tab_vars {H : Type} (enc : TypeId × Value → H) {W : World} (h : Glob W) {sp : Nat → Bool} : DataW.TrodVars enc Tryd.prog W sp ["loop.example/plashet/impl.rowOwners"] [tableH] (MemPlace.row ⟨0, 0, none⟩ ownCells.size ++ [] ++ []) :=
 ⟨0, 126, ownCells, 3, [], [], gOwners, tOwners, h, reads_table enc W sp, rfl, rfl⟩
end Go.Proofs.YtdpklbomhdpimaaDoor.P
namespace Go.Proofs.YtdpklbomhdpimaaDoor.PL
set_option maxRecDepth 100000
open Go.ChangeShapes Go.WideShapes Go.ChangeAt Go.RowKit Go.Deep Go.Joins Go.Proofs.YtdpklbomhdpimaaDoor.P Go.Proofs.YtdpklbomhdpimaaDoorW.PrintWords Go.Proofs.YtdpklbomhdpimaaDoorW.PrintLast
section
variable {H : Type} {enc : TypeId × Value → H} {w : World} {base : Nat} {sp : Nat → Bool} {held : Bool}
theorem cO : Tryd.prog.cellsOf 34 = 5 := by kernel_rfl
theorem cX : Tryd.prog.cellsOf 36 = 7 := by kernel_rfl
theorem cS : Tryd.prog.cellsOf 9 = 1 := by kernel_rfl
theorem i64_of {n : Int} (h : (Lit.int .i64 n).wf = true) : I64 n := by
 simp only [Lit.wf, Bool.and_eq_true, decide_eq_true_eq] at h
 obtain ⟨h1, h2⟩ := h
 exact ⟨h1, h2⟩
theorem fld_int {n o : Nat} {cs : List Value} {y : DataW H × List MemPlace} (h : DataW.trod enc Tryd.prog w base sp held n 3 ((cs.drop o).take (Tryd.prog.cellsOf 3)) = some y) : ∃ a : Int, cs[o]? = some (.int .i64 a) ∧ I64 a := by
 obtain ⟨a, e, _, hw⟩ := DataW.trod_int Tryd.underlying3 h
 refine ⟨a, ?_, i64_of hw⟩
 rw [cInt] at e
 have := congrArg (·[0]?) e
 simpa [List.getElem?_take, List.getElem?_drop] using this
theorem fld_str {n o : Nat} {cs : List Value} {y : DataW H × List MemPlace} (h : DataW.trod enc Tryd.prog w base sp held n 9 ((cs.drop o).take (Tryd.prog.cellsOf 9)) = some y) : ∃ s : ByteArray, cs[o]? = some (.string s) ∧ s.size ≤ 9223372036854775807 := by
 obtain ⟨s, e, _, hw⟩ := DataW.trod_string Tryd.underlying9 h
 refine ⟨s, ?_, hw⟩
 rw [cS] at e
 have := congrArg (·[0]?) e
 simpa [List.getElem?_take, List.getElem?_drop] using this
theorem open_op {fuel : Nat} {cs : List Value} {y : DataW H × List MemPlace} (h : DataW.trod enc Tryd.prog w base sp held fuel 34 cs = some y) :
  ∃ (a b c d : Int) (s : ByteArray), cs = [.int .i64 a, .int .i64 b, .int .i64 c, .int .i64 d, .string s] ∧ I64 a ∧ I64 b ∧ I64 c ∧ I64 d ∧ s.size ≤ 9223372036854775807 := by
 obtain ⟨xs, n, _, _, hl, hlen, hf⟩ := DataW.trod_struct Tryd.underlying34 h
 rw [cO] at hl
 match xs, hlen, hf with
 | [y0, y1, y2, y3, y4], _, hf =>
  obtain ⟨a, e0, w0⟩ := fld_int (o := 0) (hf 0 _ rfl)
  obtain ⟨b, e1, w1⟩ := fld_int (o := 1) (hf 1 _ rfl)
  obtain ⟨c, e2, w2⟩ := fld_int (o := 2) (hf 2 _ rfl)
  obtain ⟨d, e3, w3⟩ := fld_int (o := 3) (hf 3 _ rfl)
  obtain ⟨s, e4, w4⟩ := fld_str (o := 4) (hf 4 _ rfl)
  match cs, hl, e0, e1, e2, e3, e4 with
  | [c0, c1, c2, c3, c4], _, e0, e1, e2, e3, e4 =>
   simp only [List.getElem?_cons_zero, List.getElem?_cons_succ, Option.some.injEq] at e0 e1 e2 e3 e4
   subst e0 e1 e2 e3 e4
   exact ⟨a, b, c, d, s, rfl, w0, w1, w2, w3, w4⟩
theorem open_entry {fuel : Nat} {cs : List Value} {y : DataW H × List MemPlace} (h : DataW.trod enc Tryd.prog w base sp held fuel 36 cs = some y) :
  ∃ e : S36, cs = [.int .i64 e.f0, .int .i64 e.f1, .int .i64 e.f2.f0, .int .i64 e.f2.f1, .int .i64 e.f2.f2, .int .i64 e.f2.f3, .string e.f2.f4] ∧ wfX e := by
 obtain ⟨xs, n, _, _, hl, hlen, hf⟩ := DataW.trod_struct Tryd.underlying36 h
 rw [cX] at hl
 match xs, hlen, hf with
 | [y0, y1, y2], _, hf =>
  obtain ⟨a, e0, w0⟩ := fld_int (o := 0) (hf 0 _ rfl)
  obtain ⟨b, e1, w1⟩ := fld_int (o := 1) (hf 1 _ rfl)
  have h2 : DataW.trod enc Tryd.prog w base sp held n 34 ((cs.drop 2).take (Tryd.prog.cellsOf 34)) = some y2 := hf 2 _ rfl
  obtain ⟨o0, o1, o2, o3, s, e2, u0, u1, u2, u3, u4⟩ := open_op h2
  rw [cO] at e2
  match cs, hl, e0, e1, e2 with
  | [c0, c1, c2, c3, c4, c5, c6], _, e0, e1, e2 =>
   simp only [List.getElem?_cons_zero, List.getElem?_cons_succ, Option.some.injEq] at e0 e1
   subst e0 e1
   simp only [List.drop_succ_cons, List.drop_zero, List.take_succ_cons, List.take_zero, List.cons.injEq, and_true] at e2
   obtain ⟨rfl, rfl, rfl, rfl, rfl⟩ := e2
   exact ⟨⟨a, b, ⟨o0, o1, o2, o3, s⟩⟩, rfl, w0, w1, u0, u1, u2, u3, u4⟩
theorem list_of_all {α : Type} (P : Nat → α → Prop) : ∀ n : Nat, (∀ i, i < n → ∃ e, P i e) → ∃ l : List α, l.length = n ∧ ∀ i e, l[i]? = some e → P i e
 | 0, _ => ⟨[], rfl, fun i e h => by simp at h⟩
 | n + 1, h => by
  obtain ⟨l, hl, hp⟩ := list_of_all P n (fun i hi => h i (by omega))
  obtain ⟨e, he⟩ := h n (by omega)
  refine ⟨l ++ [e], by simp [hl], fun i x hx => ?_⟩
  rcases Nat.lt_or_ge i l.length with hi | hi
  ·rw [List.getElem?_append_left hi] at hx
   exact hp i x hx
  ·rw [List.getElem?_append_right hi] at hx
   have h0 : i - l.length = 0 := by
    rcases Nat.eq_zero_or_pos (i - l.length) with h0 | h0
    ·exact h0
    ·rw [List.getElem?_eq_none (by simp; omega)] at hx
     cases hx
   rw [h0] at hx
   simp only [List.getElem?_cons_zero, Option.some.injEq] at hx
   subst hx
   rw [show i = n by omega]
   exact he
theorem open_entries {fuel : Nat} {cs : List Value} {y : DataW H × List MemPlace} (h : DataW.trod enc Tryd.prog w base sp held fuel 30 cs = some y) :
  ∃ (A : Option Addr) (cap : Nat) (l : List S36), cs = [.slice A l.length cap] ∧ Kd.C k36 w A l.length l ∧ l.length ≤ cap ∧ l.length ≤ 9223372036854775807 ∧ ∀ e ∈ l, wfX e := by
 rcases open_slice Tryd.underlying30 h with ⟨rfl, _⟩ | ⟨a, len, cap, m, n, D, Pl, rfl, _, hl, hm, hmm, _, hel⟩
 ·exact ⟨none, 0, [], rfl, Kd.C_nil _ _, by simp, by simp, fun e he => by cases he⟩
 ·have hlm : len ≤ m := by rw [hmm]; split <;> omega
  obtain ⟨l, hlen, hp⟩ := list_of_all (fun i (e : S36) => wfX e ∧ w.cells? base (a.add (i * 7)) 7 = some [.int .i64 e.f0, .int .i64 e.f1, .int .i64 e.f2.f0, .int .i64 e.f2.f1, .int .i64 e.f2.f2, .int .i64 e.f2.f3, .string e.f2.f4]) len (fun i hi => by
   obtain ⟨cs', hc, hd⟩ := hel i (by omega)
   obtain ⟨e, rfl, hw⟩ := open_entry hd
   rw [cX] at hc
   exact ⟨e, hw, hc⟩)
  have hmx : cap ≤ 9223372036854775807 := hm
  refine ⟨some a, cap, l, by rw [hlen], ⟨rfl, by omega, fun _ => ⟨a, rfl, fun j p hj => ?_⟩⟩, by omega, by omega, fun e he => ?_⟩
  ·obtain ⟨_, hc⟩ := hp j p hj
   refine ⟨_, rfl, k36_mk w p, fun i u hu => ?_⟩
   obtain ⟨_, hlc, hc2⟩ := World.cells?_some hc
   have hi : i < 7 := by
    rcases Nat.lt_or_ge i 7 with hi | hi
    ·exact hi
    ·rw [List.getElem?_eq_none (by rw [hlc]; exact hi)] at hu
     cases hu
   have := hc2 i hi
   rw [hu] at this
   show w.cell? (a.add (j * 7 + i)) = some u
   rw [← this]
   congr 1
   generalize j * 7 = x
   unfold Addr.add
   by_cases h1 : x = 0 <;> by_cases h2 : i = 0 <;> simp [h1, h2, Nat.add_assoc]
  ·obtain ⟨i, hi, rfl⟩ := List.getElem_of_mem he
   exact (hp i _ (List.getElem?_eq_getElem hi)).1
theorem cR : Tryd.prog.cellsOf 183 = 3 := by kernel_rfl
theorem open_row {fuel : Nat} {cs : List Value} {y : DataW H × List MemPlace} (h : DataW.trod enc Tryd.prog w base sp held fuel 183 cs = some y) :
  ∃ e : S183, cs = [.int .i64 e.f0, .int .i64 e.f1, .string e.f2] ∧ wfXR e := by
 obtain ⟨xs, n, _, _, hl, hlen, hf⟩ := DataW.trod_struct Tryd.underlying183 h
 rw [cR] at hl
 match xs, hlen, hf with
 | [y0, y1, y2], _, hf =>
  obtain ⟨a, e0, w0⟩ := fld_int (o := 0) (hf 0 _ rfl)
  obtain ⟨b, e1, w1⟩ := fld_int (o := 1) (hf 1 _ rfl)
  obtain ⟨s, e2, w2⟩ := fld_str (o := 2) (hf 2 _ rfl)
  match cs, hl, e0, e1, e2 with
  | [c0, c1, c2], _, e0, e1, e2 =>
   simp only [List.getElem?_cons_zero, List.getElem?_cons_succ, Option.some.injEq] at e0 e1 e2
   subst e0 e1 e2
   exact ⟨⟨a, b, s⟩, rfl, w0, w1, w2⟩
theorem open_rowsL {fuel : Nat} {cs : List Value} {y : DataW H × List MemPlace} (h : DataW.trod enc Tryd.prog w base sp held fuel 83 cs = some y) :
  ∃ (A : Option Addr) (cap : Nat) (l : List S183), cs = [.slice A l.length cap] ∧ Kd.C k183 w A l.length l ∧ l.length ≤ cap ∧ l.length ≤ 9223372036854775807 ∧ ∀ e ∈ l, wfXR e := by
 rcases open_slice Tryd.underlying83 h with ⟨rfl, _⟩ | ⟨a, len, cap, m, n, D, Pl, rfl, _, hl, hm, hmm, _, hel⟩
 ·exact ⟨none, 0, [], rfl, Kd.C_nil _ _, by simp, by simp, fun e he => by cases he⟩
 ·have hlm : len ≤ m := by rw [hmm]; split <;> omega
  obtain ⟨l, hlen, hp⟩ := list_of_all (fun i (e : S183) => wfXR e ∧ w.cells? base (a.add (i * 3)) 3 = some [.int .i64 e.f0, .int .i64 e.f1, .string e.f2]) len (fun i hi => by
   obtain ⟨cs', hc, hd⟩ := hel i (by omega)
   obtain ⟨e, rfl, hw⟩ := open_row hd
   rw [cR] at hc
   exact ⟨e, hw, hc⟩)
  have hmx : cap ≤ 9223372036854775807 := hm
  refine ⟨some a, cap, l, by rw [hlen], ⟨rfl, by omega, fun _ => ⟨a, rfl, fun j p hj => ?_⟩⟩, by omega, by omega, fun e he => ?_⟩
  ·obtain ⟨_, hc⟩ := hp j p hj
   refine ⟨_, rfl, k183_mk w p, fun i u hu => ?_⟩
   obtain ⟨_, hlc, hc2⟩ := World.cells?_some hc
   have hi : i < 3 := by
    rcases Nat.lt_or_ge i 3 with hi | hi
    ·exact hi
    ·rw [List.getElem?_eq_none (by rw [hlc]; exact hi)] at hu
     cases hu
   have := hc2 i hi
   rw [hu] at this
   show w.cell? (a.add (j * 3 + i)) = some u
   rw [← this]
   congr 1
   generalize j * 3 = x
   unfold Addr.add
   by_cases h1 : x = 0 <;> by_cases h2 : i = 0 <;> simp [h1, h2, Nat.add_assoc]
  ·obtain ⟨i, hi, rfl⟩ := List.getElem_of_mem he
   exact (hp i _ (List.getElem?_eq_getElem hi)).1
theorem cCl : Tryd.prog.cellsOf 85 = 6 := by kernel_rfl
theorem cRs : Tryd.prog.cellsOf 83 = 1 := by kernel_rfl
theorem cXs : Tryd.prog.cellsOf 30 = 1 := by kernel_rfl
theorem open_clientL {fuel : Nat} {cs : List Value} {y : DataW H × List MemPlace} (h : DataW.trod enc Tryd.prog w base sp held fuel 85 cs = some y) :
  ∃ (a b : Int) (A0 : Option Addr) (c0 : Nat) (t : List S183) (A1 : Option Addr) (c1 : Nat) (l : List S36) (c d : Int), cs = [.int .i64 a, .int .i64 b, .slice A0 t.length c0, .slice A1 l.length c1, .int .i64 c, .int .i64 d] ∧ I64 a ∧ I64 b ∧ I64 c ∧ I64 d ∧
   (Kd.C k183 w A0 t.length t ∧ t.length ≤ c0 ∧ t.length ≤ 9223372036854775807 ∧ ∀ e ∈ t, wfXR e) ∧ (Kd.C k36 w A1 l.length l ∧ l.length ≤ c1 ∧ l.length ≤ 9223372036854775807 ∧ ∀ e ∈ l, wfX e) := by
 obtain ⟨xs, n, _, _, hl, hlen, hf⟩ := DataW.trod_struct Tryd.underlying85 h
 rw [cCl] at hl
 match xs, hlen, hf with
 | [y0, y1, y2, y3, y4, y5], _, hf =>
  obtain ⟨a, e0, w0⟩ := fld_int (o := 0) (hf 0 _ rfl)
  obtain ⟨b, e1, w1⟩ := fld_int (o := 1) (hf 1 _ rfl)
  have h2 : DataW.trod enc Tryd.prog w base sp held n 83 ((cs.drop 2).take (Tryd.prog.cellsOf 83)) = some y2 := hf 2 _ rfl
  have h3 : DataW.trod enc Tryd.prog w base sp held n 30 ((cs.drop 3).take (Tryd.prog.cellsOf 30)) = some y3 := hf 3 _ rfl
  obtain ⟨A0, c0, t, e2, q0, q1, q2, q3⟩ := open_rowsL h2
  obtain ⟨A1, c1, l, e3, r0, r1, r2, r3⟩ := open_entries h3
  obtain ⟨c, e4, w4⟩ := fld_int (o := 4) (hf 4 _ rfl)
  obtain ⟨d, e5, w5⟩ := fld_int (o := 5) (hf 5 _ rfl)
  rw [cRs] at e2
  rw [cXs] at e3
  match cs, hl, e0, e1, e2, e3, e4, e5 with
  | [x0, x1, x2, x3, x4, x5], _, e0, e1, e2, e3, e4, e5 =>
   simp only [List.getElem?_cons_zero, List.getElem?_cons_succ, Option.some.injEq] at e0 e1 e4 e5
   simp only [List.drop_succ_cons, List.drop_zero, List.take_succ_cons, List.take_zero, List.cons.injEq, and_true] at e2 e3
   subst e0 e1 e2 e3 e4 e5
   exact ⟨a, b, A0, c0, t, A1, c1, l, c, d, rfl, w0, w1, w4, w5, ⟨q0, q1, q2, q3⟩, r0, r1, r2, r3⟩
theorem open_clientV {v : Value} {dd : DataW H} {p : List MemPlace} (hv : Value.okWide Tryd.prog w .any base 85 v) (h : DataW.Trod enc Tryd.prog w 0 sp held 85 v dd p) :
  ∃ (a b : Int) (A0 : Option Addr) (c0 : Nat) (t : List S183) (A1 : Option Addr) (c1 : Nat) (l : List S36) (c d : Int), v = .agg #[.int .i64 a, .int .i64 b, .slice A0 t.length c0, .slice A1 l.length c1, .int .i64 c, .int .i64 d] ∧ I64 a ∧ I64 b ∧ I64 c ∧ I64 d ∧
   (Kd.C k183 w A0 t.length t ∧ t.length ≤ c0 ∧ t.length ≤ 9223372036854775807 ∧ ∀ e ∈ t, wfXR e) ∧ (Kd.C k36 w A1 l.length l ∧ l.length ≤ c1 ∧ l.length ≤ 9223372036854775807 ∧ ∀ e ∈ l, wfX e) := by
 obtain ⟨cs, rfl, hsz⟩ := okWide_struct Tryd.underlying85 hv
 obtain ⟨fuel, hf⟩ := h
 obtain ⟨a, b, A0, c0, t, A1, c1, l, c, d, he, w0, w1, w2, w3, hR, hE⟩ := open_clientL hf
 refine ⟨a, b, A0, c0, t, A1, c1, l, c, d, ?_, w0, w1, w2, w3, hR, hE⟩
 have he' : cs.toList = [.int .i64 a, .int .i64 b, .slice A0 t.length c0, .slice A1 l.length c1, .int .i64 c, .int .i64 d] := he
 rw [show cs = cs.toList.toArray by simp, he']
end
end Go.Proofs.YtdpklbomhdpimaaDoor.PL
namespace Go.Proofs.YtdpklbomhdpimaaDoor.fnExactClientOk
open Go.ChangeMaps (open_string shut_string)
open Go.ChangeShapes Go.WideShapes Go.ChangeAt Go.RowKit
theorem own : ownKnob Tryd.prog.godebug = none := by kernel_rfl
theorem laidOut : laidOutB Tryd.prog = true := by kernel_rfl
set_option maxRecDepth 100000 in
theorem lifted (os : Os) (started : os.Started) (H : Type) (enc : TypeId × Value → H) :
  ReturnsInHanded {} Tryd.checked os 13 .any (fun w args => (Rows.fnExactClientOkSpec.pre enc Tryd.prog Tryd.f13 [] false w args ∧ laidMet Tryd.prog [("loop.example/plashet/impl.rowOwners", Rows.laid_loop_example_plashet_impl_rowOwners)] w) ∧ sizedMet enc Tryd.prog Tryd.f13 (OpenSpec.ofChange Rows.fnExactClientOkSpec) false w args) (Rows.fnExactClientOkSpec.post enc Tryd.prog Tryd.f13 false true false false) := by
 refine returnsInHanded_of_change_and (C := Tryd.checked) (X := fun w _ => laidMet Tryd.prog [("loop.example/plashet/impl.rowOwners", Rows.laid_loop_example_plashet_impl_rowOwners)] w) (fun _ _ _ hh h => h.of_heap hh) own started (by kernel_rfl) Tryd.func13
  (ChangeSpec.witness_shaped (enc := enc) (C := Tryd.checked) (os := os) (X := fun w _ => laidMet Tryd.prog [("loop.example/plashet/impl.rowOwners", Rows.laid_loop_example_plashet_impl_rowOwners)] w) false (World.doorLaid Tryd.prog 400 os) #[.agg #[.int .i64 0, .int .i64 0, .slice none 0 0, .slice none 0 0, .int .i64 0, .int .i64 0]] 8 rfl (World.shaped_of_RefB (by kernel_rfl) (by kernel_rfl)) (by kernel_rfl) (by kernel_rfl) (by kernel_rfl) (P.door_met os _)) ?_
 intro W base args ds gs before hval0 hW _ _ hL _
 have hval : ∀ (j : Nat) t v, Tryd.f13.params[j]? = some t → args[j]? = some v → Value.okWide Tryd.prog W .any base t v := hval0
 have hW' := hW
 obtain ⟨p, q, hA0, hV, rfl, hfz, hnd⟩ := hW
 have hA : DataW.TrodAll enc Tryd.prog W 0 (fun _ => true) true Tryd.f13.params.toList args.toList ds p := hA0
 rw [Tryd.params13] at hA hval
 obtain ⟨v0, vs0, d0, ds0, p0, q0, hargs, rfl, rfl, h0, r0⟩ := trodAll_cons hA
 obtain ⟨rfl, rfl, rfl⟩ := trodAll_nil r0
 obtain rfl : args = #[v0] := by cases args; simp_all
 have hG : P.Glob W := P.glob_of_laid hL
 obtain ⟨gv, tv, csv, fuelv, dv, pv, rfl, hgv, htv, hvarv, hdv, rfl⟩ := trodVars_one hV
 obtain rfl : csv = P.ownCells := Option.some.inj (hvarv.symm.trans hG)
 obtain rfl := Option.some.inj (P.tOwners.symm.trans (by rw [Option.some.inj (P.gOwners.symm.trans hgv)]; exact htv))
 obtain ⟨rfl, rfl⟩ := DataW.Trod.unique (v := .agg P.ownCells) ⟨fuelv, hdv⟩ ⟨3, P.reads_table enc W _⟩
 have k0 := h0
 have lt0 : ∀ x ∈ p0, x.block < W.heap.size := by obtain ⟨m, hm⟩ := k0; exact DataW.trod_lt m _ _ _ hm
 obtain ⟨a0, b0, A0, c0, t0, B0, e0, l0, m0, n0, rfl, wa0, wb0, wm0, wn0, ⟨hC0, hc0, hT0, hx0⟩, hD0, hd0, hL0, hw0⟩ := PL.open_clientV (hval 0 85 v0 rfl rfl) h0
 clear hA0 hval0
 obtain ⟨k, hk⟩ := PL.FnExactClientOk a0 b0 t0 l0 m0 n0 hx0 hT0 hw0 hL0 wa0 wb0 wm0 wn0
 refine (P.laws_FnExactClientOk.calls k a0 b0 _ _ t0 _ _ l0 m0 n0 true W hC0 hc0 hD0 hd0 hk hG).mono fun e W' ⟨he, bel⟩ => ?_
 subst he
 exact ⟨_, rfl, _, _, _, _, _, _, hW', trodAll_mk1 (shut_bool Tryd.underlying4 _), (trodAll_cons_mk (Below.trod laidOut (by kernel_rfl) (of_decide_eq_true (by kernel_rfl)) k0 bel lt0) trodAll_mk0), P.tab_vars enc (hG.below bel), bel.frame _, fun h => by cases h⟩
theorem proved : Rows.FnExactClientOkSaid :=
 OpenClaim.holds_of_wide 13 Tryd.f13 rfl rfl rfl rfl rfl rfl rfl ⟨rfl, rfl, rfl, rfl, rfl⟩ rfl rfl rfl rfl rfl (by kernel_rfl) Tryd.func13 (by kernel_rfl)
  (of_decide_eq_true (by kernel_rfl)) (by unfold Func.isWrapper; first | (rw [if_pos (by decide +kernel)]; kernel_rfl) | (rw [if_neg (by decide +kernel)]; exact ⟨rfl, rfl⟩))
  (fun os started H enc _ => lifted os started H enc)
end Go.Proofs.YtdpklbomhdpimaaDoor.fnExactClientOk
namespace Go.Proofs.YtdpklbomhdpimaaDoor
theorem fnExactClientOk_holds : Rows.FnExactClientOkSaid := fnExactClientOk.proved
end Go.Proofs.YtdpklbomhdpimaaDoor
namespace Go.Proofs.YtdpklbomhdpimaaDoor
open Go
theorem fnExactClientOkCard_holds : Rows.FnExactClientOkCardSaid :=
 Claim7.holds_tied_plain_at .later [] [.data] true (true, "7cf51d42195f9c9b62136c7a8c7100de8c719db44b2d768f6f24e257b781f613") true
  fnExactClientOk_holds (fun _ h => by cases h) (by kernel_rfl) (fun _ h => by cases h) fnExactClientOk_row_tie rfl ⟨rfl, rfl⟩ (by kernel_rfl) rfl
  (fun f fn hf hfn => by
   obtain rfl : f = 13 := Option.some.inj ((show Tryd.prog.funcNamed "loop.example/plashet/laws.FnExactClientOk" = some 13 by kernel_rfl).symm.trans hf) |>.symm
   obtain rfl : fn = Tryd.f13 := (Option.some.inj (Tryd.func13.symm.trans hfn)).symm
   exact ⟨by kernel_rfl, fun j t ht => by
    rw [Tryd.params13] at ht
    have hm : t ∈ [85] := by have := Array.mem_of_getElem? ht; simp at this; first | (subst this; simp; done) | (rcases this with h | h <;> simp [h]; done) | (rcases this with h | h | h <;> simp [h]; done)
    have hall : ([85].all fun u => !Tryd.prog.wantsStandIn u) = true := by kernel_rfl
    exact (show Tryd.prog.wantsStandIn t = false by simpa using List.all_eq_true.1 hall t hm)⟩)
  (by kernel_rfl)
#print axioms fnExactClientOkCard_holds
end Go.Proofs.YtdpklbomhdpimaaDoor
