/- Joined by a program (wip/shake.py): the declarations that 'YtdpklbomhdpimaaDoorCardFnExactClientOk' reaches. -/
import Derived.Test.YtdpklbomhdpimaaDoorZLf0
set_option linter.unusedVariables false
set_option linter.unusedSimpArgs false
set_option linter.unusedSectionVars false
namespace Go.Proofs.YtdpklbomhdpimaaDoor.FP
open Go.Proofs.YtdpklbomhdpimaaDoor.P
inductive Fo where
 | nil
 | nd (i : Nat) (t : ByteArray) (k n : Fo)
structure Nd where
 t : ByteArray
 up : Nat
 first : Nat
 next : Nat
def Fo.hd : Fo → Nat
 | .nil => 0
 | .nd i _ _ _ => i
def Fo.ids : Fo → List Nat
 | .nil => []
 | .nd i _ k n => i :: (k.ids ++ n.ids)
def Fo.tops : Fo → List Nat
 | .nil => []
 | .nd i _ _ n => i :: n.tops
def Rep (h : Nat → Nd) (up : Nat) : Fo → Prop
 | .nil => True
 | .nd i t k n => i ≠ 0 ∧ h i = ⟨t, up, k.hd, n.hd⟩ ∧ Rep h i k ∧ Rep h up n
def sub (x : Nat) : Fo → Fo
 | .nil => .nil
 | .nd j u k n => if j = x then k else if x ∈ k.ids then sub x k else sub x n
theorem nodup_nd {j : Nat} {u : ByteArray} {k n : Fo} (h : (Fo.nd j u k n).ids.Nodup) : j ∉ k.ids ∧ j ∉ n.ids ∧ k.ids.Nodup ∧ n.ids.Nodup ∧ (∀ x ∈ k.ids, x ∉ n.ids) := by
 simp only [Fo.ids, List.nodup_cons, List.nodup_append, List.mem_append, not_or] at h
 exact ⟨h.1.1, h.1.2, h.2.1, h.2.2.1, fun x hx hn => h.2.2.2 x hx x hn rfl⟩
def RepTop (h : Nat → Nd) : Fo → Prop
 | .nil => True
 | .nd i t k n => i ≠ 0 ∧ h i = ⟨t, 0, k.hd, 0⟩ ∧ Rep h i k ∧ RepTop h n
theorem tops_ids : ∀ {F : Fo} {x : Nat}, x ∈ F.tops → x ∈ F.ids
 | .nil, x, h => by cases h
 | .nd j t k n, x, h => by
  simp only [Fo.tops, List.mem_cons] at h
  simp only [Fo.ids, List.mem_cons, List.mem_append]
  rcases h with h | h
  ·exact Or.inl h
  ·exact Or.inr (Or.inr (tops_ids h))
def sp : Nat → Fo → Nat
 | _, .nil => 0
 | 0, .nd i _ _ .nil => i
 | e + 1, .nd _ _ k .nil => sp e k
 | e, .nd _ _ _ (.nd i t k n) => sp e (.nd i t k n)
end Go.Proofs.YtdpklbomhdpimaaDoor.FP
namespace Go.Proofs.YtdpklbomhdpimaaDoor.P
open Go.RowKit Go.Proofs.YtdpklbomhdpimaaDoorW.PrintWords Go.Proofs.YtdpklbomhdpimaaDoorW.PrintLast Go.Proofs.YtdpklbomhdpimaaDoorW.PrintMore Go.Proofs.YtdpklbomhdpimaaDoor.FP
def pa (o : Option Nat) : Option Addr := o.map fun b => ⟨b, 0, none⟩
theorem pa_some (b : Nat) : pa (some b) = some ⟨b, 0, none⟩ := rfl
def nodeC (A : Nat → Option Nat) (i : Nat) (x : Nd) : Array Value := #[.int .i64 (i : Int), .string x.t, .pointer (pa (A x.up)), .pointer (pa (A x.first)), .pointer (pa (A x.next))]
def tabC (A : Nat → Option Nat) : Array Value := ((List.range 37).map fun i => Value.pointer (pa (A i))).toArray
structure Mem (w : World) (n0 F : Nat) (A : Nat → Option Nat) (h : Nat → Nd) : Prop where
 z : A 0 = none
 rng : ∀ i b, A i = some b → i < 37
 inj : ∀ i j b, A i = some b → A j = some b → i = j
 ne : ∀ i b, A i = some b → b ≠ F
 lo : ∀ i b, A i = some b → n0 ≤ b
 loF : n0 ≤ F
 tab : w.heap[F]? = some (.cells (tabC A) 165 (0, 0))
 nod : ∀ i b, A i = some b → w.heap[b]? = some (.cells (nodeC A i (h i)) 168 (0, 0))
 cu : ∀ i, A i ≠ none → (h i).up = 0 ∨ A (h i).up ≠ none
 cf : ∀ i, A i ≠ none → (h i).first = 0 ∨ A (h i).first ≠ none
 cn : ∀ i, A i ≠ none → (h i).next = 0 ∨ A (h i).next ≠ none
theorem Mem.kept {w w' : World} {n0 F : Nat} {A : Nat → Option Nat} {h : Nat → Nd} (m : Mem w n0 F A h) (hk : ∀ b, b < w.heap.size → w'.heap[b]? = w.heap[b]?) : Mem w' n0 F A h :=
 { m with tab := (hk F (blk_lt m.tab)).trans m.tab, nod := fun i b e => (hk b (blk_lt (m.nod i b e))).trans (m.nod i b e) }
theorem Mem.below {w w' : World} {n0 F : Nat} {A : Nat → Option Nat} {h : Nat → Nd} (m : Mem w n0 F A h) (hb : Below w.heap.size w w') : Mem w' n0 F A h := m.kept fun b hl => hb.block b hl
theorem Mem.alloc {w : World} {n0 F : Nat} {A : Nat → Option Nat} {h : Nat → Nd} (m : Mem w n0 F A h) (o : Obj) : Mem (w.alloc o) n0 F A h := m.kept fun b hl => Below.heap_alloc w o b hl
theorem Mem.drew {w : World} {n0 F : Nat} {A : Nat → Option Nat} {h : Nat → Nd} (m : Mem w n0 F A h) : Mem w.drew n0 F A h := m.kept fun _ _ => rfl
theorem Mem.drewN {w : World} {n0 F : Nat} {A : Nat → Option Nat} {h : Nat → Nd} (m : Mem w n0 F A h) (n : Nat) : Mem (w.drewN n) n0 F A h := m.kept fun _ _ => rfl
theorem Mem.lt {w : World} {n0 F : Nat} {A : Nat → Option Nat} {h : Nat → Nd} (m : Mem w n0 F A h) {i b : Nat} (e : A i = some b) : b < w.heap.size := blk_lt (m.nod i b e)
theorem Mem.c0 {w : World} {n0 F : Nat} {A : Nat → Option Nat} {h : Nat → Nd} (m : Mem w n0 F A h) {i b : Nat} (e : A i = some b) : w.cell? ⟨b, 0, none⟩ = some (.int .i64 (i : Int)) := (blk_cell (m.nod i b e) 0).trans rfl
theorem Mem.c1 {w : World} {n0 F : Nat} {A : Nat → Option Nat} {h : Nat → Nd} (m : Mem w n0 F A h) {i b : Nat} (e : A i = some b) : w.cell? ⟨b, 1, none⟩ = some (.string (h i).t) := (blk_cell (m.nod i b e) 1).trans rfl
theorem Mem.c2 {w : World} {n0 F : Nat} {A : Nat → Option Nat} {h : Nat → Nd} (m : Mem w n0 F A h) {i b : Nat} (e : A i = some b) : w.cell? ⟨b, 2, none⟩ = some (.pointer (pa (A (h i).up))) := (blk_cell (m.nod i b e) 2).trans rfl
theorem Mem.c3 {w : World} {n0 F : Nat} {A : Nat → Option Nat} {h : Nat → Nd} (m : Mem w n0 F A h) {i b : Nat} (e : A i = some b) : w.cell? ⟨b, 3, none⟩ = some (.pointer (pa (A (h i).first))) := (blk_cell (m.nod i b e) 3).trans rfl
theorem Mem.c4 {w : World} {n0 F : Nat} {A : Nat → Option Nat} {h : Nat → Nd} (m : Mem w n0 F A h) {i b : Nat} (e : A i = some b) : w.cell? ⟨b, 4, none⟩ = some (.pointer (pa (A (h i).next))) := (blk_cell (m.nod i b e) 4).trans rfl
theorem tabC_get (A : Nat → Option Nat) (i : Nat) (hi : i < 37) : (tabC A)[i]? = some (.pointer (pa (A i))) := by
 simp [tabC, hi]
theorem Mem.cF {w : World} {n0 F : Nat} {A : Nat → Option Nat} {h : Nat → Nd} (m : Mem w n0 F A h) (i : Nat) (hi : i < 37) : w.cell? ⟨F, i, none⟩ = some (.pointer (pa (A i))) := (blk_cell m.tab i).trans (tabC_get A i hi)
def upN (h : Nat → Nd) (i : Nat) (x : Nd) : Nat → Nd := fun j => if j = i then x else h j
theorem Mem.set {w : World} {n0 F : Nat} {A : Nat → Option Nat} {h : Nat → Nd} (m : Mem w n0 F A h) {i b : Nat} (e : A i = some b) (k : Nat) (v : Value) (x : Nd) (hx : (nodeC A i (h i)).setIfInBounds k v = nodeC A i x)
  (xu : x.up = 0 ∨ A x.up ≠ none) (xf : x.first = 0 ∨ A x.first ≠ none) (xn : x.next = 0 ∨ A x.next ≠ none) : Mem (w.setCell ⟨b, k, none⟩ v) n0 F A (upN h i x) where
 z := m.z
 rng := m.rng
 inj := m.inj
 ne := m.ne
 lo := m.lo
 loF := m.loF
 tab := blk_far m.tab (fun e2 => m.ne i b e e2.symm) v
 nod := fun j c ec => by
  unfold upN
  by_cases hj : j = i
  ·subst hj
   obtain rfl : c = b := by rw [e] at ec; exact (Option.some.inj ec).symm
   rw [if_pos rfl, ← hx]
   exact blk_set (m.nod j c e) k v
  ·rw [if_neg hj]
   exact blk_far (m.nod j c ec) (fun (e2 : c = b) => hj (m.inj j i c ec (e2 ▸ e))) v
 cu := fun j hj => by unfold upN; split; exact xu; exact m.cu j hj
 cf := fun j hj => by unfold upN; split; exact xf; exact m.cf j hj
 cn := fun j hj => by unfold upN; split; exact xn; exact m.cn j hj
def upA (A : Nat → Option Nat) (i b : Nat) : Nat → Option Nat := fun j => if j = i then some b else A j
theorem tabC_up (A : Nat → Option Nat) (i b : Nat) (hi : i < 37) : (tabC A).setIfInBounds i (.pointer (some ⟨b, 0, none⟩)) = tabC (upA A i b) := by
 unfold tabC
 rw [List.setIfInBounds_toArray]
 congr 1
 apply List.ext_getElem (by simp)
 intro k h1 h2
 simp only [List.getElem_set, List.getElem_map, List.getElem_range, upA]
 by_cases hk : i = k
 ·rw [if_pos hk, if_pos hk.symm]; rfl
 ·rw [if_neg hk, if_neg (fun e => hk e.symm)]
theorem Mem.add {w : World} {n0 F : Nat} {A : Nat → Option Nat} {h : Nat → Nd} (m : Mem w n0 F A h) {i : Nat} (h0 : i ≠ 0) (hi : i < 37) (hA : A i = none) (hne : ∀ j, A j ≠ none → (h j).up ≠ i ∧ (h j).first ≠ i ∧ (h j).next ≠ i) {b : Nat} {t : ByteArray} (hb : ∀ j, A j ≠ some b) (hbF : b ≠ F) (hlo : n0 ≤ b)
  (hnew : w.heap[b]? = some (.cells #[.int .i64 (i : Int), .string t, .pointer none, .pointer none, .pointer none] 168 (0, 0))) :
  Mem (w.setCell ⟨F, i, none⟩ (.pointer (some ⟨b, 0, none⟩))) n0 F (upA A i b) (upN h i ⟨t, 0, 0, 0⟩) where
 z := by unfold upA; rw [if_neg (fun e => h0 e.symm)]; exact m.z
 rng := fun j c e => by
  unfold upA at e
  by_cases hj : j = i
  ·rw [hj]; exact hi
  ·rw [if_neg hj] at e; exact m.rng j c e
 inj := fun j k c ej ek => by
  unfold upA at ej ek
  by_cases hj : j = i
  ·by_cases hk : k = i
   ·rw [hj, hk]
   ·rw [if_pos hj] at ej; rw [if_neg hk] at ek
    exact absurd (ek.trans ej.symm) (hb k)
  ·by_cases hk : k = i
   ·rw [if_neg hj] at ej; rw [if_pos hk] at ek
    exact absurd (ej.trans ek.symm) (hb j)
   ·rw [if_neg hj] at ej; rw [if_neg hk] at ek
    exact m.inj j k c ej ek
 ne := fun j c e => by
  unfold upA at e
  by_cases hj : j = i
  ·rw [if_pos hj] at e; rw [← Option.some.inj e]; exact hbF
  ·rw [if_neg hj] at e; exact m.ne j c e
 lo := fun j c e => by
  unfold upA at e
  by_cases hj : j = i
  ·rw [if_pos hj] at e; rw [← Option.some.inj e]; exact hlo
  ·rw [if_neg hj] at e; exact m.lo j c e
 loF := m.loF
 tab := by
  rw [← tabC_up A i b hi]
  exact blk_set m.tab i _
 nod := fun j c e => by
  have hF : ∀ {c : Nat} {cs : Array Value} {t : TypeId}, c ≠ F → w.heap[c]? = some (.cells cs t (0, 0)) → (w.setCell ⟨F, i, none⟩ (.pointer (some ⟨b, 0, none⟩))).heap[c]? = some (.cells cs t (0, 0)) := fun hc hh => blk_far hh (p := ⟨F, i, none⟩) hc _
  unfold upA at e
  by_cases hj : j = i
  ·rw [if_pos hj] at e
   obtain rfl := Option.some.inj e
   subst hj
   have : nodeC (upA A j b) j (upN h j ⟨t, 0, 0, 0⟩ j) = #[.int .i64 (j : Int), .string t, .pointer none, .pointer none, .pointer none] := by
    have h0' : ¬ (0 = j) := fun e => h0 e.symm
    simp [nodeC, upN, upA, h0', m.z, pa]
   rw [this]
   exact hF hbF hnew
  ·rw [if_neg hj] at e
   have hn := m.nod j c e
   have e2 : nodeC (upA A i b) j (upN h i ⟨t, 0, 0, 0⟩ j) = nodeC A j (h j) := by
    obtain ⟨n1, n2, n3⟩ := hne j (by rw [e]; simp)
    unfold nodeC upN upA
    rw [if_neg hj, if_neg n1, if_neg n2, if_neg n3]
   rw [e2]
   exact hF (m.ne j c e) hn
 cu := fun j hj => by
  unfold upN
  by_cases hji : j = i
  ·rw [if_pos hji]; exact Or.inl rfl
  ·rw [if_neg hji]
   have hj' : A j ≠ none := by unfold upA at hj; rw [if_neg hji] at hj; exact hj
   rcases m.cu j hj' with h1 | h1
   ·exact Or.inl h1
   ·right; unfold upA; split; simp; exact h1
 cf := fun j hj => by
  unfold upN
  by_cases hji : j = i
  ·rw [if_pos hji]; exact Or.inl rfl
  ·rw [if_neg hji]
   have hj' : A j ≠ none := by unfold upA at hj; rw [if_neg hji] at hj; exact hj
   rcases m.cf j hj' with h1 | h1
   ·exact Or.inl h1
   ·right; unfold upA; split; simp; exact h1
 cn := fun j hj => by
  unfold upN
  by_cases hji : j = i
  ·rw [if_pos hji]; exact Or.inl rfl
  ·rw [if_neg hji]
   have hj' : A j ≠ none := by unfold upA at hj; rw [if_neg hji] at hj; exact hj
   rcases m.cn j hj' with h1 | h1
   ·exact Or.inl h1
   ·right; unfold upA; split; simp; exact h1
end Go.Proofs.YtdpklbomhdpimaaDoor.P
namespace Go.Proofs.YtdpklbomhdpimaaDoor.P
open Go.RowKit Go.Proofs.YtdpklbomhdpimaaDoorW.PrintWords Go.Proofs.YtdpklbomhdpimaaDoorW.PrintLast Go.Proofs.YtdpklbomhdpimaaDoorW.PrintMore Go.Proofs.YtdpklbomhdpimaaDoor.PL
def treeGo (seen : List Int) (roots depth : Int) : List S69 → Bool
 | [] => decide (roots = 3)
 | r :: rest => rowB r && (decide (r.f0 ∉ seen) && (decide (r.f1 ≤ depth + 1) &&
   (if rootB r.f0 then decide (r.f0 = roots + 1) && treeGo (r.f0 :: seen) (roots + 1) r.f1 rest else treeGo (r.f0 :: seen) roots r.f1 rest)))
def treeB (l : List S69) : Bool := treeGo [] 0 (-1) l
def impl_TreeOk.f (k : Nat) (l0 : List S69) : Option Bool := some (treeB l0)
theorem impl_TreeOk.mono (l0 : List S69) (k : Nat) : LeO (impl_TreeOk.f k l0) (impl_TreeOk.f (k + 1) l0) := LeO.refl _
def timesC (seen : List Int) : Array Value := ((List.range 37).map fun i : Nat => Value.int .i64 (if (i : Int) ∈ seen then 1 else 0)).toArray
theorem timesC_get (seen : List Int) (i : Nat) (hi : i < 37) : (timesC seen)[i]? = some (.int .i64 (if (i : Int) ∈ seen then 1 else 0)) := by
 simp [timesC, hi]
theorem timesC_set (seen : List Int) (i : Nat) (hi : i < 37) (hs : (i : Int) ∉ seen) : (timesC seen).setIfInBounds i (.int .i64 1) = timesC ((i : Int) :: seen) := by
 unfold timesC
 rw [List.setIfInBounds_toArray]
 congr 1
 apply List.ext_getElem (by simp)
 intro k h1 h2
 simp only [List.getElem_set, List.getElem_map, List.getElem_range, List.mem_cons]
 by_cases hk : i = k
 ·subst hk; simp
 ·have : ¬ ((k : Int) = (i : Int)) := fun e => hk (by omega)
  rw [if_neg hk]
  simp [this]
theorem rowB_id {r : S69} (h : rowB r = true) : 0 ≤ r.f0 ∧ r.f0 < 37 ∧ 0 ≤ r.f1 ∧ r.f1 ≤ 18 := by
 unfold rowB at h
 by_cases hr : rootB r.f0 = true
 ·rw [if_pos hr] at h
  unfold rootB at hr
  simp only [Bool.and_eq_true, decide_eq_true_eq] at hr h
  omega
 ·rw [if_neg hr] at h
  simp only [Bool.and_eq_true, decide_eq_true_eq] at h
  have := made_small _ h.1
  omega
def TreeRel (l0 : List S69) (r : Bool) (w : World) (ro dp i : Value) (wr : World) : Prop :=
 ∃ (j roots depth : Int) (seen : List Int), 0 ≤ j ∧ j ≤ l0.length ∧ i = .int .i64 j ∧ ro = .int .i64 roots ∧ dp = .int .i64 depth ∧ (0 ≤ roots ∧ roots ≤ 3) ∧ (-1 ≤ depth ∧ depth ≤ 18) ∧ Aside0 (treeGo seen roots depth (l0.drop j.toNat) = r) ∧
  Aside0 (wr.heap[w.heap.size]? = some (.cells (timesC seen) 126 (0, 0))) ∧ Aside0 (Below w.heap.size w wr)
set_option maxHeartbeats 4000000 in
set_option maxRecDepth 100000 in
theorem impl_TreeOk.calls (k : Nat) (A0 : Option Addr) (c0 : Nat) (l0 : List S69) (r : Bool) (w : World) (hr0 : Kd.C k69 w A0 l0.length l0) (hc0 : l0.length ≤ c0) (h : impl_TreeOk.f k l0 = some r) (hG : Glob w) :
  Calls Tryd.prog 45 #[.slice A0 l0.length c0] w fun e w' => e = .returned (.bool r) ∧ Below w.heap.size w w' := by
 have hlen := hr0.2.1
 have HR0 := Aside0.mk hr0
 have HG := Aside0.mk hG
 have HH := Aside0.mk (Option.some.inj h)
 clear hr0 hG h
 go_enter Tryd.func45, Tryd.ntmps45
 go_wp2
 go_loopw [4, 5, 10] (fun ro dp i wr => TreeRel l0 r w ro dp i wr) (fun _ _ i _ => l0.length - (intOf i).toNat)
 case atStart => exact ⟨0, 0, -1, [], Int.le_refl _, by omega, rfl, rfl, rfl, by omega, by omega, HH, ⟨heap_alloc_new w (.cells (timesC []) 126)⟩, ⟨below_box0 w _⟩⟩
 case round =>
  obtain ⟨j, roots, depth, seen, hj0, hj, rfl, rfl, rfl, hro, hdp, HGO, HT, HB⟩ := hrel
  clear HH
  by_cases hlt : j < l0.length
  ·have hd1 : decide (j < (l0.length : Int)) = true := decide_eq_true hlt
   obtain ⟨ad, e, hx0, hx1, hx2⟩ := at_T69 HR0.out j hj0 hlt
   cases e
   replace hx0 := (cb_ HB.out hx0 :)
   replace hx1 := (cb_ HB.out hx1 :)
   replace hx2 := (cb_ HB.out hx2 :)
   have hu := Tryd.underlying69
   have hxe : rd_T69 l0 j = l0[j.toNat]'(by omega) := by
    unfold rd_T69
    rw [List.getD_eq_getElem?_getD, List.getElem?_eq_getElem (by omega)]
    rfl
   have htd := List.drop_eq_getElem_cons (l := l0) (i := j.toNat) (by omega)
   rw [← hxe] at htd
   have hgo := HGO.out
   rw [htd] at hgo
   clear HGO hxe
   generalize rd_T69 l0 j = x at hx0 hx1 hx2 htd hgo
   rw [show j.toNat + 1 = (j + 1).toNat by omega] at htd hgo
   unfold treeGo at hgo
   obtain ⟨kr, hkr⟩ := row_f x
   have HKR := Aside0.mk (hkr kr (Nat.le_refl _))
   have p1 := eq_true hj0
   have q1 := eq_true hlt
   have HGO := Aside0.mk hgo
   have HTD := Aside0.mk htd
   have HJ := Aside0.mk (And.intro hj0 (And.intro hlt (And.intro hro hdp)))
   have HL := Aside0.mk (show w.heap.size < wr.heap.size from blk_lt HT.out)
   have HB1 := Aside0.mk (below_alloc HB.out (.cells #[.int .i64 x.f0, .int .i64 x.f1, .string x.f2] 69))
   have HT1 := Aside0.mk (blk_alloc HT.out (.cells #[.int .i64 x.f0, .int .i64 x.f1, .string x.f2] 69))
   clear hj0 hlt htd hgo hkr HB HT hro hdp
   by_cases hrow : rowB x = true
   ·have hid := rowB_id hrow
    rw [hrow] at HKR
    have hgo := HGO.out
    rw [hrow, Bool.true_and] at hgo
    clear HGO hrow
    obtain ⟨i, hi⟩ := Int.eq_ofNat_of_zero_le hid.1
    have hi37 : i < 37 := by omega
    have hne : w.heap.size ≠ wr.heap.size := by have := HL.out; omega
    have hne' : wr.heap.size ≠ w.heap.size := fun e => hne e.symm
    have i0 : 0 ≤ (i : Int) := by omega
    have i37 : (i : Int) < 37 := by omega
    have hf1 : 0 ≤ x.f1 := hid.2.2.1
    have hf18 : x.f1 ≤ 18 := hid.2.2.2
    have hdp0 : -1 ≤ depth := HJ.out.2.2.2.1
    have hdp1 : depth ≤ 18 := HJ.out.2.2.2.2
    rw [hi] at hgo HKR HB1 HT1 hx0
    have HXI := Aside0.mk hi
    clear hi hid
    by_cases hs : (i : Int) ∈ seen
    ·have HTG := Aside0.mk (show (timesC seen)[i]? = some (.int .i64 1) by rw [timesC_get seen i hi37, if_pos hs])
     have hr : r = false := by rw [← hgo, decide_eq_false (fun h => h hs)]; rfl
     clear hgo hs
     subst hr
     go_wp2_with (go_at_call 97; refine (impl_RowOk.calls kr (i : Int) x.f1 x.f2 true _ HKR.out (HG.out.below HB1.out)).mono ?_; rintro e W2 ⟨rfl, hb⟩; have HB2 := Aside0.mk (below_step HB1.out hb); have HT2 := Aside0.mk (blk_below HT1.out hb); have HX2 := Aside0.mk (blk_below (blk_new wr _) hb); clear hb; have d0 := (blk_cell HX2.out 0).trans rfl; have d1 := (blk_cell HX2.out 1).trans rfl; have t0 := (blk_cell HT2.out i).trans HTG.out; have tf := blk_frozen HT2.out i)
     go_ret
     exact ⟨rfl, HB2.out⟩
    ·have HTG := Aside0.mk (show (timesC seen)[i]? = some (.int .i64 0) by rw [timesC_get seen i hi37, if_neg hs])
     have HTS := Aside0.mk (timesC_set seen i hi37 hs)
     rw [decide_eq_true hs, Bool.true_and] at hgo
     clear hs
     by_cases hdep : x.f1 ≤ depth + 1
     ·have hdb : decide (depth + 1 < x.f1) = false := decide_eq_false (by omega)
      rw [decide_eq_true hdep, Bool.true_and] at hgo
      clear hdep
      by_cases hroot : rootB (i : Int) = true
      ·have HRF := Aside0.mk (isRoot_f (i : Int))
       rw [hroot] at HRF
       rw [if_pos hroot] at hgo
       have hr3 : 1 ≤ i ∧ i ≤ 3 := by unfold rootB at hroot; simp at hroot; omega
       have hro0 : 0 ≤ roots := HJ.out.2.2.1.1
       have hro3 : roots ≤ 3 := HJ.out.2.2.1.2
       clear hroot
       by_cases hn : (i : Int) = roots + 1
       ·have hb1 : ((i : Int) != roots + 1) = false := bne_eq_false_iff_eq.2 hn
        rw [decide_eq_true hn, Bool.true_and] at hgo
        have HN := Aside0.mk hn
        have HGO := Aside0.mk hgo
        clear hn hgo
        go_wp2_with (first | (go_at_call 97; refine (impl_RowOk.calls kr (i : Int) x.f1 x.f2 true _ HKR.out (HG.out.below HB1.out)).mono ?_; rintro e W2 ⟨rfl, hb⟩; have HB2 := Aside0.mk (below_step HB1.out hb); have HT2 := Aside0.mk (blk_below HT1.out hb); have HX2 := Aside0.mk (blk_below (blk_new wr _) hb); clear hb; have d0 := (blk_cell HX2.out 0).trans rfl; have d1 := (blk_cell HX2.out 1).trans rfl; have t0 := (blk_cell HT2.out i).trans HTG.out; have tf := blk_frozen HT2.out i) | (go_at_call 98; refine (impl_isRoot.calls (i : Int) true _ HRF.out (HG.out.below (below_set HB2.out (Nat.le_refl _)))).mono ?_; rintro e w' ⟨rfl, ⟨nd, rfl⟩⟩))
        have hjj := HJ.out
        have hww : wrap64 (j + 1) = j + 1 := by unfold wrap64; omega
        refine ⟨⟨j + 1, roots + 1, x.f1, (i : Int) :: seen, by omega, by omega, by first | rfl | rw [hww], rfl, rfl, by have := HN.out; omega, by omega, HGO, ⟨?_⟩, ⟨pw_below_drewN (below_set HB2.out (Nat.le_refl _)) _⟩⟩, ?_⟩
        ·have := blk_set HT2.out i (.int .i64 1)
         rw [HTS.out] at this
         exact this
        ·first | (show l0.length - (j + 1).toNat < l0.length - j.toNat; omega) | (rw [hww]; show l0.length - (j + 1).toNat < l0.length - j.toNat; omega)
       ·have hb1 : ((i : Int) != roots + 1) = true := bne_iff_ne.2 hn
        rw [decide_eq_false hn, Bool.false_and] at hgo
        subst hgo
        clear hn
        go_wp2_with (first | (go_at_call 97; refine (impl_RowOk.calls kr (i : Int) x.f1 x.f2 true _ HKR.out (HG.out.below HB1.out)).mono ?_; rintro e W2 ⟨rfl, hb⟩; have HB2 := Aside0.mk (below_step HB1.out hb); have HT2 := Aside0.mk (blk_below HT1.out hb); have HX2 := Aside0.mk (blk_below (blk_new wr _) hb); clear hb; have d0 := (blk_cell HX2.out 0).trans rfl; have d1 := (blk_cell HX2.out 1).trans rfl; have t0 := (blk_cell HT2.out i).trans HTG.out; have tf := blk_frozen HT2.out i) | (go_at_call 98; refine (impl_isRoot.calls (i : Int) true _ HRF.out (HG.out.below (below_set HB2.out (Nat.le_refl _)))).mono ?_; rintro e w' ⟨rfl, ⟨nd, rfl⟩⟩))
        go_ret
        exact ⟨rfl, pw_below_drewN (below_set HB2.out (Nat.le_refl _)) _⟩
      ·have hroot : rootB (i : Int) = false := by simpa using hroot
       have HRF := Aside0.mk (isRoot_f (i : Int))
       rw [hroot] at HRF
       rw [if_neg (by rw [hroot]; decide)] at hgo
       have HGO := Aside0.mk hgo
       clear hroot hgo
       go_wp2_with (first | (go_at_call 97; refine (impl_RowOk.calls kr (i : Int) x.f1 x.f2 true _ HKR.out (HG.out.below HB1.out)).mono ?_; rintro e W2 ⟨rfl, hb⟩; have HB2 := Aside0.mk (below_step HB1.out hb); have HT2 := Aside0.mk (blk_below HT1.out hb); have HX2 := Aside0.mk (blk_below (blk_new wr _) hb); clear hb; have d0 := (blk_cell HX2.out 0).trans rfl; have d1 := (blk_cell HX2.out 1).trans rfl; have t0 := (blk_cell HT2.out i).trans HTG.out; have tf := blk_frozen HT2.out i) | (go_at_call 98; refine (impl_isRoot.calls (i : Int) false _ HRF.out (HG.out.below (below_set HB2.out (Nat.le_refl _)))).mono ?_; rintro e w' ⟨rfl, ⟨nd, rfl⟩⟩))
       have hjj := HJ.out
       have hww : wrap64 (j + 1) = j + 1 := by unfold wrap64; omega
       refine ⟨⟨j + 1, roots, x.f1, (i : Int) :: seen, by omega, by omega, by first | rfl | rw [hww], rfl, rfl, by omega, by omega, HGO, ⟨?_⟩, ⟨pw_below_drewN (below_set HB2.out (Nat.le_refl _)) _⟩⟩, ?_⟩
       ·have := blk_set HT2.out i (.int .i64 1)
        rw [HTS.out] at this
        exact this
       ·first | (show l0.length - (j + 1).toNat < l0.length - j.toNat; omega) | (rw [hww]; show l0.length - (j + 1).toNat < l0.length - j.toNat; omega)
     ·have hdb : decide (depth + 1 < x.f1) = true := decide_eq_true (by omega)
      rw [decide_eq_false hdep, Bool.false_and] at hgo
      subst hgo
      clear hdep
      go_wp2_with (go_at_call 97; refine (impl_RowOk.calls kr (i : Int) x.f1 x.f2 true _ HKR.out (HG.out.below HB1.out)).mono ?_; rintro e W2 ⟨rfl, hb⟩; have HB2 := Aside0.mk (below_step HB1.out hb); have HT2 := Aside0.mk (blk_below HT1.out hb); have HX2 := Aside0.mk (blk_below (blk_new wr _) hb); clear hb; have d0 := (blk_cell HX2.out 0).trans rfl; have d1 := (blk_cell HX2.out 1).trans rfl; have t0 := (blk_cell HT2.out i).trans HTG.out; have tf := blk_frozen HT2.out i)
      go_ret
      exact ⟨rfl, HB2.out⟩
   ·have hrow : rowB x = false := by simpa using hrow
    rw [hrow] at HKR
    have hgo := HGO.out
    rw [hrow, Bool.false_and] at hgo
    subst hgo
    clear hrow HGO
    go_wp2_with (go_at_call 97; refine (impl_RowOk.calls kr x.f0 x.f1 x.f2 false _ HKR.out (HG.out.below HB1.out)).mono ?_; rintro e W2 ⟨rfl, hb⟩; have HB2 := Aside0.mk (below_step HB1.out hb); have HT2 := Aside0.mk (blk_below HT1.out hb); have HX2 := Aside0.mk (blk_below (blk_new wr _) hb); clear hb; have d0 := (blk_cell HX2.out 0).trans rfl; have d1 := (blk_cell HX2.out 1).trans rfl)
    go_ret
    exact ⟨rfl, HB2.out⟩
  ·have hd1 : decide (j < (l0.length : Int)) = false := decide_eq_false hlt
   have hgo := HGO.out
   rw [List.drop_eq_nil_of_le (by omega)] at hgo
   unfold treeGo at hgo
   have HGO2 := Aside0.mk hgo
   clear hgo HGO hlt
   by_cases h3 : roots = 3
   ·subst h3
    go_wp2
    go_ret
    exact ⟨by rw [← HGO2.out]; rfl, HB.out⟩
   ·have hb3 : (roots == 3) = false := beq_eq_false_iff_ne.2 h3
    have HGO3 := Aside0.mk (decide_eq_false h3)
    clear h3
    go_wp2
    go_ret
    exact ⟨by rw [← HGO2.out, HGO3.out]; rfl, HB.out⟩
end Go.Proofs.YtdpklbomhdpimaaDoor.P
namespace Go.Proofs.YtdpklbomhdpimaaDoor.P
open Go.RowKit Go.Proofs.YtdpklbomhdpimaaDoorW.PrintWords Go.Proofs.YtdpklbomhdpimaaDoorW.PrintLast
mutual
def impl_ClientOk.j0 : Nat → Bool → Int → Int → List (S69) → List (S44) → Int → Int → Option (Bool)
 | 0, _, _, _, _, _, _, _ => none
 | k + 1, x24, x1137000, x1137001, x1137002, x1137003, x1137004, x1137005 => if x24 = true then (some false) else (if x1137004 < 0 then (impl_ClientOk.j1 k true x1137000 x1137001 x1137002 x1137003 x1137004 x1137005) else (if x1137004 > x1137001 then (impl_ClientOk.j1 k true x1137000 x1137001 x1137002 x1137003 x1137004 x1137005) else (if (x1137003.length : Int) > (wrap64 (40 - x1137004)) then (impl_ClientOk.j1 k true x1137000 x1137001 x1137002 x1137003 x1137004 x1137005) else (if x1137005 < 0 then (impl_ClientOk.j1 k true x1137000 x1137001 x1137002 x1137003 x1137004 x1137005) else (impl_ClientOk.j1 k (decide (x1137005 > 6)) x1137000 x1137001 x1137002 x1137003 x1137004 x1137005)))))
def impl_ClientOk.j1 : Nat → Bool → Int → Int → List (S69) → List (S44) → Int → Int → Option (Bool)
 | 0, _, _, _, _, _, _, _ => none
 | k + 1, x53, x1137000, x1137001, x1137002, x1137003, x1137004, x1137005 => if x53 = true then (some false) else (impl_ClientOk.l0 k x1137003 (x1137003.length : Int) 0 x1137000 x1137001 x1137002 x1137003 x1137004 x1137005)
def impl_ClientOk.l0 : Nat → List (S44) → Int → Int → Int → Int → List (S69) → List (S44) → Int → Int → Option (Bool)
 | 0, _, _, _, _, _, _, _, _, _ => none
 | k + 1, x55, x56, x57, x1137000, x1137001, x1137002, x1137003, x1137004, x1137005 => if x57 < x56 then (if 0 ≤ x57 then (if x57 < (x55.length : Int) then ((impl_EntryOk.f k ((rd_T44 x55 x57).f0) ((rd_T44 x55 x57).f1) ((rd_T44 x55 x57).f2.f0) ((rd_T44 x55 x57).f2.f1) ((rd_T44 x55 x57).f2.f2) ((rd_T44 x55 x57).f2.f3) ((rd_T44 x55 x57).f2.f4)).bind fun t1141 => (if t1141 = true then (if ((rd_T44 x55 x57).f0) = x1137000 then (impl_ClientOk.j3 k x55 x56 x57 (((rd_T44 x55 x57).f1) != (wrap64 ((wrap64 (x1137004 + x57)) + 1))) x1137000 x1137001 x1137002 x1137003 x1137004 x1137005 ((rd_T44 x55 x57).f0) ((rd_T44 x55 x57).f1) ((rd_T44 x55 x57).f2.f0) ((rd_T44 x55 x57).f2.f1) ((rd_T44 x55 x57).f2.f2) ((rd_T44 x55 x57).f2.f3) ((rd_T44 x55 x57).f2.f4)) else (impl_ClientOk.j3 k x55 x56 x57 true x1137000 x1137001 x1137002 x1137003 x1137004 x1137005 ((rd_T44 x55 x57).f0) ((rd_T44 x55 x57).f1) ((rd_T44 x55 x57).f2.f0) ((rd_T44 x55 x57).f2.f1) ((rd_T44 x55 x57).f2.f2) ((rd_T44 x55 x57).f2.f3) ((rd_T44 x55 x57).f2.f4))) else (impl_ClientOk.j3 k x55 x56 x57 true x1137000 x1137001 x1137002 x1137003 x1137004 x1137005 ((rd_T44 x55 x57).f0) ((rd_T44 x55 x57).f1) ((rd_T44 x55 x57).f2.f0) ((rd_T44 x55 x57).f2.f1) ((rd_T44 x55 x57).f2.f2) ((rd_T44 x55 x57).f2.f3) ((rd_T44 x55 x57).f2.f4)))) else (none)) else (none)) else (some true)
def impl_ClientOk.j3 : Nat → List (S44) → Int → Int → Bool → Int → Int → List (S69) → List (S44) → Int → Int → Int → Int → Int → Int → Int → Int → ByteArray → Option (Bool)
 | 0, _, _, _, _, _, _, _, _, _, _, _, _, _, _, _, _, _ => none
 | k + 1, x55, x56, x57, x81, x1137000, x1137001, x1137002, x1137003, x1137004, x1137005, x1141000, x1141001, x1141002, x1141003, x1141004, x1141005, x1141006 => if x81 = true then (some false) else (if x1141002 = 1 then (if x1141003 > (wrap64 ((wrap64 (10 * x1137000)) + x1137005)) then (some false) else (impl_ClientOk.l0 k x55 x56 (wrap64 (x57 + 1)) x1137000 x1137001 x1137002 x1137003 x1137004 x1137005)) else (impl_ClientOk.l0 k x55 x56 (wrap64 (x57 + 1)) x1137000 x1137001 x1137002 x1137003 x1137004 x1137005))
end
def impl_ClientOk.f (k : Nat) (a0_0 : Int) (a0_1 : Int) (l0_2 : List (S69)) (l0_3 : List (S44)) (a0_4 : Int) (a0_5 : Int) : Option (Bool) := (impl_whoOk.f a0_0).bind fun t1137 => (if t1137 = true then (if a0_1 < 0 then (impl_ClientOk.j0 k true a0_0 a0_1 l0_2 l0_3 a0_4 a0_5) else (if a0_1 > 40 then (impl_ClientOk.j0 k true a0_0 a0_1 l0_2 l0_3 a0_4 a0_5) else ((impl_TreeOk.f k l0_2).bind fun t1138 => (impl_ClientOk.j0 k (!t1138) a0_0 a0_1 l0_2 l0_3 a0_4 a0_5)))) else (impl_ClientOk.j0 k true a0_0 a0_1 l0_2 l0_3 a0_4 a0_5))
theorem impl_ClientOk.mono_l : ∀ k, (∀ y0 y1 y2 y3 y4 y5 y6, LeO (impl_ClientOk.j0 k y0 y1 y2 y3 y4 y5 y6) (impl_ClientOk.j0 (k + 1) y0 y1 y2 y3 y4 y5 y6)) ∧ (∀ y0 y1 y2 y3 y4 y5 y6, LeO (impl_ClientOk.j1 k y0 y1 y2 y3 y4 y5 y6) (impl_ClientOk.j1 (k + 1) y0 y1 y2 y3 y4 y5 y6)) ∧ (∀ y0 y1 y2 y3 y4 y5 y6 y7 y8, LeO (impl_ClientOk.l0 k y0 y1 y2 y3 y4 y5 y6 y7 y8) (impl_ClientOk.l0 (k + 1) y0 y1 y2 y3 y4 y5 y6 y7 y8)) ∧ (∀ y0 y1 y2 y3 y4 y5 y6 y7 y8 y9 y10 y11 y12 y13 y14 y15 y16, LeO (impl_ClientOk.j3 k y0 y1 y2 y3 y4 y5 y6 y7 y8 y9 y10 y11 y12 y13 y14 y15 y16) (impl_ClientOk.j3 (k + 1) y0 y1 y2 y3 y4 y5 y6 y7 y8 y9 y10 y11 y12 y13 y14 y15 y16))
 | 0 => ⟨fun _ _ _ _ _ _ _ r h => by simp [impl_ClientOk.j0] at h, fun _ _ _ _ _ _ _ r h => by simp [impl_ClientOk.j1] at h, fun _ _ _ _ _ _ _ _ _ r h => by simp [impl_ClientOk.l0] at h, fun _ _ _ _ _ _ _ _ _ _ _ _ _ _ _ _ _ r h => by simp [impl_ClientOk.j3] at h⟩
 | k + 1 => by
  obtain ⟨ih0, ih1, ih2, ih3⟩ := impl_ClientOk.mono_l k
  refine ⟨?_, ?_, ?_, ?_⟩
  all_goals intros
  all_goals first | unfold impl_ClientOk.j0 | unfold impl_ClientOk.j1 | unfold impl_ClientOk.l0 | unfold impl_ClientOk.j3
  all_goals repeat' first
  | (with_reducible exact ih0 _ _ _ _ _ _ _)
  | (with_reducible exact ih1 _ _ _ _ _ _ _)
  | (with_reducible exact ih2 _ _ _ _ _ _ _ _ _)
  | (with_reducible exact ih3 _ _ _ _ _ _ _ _ _ _ _ _ _ _ _ _ _)
  | (with_reducible exact impl_EntryOk.mono _ _ _ _ _ _ _ _)
  | (with_reducible exact impl_TreeOk.mono _ _)
  | (with_reducible exact LeO.refl _)
  | (with_reducible exact LeO.none _)
  | (with_reducible refine LeO.ite ?_ ?_)
  | (with_reducible refine LeO.bind ?_ (fun _ => ?_))
  | exact ih0 _ _ _ _ _ _ _
  | exact ih1 _ _ _ _ _ _ _
  | exact ih2 _ _ _ _ _ _ _ _ _
  | exact ih3 _ _ _ _ _ _ _ _ _ _ _ _ _ _ _ _ _
  | exact impl_EntryOk.mono _ _ _ _ _ _ _ _
  | exact impl_TreeOk.mono _ _
  | exact LeO.none _
  | refine LeO.ite ?_ ?_
  | refine LeO.bind ?_ (fun _ => ?_)
theorem impl_ClientOk.mono : ∀ a0 a1 a2 a3 a4 a5 k, LeO (impl_ClientOk.f k a0 a1 a2 a3 a4 a5) (impl_ClientOk.f (k + 1) a0 a1 a2 a3 a4 a5) := by
 intro a0 a1 a2 a3 a4 a5 k
 obtain ⟨ih0, ih1, ih2, ih3⟩ := impl_ClientOk.mono_l k
 unfold impl_ClientOk.f
 repeat' first
   | (with_reducible exact ih0 _ _ _ _ _ _ _)
   | (with_reducible exact ih1 _ _ _ _ _ _ _)
   | (with_reducible exact ih2 _ _ _ _ _ _ _ _ _)
   | (with_reducible exact ih3 _ _ _ _ _ _ _ _ _ _ _ _ _ _ _ _ _)
   | (with_reducible exact impl_EntryOk.mono _ _ _ _ _ _ _ _)
   | (with_reducible exact impl_TreeOk.mono _ _)
   | (with_reducible exact LeO.refl _)
   | (with_reducible exact LeO.none _)
   | (with_reducible refine LeO.ite ?_ ?_)
   | (with_reducible refine LeO.bind ?_ (fun _ => ?_))
   | exact ih0 _ _ _ _ _ _ _
   | exact ih1 _ _ _ _ _ _ _
   | exact ih2 _ _ _ _ _ _ _ _ _
   | exact ih3 _ _ _ _ _ _ _ _ _ _ _ _ _ _ _ _ _
   | exact impl_EntryOk.mono _ _ _ _ _ _ _ _
   | exact impl_TreeOk.mono _ _
   | exact LeO.none _
   | refine LeO.ite ?_ ?_
   | refine LeO.bind ?_ (fun _ => ?_)
set_option maxHeartbeats 8000000 in
set_option maxRecDepth 100000 in
theorem impl_ClientOk.calls (k : Nat) (a0_0 : Int) (a0_1 : Int) (A0_2 : Option Addr) (c0_2 : Nat) (l0_2 : List (S69)) (A0_3 : Option Addr) (c0_3 : Nat) (l0_3 : List (S44)) (a0_4 : Int) (a0_5 : Int) (r : Bool) (w : World) (hr0_2 : Kd.C k69 w A0_2 l0_2.length l0_2) (hc0_2 : l0_2.length ≤ c0_2) (hr0_3 : Kd.C k44 w A0_3 l0_3.length l0_3) (hc0_3 : l0_3.length ≤ c0_3) (h : impl_ClientOk.f k a0_0 a0_1 l0_2 l0_3 a0_4 a0_5 = some r) (hG : Glob w) :
  Calls Tryd.prog 60 #[.agg #[.int .i64 a0_0, .int .i64 a0_1, .slice A0_2 l0_2.length c0_2, .slice A0_3 l0_3.length c0_3, .int .i64 a0_4, .int .i64 a0_5]] w fun e w' => e = .returned (.bool r) ∧ Below w.heap.size w w' := by
 have hu77 := Tryd.underlying77
 have hu44 := Tryd.underlying44
 have HR0_2 := Aside0.mk hr0_2
 have HC0_2 := Aside0.mk hc0_2
 clear hr0_2 hc0_2
 have HR0_3 := Aside0.mk hr0_3
 have HC0_3 := Aside0.mk hc0_3
 clear hr0_3 hc0_3
 have HB := Aside0.mk (Below.refl w.heap.size w)
 have HG := Aside0.mk hG
 clear hG
 unfold impl_ClientOk.f at h
 have H := h
 clear h
 have HC2 := Aside0.mk H
 clear H
 go_enter Tryd.func60, Tryd.ntmps60
 go_upto_region 1 with (first | ((with_reducible refine gate_dst (N := 1) rfl ?_); refine bx_ 1 (#[.int .i64 a0_0, .int .i64 a0_1, .slice A0_2 l0_2.length c0_2, .slice A0_3 l0_3.length c0_3, .int .i64 a0_4, .int .i64 a0_5]) 77 ?_; intro gb1136 hg w3 hbox hb; have n0_ := Aside0.mk (below_step (bel_) hb); have n1_ := Aside0.mk (hbox); have n2_ := Aside0.mk ((by rw [hg]; exact (below_size (bel_)) : w.heap.size ≤ gb1136)); have n3_ := Aside0.mk ((by rw [hg]; exact (below_size (bel_)) : w.heap.size ≤ gb1136)); clear HB; have HB := n0_; have BK1136 := n1_; have GW1136 := n2_; have GE1136 := n3_; clear n0_ n1_ n2_ n3_; clear hb hbox hg))
 (try simp only [Act.put, List.setIfInBounds_toArray, List.set_cons_zero, List.set_cons_succ])
 go_cut [24] (fun v24 wc => ∃ (kq : Nat) (x24_1 : Bool), v24 = .bool x24_1 ∧ Aside0 (impl_ClientOk.j0 kq x24_1 a0_0 a0_1 l0_2 l0_3 a0_4 a0_5 = some r) ∧ Aside0 (kq ≤ k) ∧ Aside0 (wc.heap[gb1136]? = some (.cells #[.int .i64 a0_0, .int .i64 a0_1, (.slice A0_2 l0_2.length c0_2), (.slice A0_3 l0_3.length c0_3), .int .i64 a0_4, .int .i64 a0_5] 77 (0, 0))) ∧ Aside0 (Below w.heap.size w wc))
 case first =>
  have H := HC2.out
  clear HC2
  replace H := Option.bind_eq_some_iff.mp H
  obtain ⟨t1137, A40, H⟩ := H
  try dsimp only at H
  have A4 := Aside0.mk A40
  clear A40
  by_cases c5 : t1137 = true
  ·subst c5
   have H1 : (if a0_1 < 0 then (impl_ClientOk.j0 k true a0_0 a0_1 l0_2 l0_3 a0_4 a0_5) else (if a0_1 > 40 then (impl_ClientOk.j0 k true a0_0 a0_1 l0_2 l0_3 a0_4 a0_5) else ((impl_TreeOk.f k l0_2).bind fun t1138 => (impl_ClientOk.j0 k (!t1138) a0_0 a0_1 l0_2 l0_3 a0_4 a0_5)))) = some r := by rw [if_pos rfl] at H; exact H
   clear H
   have H := H1
   clear H1
   by_cases c6 : a0_1 < 0
   ·rw [if_pos c6] at H
    have c6b0 : decide (a0_1 < 0) = true := decide_eq_true c6
    clear c6
    (first | rw [c6b0] | (simp only [i64_w, i32_w]; rw [c6b0]) | skip)
    have H' := Aside0.mk H
    clear H
    have hcz7_0 := cz_ BK1136.out 0 (.int .i64 a0_0)
    have hcz7_1 := cz_ BK1136.out 1 (.int .i64 a0_1)
    have hcz7_2 := cz_ BK1136.out 2 (.slice A0_2 l0_2.length c0_2)
    have hcz7_3 := cz_ BK1136.out 3 (.slice A0_3 l0_3.length c0_3)
    have hcz7_4 := cz_ BK1136.out 4 (.int .i64 a0_4)
    have hcz7_5 := cz_ BK1136.out 5 (.int .i64 a0_5)
    have hfz7_0 := blk_frozen BK1136.out 0
    have hfz7_1 := blk_frozen BK1136.out 1
    have hfz7_2 := blk_frozen BK1136.out 2
    have hfz7_3 := blk_frozen BK1136.out 3
    have hfz7_4 := blk_frozen BK1136.out 4
    have hfz7_5 := blk_frozen BK1136.out 5
    go_wp2_with (first | ((with_reducible refine gate_callee (f := 104) rfl ?_); refine gl_ 7 Tryd.func104 #[.int .i64 a0_0] ?_; (with_reducible refine (impl_whoOk.calls a0_0 true _ A4.out).mono ?_); rintro e w' ⟨rfl, ⟨nd, rfl⟩⟩; refine ⟨_, rfl, ?_⟩))
    go_meet
    case rel => exact ⟨_, (true), (si_), H', ⟨by first | omega | exact Nat.le_refl _⟩, ⟨by (with_reducible repeat (first | refine blk_drewN ?_ _ | refine blk_drew ?_ | refine blk_alloc ?_ _)); exact BK1136.out⟩, ⟨bel_⟩⟩
   ·rw [if_neg c6] at H
    have c6b0 : decide (a0_1 < 0) = false := decide_eq_false c6
    clear c6
    (first | rw [c6b0] | (simp only [i64_w, i32_w]; rw [c6b0]) | skip)
    by_cases c8 : a0_1 > 40
    ·rw [if_pos c8] at H
     have c8b0 : decide (40 < a0_1) = true := decide_eq_true c8
     clear c8
     have H' := Aside0.mk H
     clear H
     have hcz9_0 := cz_ BK1136.out 0 (.int .i64 a0_0)
     have hcz9_1 := cz_ BK1136.out 1 (.int .i64 a0_1)
     have hcz9_2 := cz_ BK1136.out 2 (.slice A0_2 l0_2.length c0_2)
     have hcz9_3 := cz_ BK1136.out 3 (.slice A0_3 l0_3.length c0_3)
     have hcz9_4 := cz_ BK1136.out 4 (.int .i64 a0_4)
     have hcz9_5 := cz_ BK1136.out 5 (.int .i64 a0_5)
     have hfz9_0 := blk_frozen BK1136.out 0
     have hfz9_1 := blk_frozen BK1136.out 1
     have hfz9_2 := blk_frozen BK1136.out 2
     have hfz9_3 := blk_frozen BK1136.out 3
     have hfz9_4 := blk_frozen BK1136.out 4
     have hfz9_5 := blk_frozen BK1136.out 5
     go_wp2_with (first | ((with_reducible refine gate_callee (f := 104) rfl ?_); refine gl_ 7 Tryd.func104 #[.int .i64 a0_0] ?_; (with_reducible refine (impl_whoOk.calls a0_0 true _ A4.out).mono ?_); rintro e w' ⟨rfl, ⟨nd, rfl⟩⟩; refine ⟨_, rfl, ?_⟩))
     go_meet
     case rel => exact ⟨_, (true), (si_), H', ⟨by first | omega | exact Nat.le_refl _⟩, ⟨by (with_reducible repeat (first | refine blk_drewN ?_ _ | refine blk_drew ?_ | refine blk_alloc ?_ _)); exact BK1136.out⟩, ⟨bel_⟩⟩
    ·rw [if_neg c8] at H
     have c8b0 : decide (40 < a0_1) = false := decide_eq_false c8
     clear c8
     replace H := Option.bind_eq_some_iff.mp H
     obtain ⟨t1138, A100, H⟩ := H
     try dsimp only at H
     have A10 := Aside0.mk A100
     clear A100
     have H' := Aside0.mk H
     clear H
     have hcz11_0 := cz_ BK1136.out 0 (.int .i64 a0_0)
     have hcz11_1 := cz_ BK1136.out 1 (.int .i64 a0_1)
     have hcz11_2 := cz_ BK1136.out 2 (.slice A0_2 l0_2.length c0_2)
     have hcz11_3 := cz_ BK1136.out 3 (.slice A0_3 l0_3.length c0_3)
     have hcz11_4 := cz_ BK1136.out 4 (.int .i64 a0_4)
     have hcz11_5 := cz_ BK1136.out 5 (.int .i64 a0_5)
     have hfz11_0 := blk_frozen BK1136.out 0
     have hfz11_1 := blk_frozen BK1136.out 1
     have hfz11_2 := blk_frozen BK1136.out 2
     have hfz11_3 := blk_frozen BK1136.out 3
     have hfz11_4 := blk_frozen BK1136.out 4
     have hfz11_5 := blk_frozen BK1136.out 5
     go_wp2_with (first | ((with_reducible refine gate_callee (f := 104) rfl ?_); refine gl_ 7 Tryd.func104 #[.int .i64 a0_0] ?_; (with_reducible refine (impl_whoOk.calls a0_0 true _ A4.out).mono ?_); rintro e w' ⟨rfl, ⟨nd, rfl⟩⟩; refine ⟨_, rfl, ?_⟩) | (go_at_call 45; (with_reducible refine (impl_TreeOk.calls k _ _ l0_2 t1138 _ ?side1 ?side2 A10.out ?side3).mono ?_); (case side1 => repeat (first | exact (Kd.C_below HR0_2.out (bel_)) | (with_reducible refine Kd.C_alloc ?_ _) | (with_reducible refine Kd.C_drewN ?_ _) | (with_reducible refine Kd.C_drew ?_))); (case side2 => exact HC0_2.out); (case side3 => exact Glob.below HG.out (bel_)); rintro e w12 ⟨rfl, hb⟩; replace HB := Aside0.mk (below_step (bel_) hb); replace BK1136 := Aside0.mk (bb_ BK1136.out hb); (try clear hb)))
     go_meet
     case rel => exact ⟨_, (!t1138), (si_), H', ⟨by first | omega | exact Nat.le_refl _⟩, ⟨by (with_reducible repeat (first | refine blk_drewN ?_ _ | refine blk_drew ?_ | refine blk_alloc ?_ _)); exact BK1136.out⟩, ⟨bel_⟩⟩
  ·replace c5 := Bool.eq_false_iff.mpr c5
   subst c5
   have H1 : (impl_ClientOk.j0 k true a0_0 a0_1 l0_2 l0_3 a0_4 a0_5) = some r := by rw [if_neg (show ¬ (false = true) by decide)] at H; exact H
   clear H
   have H := H1
   clear H1
   have H' := Aside0.mk H
   clear H
   have hcz13_0 := cz_ BK1136.out 0 (.int .i64 a0_0)
   have hcz13_1 := cz_ BK1136.out 1 (.int .i64 a0_1)
   have hcz13_2 := cz_ BK1136.out 2 (.slice A0_2 l0_2.length c0_2)
   have hcz13_3 := cz_ BK1136.out 3 (.slice A0_3 l0_3.length c0_3)
   have hcz13_4 := cz_ BK1136.out 4 (.int .i64 a0_4)
   have hcz13_5 := cz_ BK1136.out 5 (.int .i64 a0_5)
   have hfz13_0 := blk_frozen BK1136.out 0
   have hfz13_1 := blk_frozen BK1136.out 1
   have hfz13_2 := blk_frozen BK1136.out 2
   have hfz13_3 := blk_frozen BK1136.out 3
   have hfz13_4 := blk_frozen BK1136.out 4
   have hfz13_5 := blk_frozen BK1136.out 5
   go_wp2_with (first | ((with_reducible refine gate_callee (f := 104) rfl ?_); refine gl_ 7 Tryd.func104 #[.int .i64 a0_0] ?_; (with_reducible refine (impl_whoOk.calls a0_0 false _ A4.out).mono ?_); rintro e w' ⟨rfl, ⟨nd, rfl⟩⟩; refine ⟨_, rfl, ?_⟩))
   go_meet
   case rel => exact ⟨_, (true), (si_), H', ⟨by first | omega | exact Nat.le_refl _⟩, ⟨by (with_reducible repeat (first | refine blk_drewN ?_ _ | refine blk_drew ?_ | refine blk_alloc ?_ _)); exact BK1136.out⟩, ⟨bel_⟩⟩
 case rest =>
  clear HC2
  try clear c1
  try clear p2
  try clear c5
  try clear c6
  try clear c6b0
  try clear c8
  try clear c8b0
  try clear c10
  try clear hcz11_0
  try clear hcz11_1
  try clear hcz11_2
  try clear hcz11_3
  try clear hcz11_4
  try clear hcz11_5
  try clear hcz13_0
  try clear hcz13_1
  try clear hcz13_2
  try clear hcz13_3
  try clear hcz13_4
  try clear hcz13_5
  try clear hcz7_0
  try clear hcz7_1
  try clear hcz7_2
  try clear hcz7_3
  try clear hcz7_4
  try clear hcz7_5
  try clear hcz9_0
  try clear hcz9_1
  try clear hcz9_2
  try clear hcz9_3
  try clear hcz9_4
  try clear hcz9_5
  try clear hfz11_0
  try clear hfz11_1
  try clear hfz11_2
  try clear hfz11_3
  try clear hfz11_4
  try clear hfz11_5
  try clear hfz13_0
  try clear hfz13_1
  try clear hfz13_2
  try clear hfz13_3
  try clear hfz13_4
  try clear hfz13_5
  try clear hfz7_0
  try clear hfz7_1
  try clear hfz7_2
  try clear hfz7_3
  try clear hfz7_4
  try clear hfz7_5
  try clear hfz9_0
  try clear hfz9_1
  try clear hfz9_2
  try clear hfz9_3
  try clear hfz9_4
  try clear hfz9_5
  obtain ⟨kq, x24_1, rfl, HA, HJ1, BK1136, HB⟩ := hcut
  cases kq with
  | zero => exact absurd HA.out (by simp [impl_ClientOk.j0])
  | succ kj1 =>
   have H := HA.out
   clear HA
   simp only [impl_ClientOk.j0] at H
   by_cases c14 : x24_1 = true
   ·subst c14
    have H1 : (some false) = some r := by rw [if_pos rfl] at H; exact H
    clear H
    have H := H1
    clear H1
    obtain rfl := Option.some.inj H
    go_wp2
    go_ret
    exact ⟨fi_, bel_⟩
   ·replace c14 := Bool.eq_false_iff.mpr c14
    subst c14
    have H1 : (if a0_4 < 0 then (impl_ClientOk.j1 kj1 true a0_0 a0_1 l0_2 l0_3 a0_4 a0_5) else (if a0_4 > a0_1 then (impl_ClientOk.j1 kj1 true a0_0 a0_1 l0_2 l0_3 a0_4 a0_5) else (if (l0_3.length : Int) > (wrap64 (40 - a0_4)) then (impl_ClientOk.j1 kj1 true a0_0 a0_1 l0_2 l0_3 a0_4 a0_5) else (if a0_5 < 0 then (impl_ClientOk.j1 kj1 true a0_0 a0_1 l0_2 l0_3 a0_4 a0_5) else (impl_ClientOk.j1 kj1 (decide (a0_5 > 6)) a0_0 a0_1 l0_2 l0_3 a0_4 a0_5))))) = some r := by rw [if_neg (show ¬ (false = true) by decide)] at H; exact H
    clear H
    have H := H1
    clear H1
    have HC15 := Aside0.mk H
    clear H
    go_upto_region 3 with (fail)
    go_cut [53] (fun v53 wc => ∃ (kq : Nat) (x53_14 : Bool), v53 = .bool x53_14 ∧ Aside0 (impl_ClientOk.j1 kq x53_14 a0_0 a0_1 l0_2 l0_3 a0_4 a0_5 = some r) ∧ Aside0 (kq ≤ kj1) ∧ Aside0 (wc.heap[gb1136]? = some (.cells #[.int .i64 a0_0, .int .i64 a0_1, (.slice A0_2 l0_2.length c0_2), (.slice A0_3 l0_3.length c0_3), .int .i64 a0_4, .int .i64 a0_5] 77 (0, 0))) ∧ Aside0 (Below w.heap.size w wc))
    case first =>
     have H := HC15.out
     clear HC15
     by_cases c16 : a0_4 < 0
     ·rw [if_pos c16] at H
      have c16b0 : decide (a0_4 < 0) = true := decide_eq_true c16
      clear c16
      (first | rw [c16b0] | (simp only [i64_w, i32_w]; rw [c16b0]) | skip)
      have H' := Aside0.mk H
      clear H
      have hcz17_0 : wc.cell? ⟨gb1136, 0, none⟩ = some (.int .i64 a0_0) := (blk_cell BK1136.out 0).trans rfl
      have hcz17_1 : wc.cell? ⟨gb1136, 1, none⟩ = some (.int .i64 a0_1) := (blk_cell BK1136.out 1).trans rfl
      have hcz17_2 : wc.cell? ⟨gb1136, 2, none⟩ = some (.slice A0_2 l0_2.length c0_2) := (blk_cell BK1136.out 2).trans rfl
      have hcz17_3 : wc.cell? ⟨gb1136, 3, none⟩ = some (.slice A0_3 l0_3.length c0_3) := (blk_cell BK1136.out 3).trans rfl
      have hcz17_4 : wc.cell? ⟨gb1136, 4, none⟩ = some (.int .i64 a0_4) := (blk_cell BK1136.out 4).trans rfl
      have hcz17_5 : wc.cell? ⟨gb1136, 5, none⟩ = some (.int .i64 a0_5) := (blk_cell BK1136.out 5).trans rfl
      have hfz17_0 := blk_frozen BK1136.out 0
      have hfz17_1 := blk_frozen BK1136.out 1
      have hfz17_2 := blk_frozen BK1136.out 2
      have hfz17_3 := blk_frozen BK1136.out 3
      have hfz17_4 := blk_frozen BK1136.out 4
      have hfz17_5 := blk_frozen BK1136.out 5
      go_wp2
      go_meet
      case rel => exact ⟨_, (true), (si_), H', ⟨by have := HJ1.out; first | omega | exact Nat.le_refl _⟩, ⟨by (with_reducible repeat (first | refine blk_drewN ?_ _ | refine blk_drew ?_ | refine blk_alloc ?_ _)); exact BK1136.out⟩, ⟨bel_⟩⟩
     ·rw [if_neg c16] at H
      have c16b0 : decide (a0_4 < 0) = false := decide_eq_false c16
      clear c16
      (first | rw [c16b0] | (simp only [i64_w, i32_w]; rw [c16b0]) | skip)
      by_cases c18 : a0_4 > a0_1
      ·rw [if_pos c18] at H
       have c18b0 : decide (a0_1 < a0_4) = true := decide_eq_true c18
       clear c18
       have H' := Aside0.mk H
       clear H
       have hcz19_0 : wc.cell? ⟨gb1136, 0, none⟩ = some (.int .i64 a0_0) := (blk_cell BK1136.out 0).trans rfl
       have hcz19_1 : wc.cell? ⟨gb1136, 1, none⟩ = some (.int .i64 a0_1) := (blk_cell BK1136.out 1).trans rfl
       have hcz19_2 : wc.cell? ⟨gb1136, 2, none⟩ = some (.slice A0_2 l0_2.length c0_2) := (blk_cell BK1136.out 2).trans rfl
       have hcz19_3 : wc.cell? ⟨gb1136, 3, none⟩ = some (.slice A0_3 l0_3.length c0_3) := (blk_cell BK1136.out 3).trans rfl
       have hcz19_4 : wc.cell? ⟨gb1136, 4, none⟩ = some (.int .i64 a0_4) := (blk_cell BK1136.out 4).trans rfl
       have hcz19_5 : wc.cell? ⟨gb1136, 5, none⟩ = some (.int .i64 a0_5) := (blk_cell BK1136.out 5).trans rfl
       have hfz19_0 := blk_frozen BK1136.out 0
       have hfz19_1 := blk_frozen BK1136.out 1
       have hfz19_2 := blk_frozen BK1136.out 2
       have hfz19_3 := blk_frozen BK1136.out 3
       have hfz19_4 := blk_frozen BK1136.out 4
       have hfz19_5 := blk_frozen BK1136.out 5
       go_wp2
       go_meet
       case rel => exact ⟨_, (true), (si_), H', ⟨by have := HJ1.out; first | omega | exact Nat.le_refl _⟩, ⟨by (with_reducible repeat (first | refine blk_drewN ?_ _ | refine blk_drew ?_ | refine blk_alloc ?_ _)); exact BK1136.out⟩, ⟨bel_⟩⟩
      ·rw [if_neg c18] at H
       have c18b0 : decide (a0_1 < a0_4) = false := decide_eq_false c18
       clear c18
       by_cases c20 : (l0_3.length : Int) > (wrap64 (40 - a0_4))
       ·rw [if_pos c20] at H
        have c20b0 : decide ((wrap64 (40 - a0_4)) < (l0_3.length : Int)) = true := decide_eq_true c20
        clear c20
        have H' := Aside0.mk H
        clear H
        have hcz21_0 : wc.cell? ⟨gb1136, 0, none⟩ = some (.int .i64 a0_0) := (blk_cell BK1136.out 0).trans rfl
        have hcz21_1 : wc.cell? ⟨gb1136, 1, none⟩ = some (.int .i64 a0_1) := (blk_cell BK1136.out 1).trans rfl
        have hcz21_2 : wc.cell? ⟨gb1136, 2, none⟩ = some (.slice A0_2 l0_2.length c0_2) := (blk_cell BK1136.out 2).trans rfl
        have hcz21_3 : wc.cell? ⟨gb1136, 3, none⟩ = some (.slice A0_3 l0_3.length c0_3) := (blk_cell BK1136.out 3).trans rfl
        have hcz21_4 : wc.cell? ⟨gb1136, 4, none⟩ = some (.int .i64 a0_4) := (blk_cell BK1136.out 4).trans rfl
        have hcz21_5 : wc.cell? ⟨gb1136, 5, none⟩ = some (.int .i64 a0_5) := (blk_cell BK1136.out 5).trans rfl
        have hfz21_0 := blk_frozen BK1136.out 0
        have hfz21_1 := blk_frozen BK1136.out 1
        have hfz21_2 := blk_frozen BK1136.out 2
        have hfz21_3 := blk_frozen BK1136.out 3
        have hfz21_4 := blk_frozen BK1136.out 4
        have hfz21_5 := blk_frozen BK1136.out 5
        go_wp2
        go_meet
        case rel => exact ⟨_, (true), (si_), H', ⟨by have := HJ1.out; first | omega | exact Nat.le_refl _⟩, ⟨by (with_reducible repeat (first | refine blk_drewN ?_ _ | refine blk_drew ?_ | refine blk_alloc ?_ _)); exact BK1136.out⟩, ⟨bel_⟩⟩
       ·rw [if_neg c20] at H
        have c20b0 : decide ((wrap64 (40 - a0_4)) < (l0_3.length : Int)) = false := decide_eq_false c20
        clear c20
        by_cases c22 : a0_5 < 0
        ·rw [if_pos c22] at H
         have c22b0 : decide (a0_5 < 0) = true := decide_eq_true c22
         clear c22
         have H' := Aside0.mk H
         clear H
         have hcz23_0 : wc.cell? ⟨gb1136, 0, none⟩ = some (.int .i64 a0_0) := (blk_cell BK1136.out 0).trans rfl
         have hcz23_1 : wc.cell? ⟨gb1136, 1, none⟩ = some (.int .i64 a0_1) := (blk_cell BK1136.out 1).trans rfl
         have hcz23_2 : wc.cell? ⟨gb1136, 2, none⟩ = some (.slice A0_2 l0_2.length c0_2) := (blk_cell BK1136.out 2).trans rfl
         have hcz23_3 : wc.cell? ⟨gb1136, 3, none⟩ = some (.slice A0_3 l0_3.length c0_3) := (blk_cell BK1136.out 3).trans rfl
         have hcz23_4 : wc.cell? ⟨gb1136, 4, none⟩ = some (.int .i64 a0_4) := (blk_cell BK1136.out 4).trans rfl
         have hcz23_5 : wc.cell? ⟨gb1136, 5, none⟩ = some (.int .i64 a0_5) := (blk_cell BK1136.out 5).trans rfl
         have hfz23_0 := blk_frozen BK1136.out 0
         have hfz23_1 := blk_frozen BK1136.out 1
         have hfz23_2 := blk_frozen BK1136.out 2
         have hfz23_3 := blk_frozen BK1136.out 3
         have hfz23_4 := blk_frozen BK1136.out 4
         have hfz23_5 := blk_frozen BK1136.out 5
         go_wp2
         go_meet
         case rel => exact ⟨_, (true), (si_), H', ⟨by have := HJ1.out; first | omega | exact Nat.le_refl _⟩, ⟨by (with_reducible repeat (first | refine blk_drewN ?_ _ | refine blk_drew ?_ | refine blk_alloc ?_ _)); exact BK1136.out⟩, ⟨bel_⟩⟩
        ·rw [if_neg c22] at H
         have c22b0 : decide (a0_5 < 0) = false := decide_eq_false c22
         clear c22
         have H' := Aside0.mk H
         clear H
         have hcz24_0 : wc.cell? ⟨gb1136, 0, none⟩ = some (.int .i64 a0_0) := (blk_cell BK1136.out 0).trans rfl
         have hcz24_1 : wc.cell? ⟨gb1136, 1, none⟩ = some (.int .i64 a0_1) := (blk_cell BK1136.out 1).trans rfl
         have hcz24_2 : wc.cell? ⟨gb1136, 2, none⟩ = some (.slice A0_2 l0_2.length c0_2) := (blk_cell BK1136.out 2).trans rfl
         have hcz24_3 : wc.cell? ⟨gb1136, 3, none⟩ = some (.slice A0_3 l0_3.length c0_3) := (blk_cell BK1136.out 3).trans rfl
         have hcz24_4 : wc.cell? ⟨gb1136, 4, none⟩ = some (.int .i64 a0_4) := (blk_cell BK1136.out 4).trans rfl
         have hcz24_5 : wc.cell? ⟨gb1136, 5, none⟩ = some (.int .i64 a0_5) := (blk_cell BK1136.out 5).trans rfl
         have hfz24_0 := blk_frozen BK1136.out 0
         have hfz24_1 := blk_frozen BK1136.out 1
         have hfz24_2 := blk_frozen BK1136.out 2
         have hfz24_3 := blk_frozen BK1136.out 3
         have hfz24_4 := blk_frozen BK1136.out 4
         have hfz24_5 := blk_frozen BK1136.out 5
         go_wp2
         go_meet
         case rel => exact ⟨_, (decide (a0_5 > 6)), (si_), H', ⟨by have := HJ1.out; first | omega | exact Nat.le_refl _⟩, ⟨by (with_reducible repeat (first | refine blk_drewN ?_ _ | refine blk_drew ?_ | refine blk_alloc ?_ _)); exact BK1136.out⟩, ⟨bel_⟩⟩
    case rest =>
     clear HC15
     try clear c1
     try clear c2
     try clear p2
     try clear c5
     try clear c6
     try clear c6b0
     try clear p6
     try clear c8
     try clear c8b0
     try clear c10
     try clear c14
     try clear c16
     try clear c16b0
     try clear c18
     try clear c18b0
     try clear c20
     try clear c20b0
     try clear c22
     try clear c22b0
     try clear hcz11_0
     try clear hcz11_1
     try clear hcz11_2
     try clear hcz11_3
     try clear hcz11_4
     try clear hcz11_5
     try clear hcz13_0
     try clear hcz13_1
     try clear hcz13_2
     try clear hcz13_3
     try clear hcz13_4
     try clear hcz13_5
     try clear hcz17_0
     try clear hcz17_1
     try clear hcz17_2
     try clear hcz17_3
     try clear hcz17_4
     try clear hcz17_5
     try clear hcz19_0
     try clear hcz19_1
     try clear hcz19_2
     try clear hcz19_3
     try clear hcz19_4
     try clear hcz19_5
     try clear hcz21_0
     try clear hcz21_1
     try clear hcz21_2
     try clear hcz21_3
     try clear hcz21_4
     try clear hcz21_5
     try clear hcz23_0
     try clear hcz23_1
     try clear hcz23_2
     try clear hcz23_3
     try clear hcz23_4
     try clear hcz23_5
     try clear hcz24_0
     try clear hcz24_1
     try clear hcz24_2
     try clear hcz24_3
     try clear hcz24_4
     try clear hcz24_5
     try clear hcz7_0
     try clear hcz7_1
     try clear hcz7_2
     try clear hcz7_3
     try clear hcz7_4
     try clear hcz7_5
     try clear hcz9_0
     try clear hcz9_1
     try clear hcz9_2
     try clear hcz9_3
     try clear hcz9_4
     try clear hcz9_5
     try clear hfz11_0
     try clear hfz11_1
     try clear hfz11_2
     try clear hfz11_3
     try clear hfz11_4
     try clear hfz11_5
     try clear hfz13_0
     try clear hfz13_1
     try clear hfz13_2
     try clear hfz13_3
     try clear hfz13_4
     try clear hfz13_5
     try clear hfz17_0
     try clear hfz17_1
     try clear hfz17_2
     try clear hfz17_3
     try clear hfz17_4
     try clear hfz17_5
     try clear hfz19_0
     try clear hfz19_1
     try clear hfz19_2
     try clear hfz19_3
     try clear hfz19_4
     try clear hfz19_5
     try clear hfz21_0
     try clear hfz21_1
     try clear hfz21_2
     try clear hfz21_3
     try clear hfz21_4
     try clear hfz21_5
     try clear hfz23_0
     try clear hfz23_1
     try clear hfz23_2
     try clear hfz23_3
     try clear hfz23_4
     try clear hfz23_5
     try clear hfz24_0
     try clear hfz24_1
     try clear hfz24_2
     try clear hfz24_3
     try clear hfz24_4
     try clear hfz24_5
     try clear hfz7_0
     try clear hfz7_1
     try clear hfz7_2
     try clear hfz7_3
     try clear hfz7_4
     try clear hfz7_5
     try clear hfz9_0
     try clear hfz9_1
     try clear hfz9_2
     try clear hfz9_3
     try clear hfz9_4
     try clear hfz9_5
     try clear p2
     obtain ⟨kq, x53_14, rfl, HA, HJ14, BK1136, HB⟩ := hcut
     cases kq with
     | zero => exact absurd HA.out (by simp [impl_ClientOk.j1])
     | succ kj14 =>
      have H := HA.out
      clear HA
      simp only [impl_ClientOk.j1] at H
      by_cases c25 : x53_14 = true
      ·subst c25
       have H1 : (some false) = some r := by rw [if_pos rfl] at H; exact H
       clear H
       have H := H1
       clear H1
       obtain rfl := Option.some.inj H
       go_wp2
       go_ret
       exact ⟨fi_, bel_⟩
      ·replace c25 := Bool.eq_false_iff.mpr c25
       subst c25
       have H1 : (impl_ClientOk.l0 kj14 l0_3 (l0_3.length : Int) 0 a0_0 a0_1 l0_2 l0_3 a0_4 a0_5) = some r := by rw [if_neg (show ¬ (false = true) by decide)] at H; exact H
       clear H
       have H := H1
       clear H1
       have H' := Aside0.mk H
       clear H
       have hcz26_0 : wc.cell? ⟨gb1136, 0, none⟩ = some (.int .i64 a0_0) := (blk_cell BK1136.out 0).trans rfl
       have hcz26_1 : wc.cell? ⟨gb1136, 1, none⟩ = some (.int .i64 a0_1) := (blk_cell BK1136.out 1).trans rfl
       have hcz26_2 : wc.cell? ⟨gb1136, 2, none⟩ = some (.slice A0_2 l0_2.length c0_2) := (blk_cell BK1136.out 2).trans rfl
       have hcz26_3 : wc.cell? ⟨gb1136, 3, none⟩ = some (.slice A0_3 l0_3.length c0_3) := (blk_cell BK1136.out 3).trans rfl
       have hcz26_4 : wc.cell? ⟨gb1136, 4, none⟩ = some (.int .i64 a0_4) := (blk_cell BK1136.out 4).trans rfl
       have hcz26_5 : wc.cell? ⟨gb1136, 5, none⟩ = some (.int .i64 a0_5) := (blk_cell BK1136.out 5).trans rfl
       have hfz26_0 := blk_frozen BK1136.out 0
       have hfz26_1 := blk_frozen BK1136.out 1
       have hfz26_2 := blk_frozen BK1136.out 2
       have hfz26_3 := blk_frozen BK1136.out 3
       have hfz26_4 := blk_frozen BK1136.out 4
       have hfz26_5 := blk_frozen BK1136.out 5
       go_wp2
       go_loopg [57] kj14 (fun kq v57 w' => ∃ (x57_3 : Int), v57 = .int .i64 x57_3 ∧ Aside0 (impl_ClientOk.l0 kq l0_3 (l0_3.length : Int) x57_3 a0_0 a0_1 l0_2 l0_3 a0_4 a0_5 = some r) ∧ Aside0 (kq ≤ kj14) ∧ Aside0 (w'.heap[gb1136]? = some (.cells #[.int .i64 a0_0, .int .i64 a0_1, (.slice A0_2 l0_2.length c0_2), (.slice A0_3 l0_3.length c0_3), .int .i64 a0_4, .int .i64 a0_5] 77 (0, 0))) ∧ Aside0 (Below w.heap.size w w'))
       case atStart => exact ⟨(0), (si_), H', ⟨Nat.le_refl _⟩, ⟨by (with_reducible repeat (first | refine blk_drewN ?_ _ | refine blk_drew ?_ | refine blk_alloc ?_ _)); exact BK1136.out⟩, ⟨bel_⟩⟩
       case round =>
        clear H'
        try clear c1
        try clear c2
        try clear p2
        try clear c5
        try clear c6
        try clear c6b0
        try clear p6
        try clear c8
        try clear c8b0
        try clear c10
        try clear c14
        try clear c16
        try clear c16b0
        try clear c18
        try clear c18b0
        try clear c20
        try clear c20b0
        try clear c22
        try clear c22b0
        try clear c25
        try clear hcz11_0
        try clear hcz11_1
        try clear hcz11_2
        try clear hcz11_3
        try clear hcz11_4
        try clear hcz11_5
        try clear hcz13_0
        try clear hcz13_1
        try clear hcz13_2
        try clear hcz13_3
        try clear hcz13_4
        try clear hcz13_5
        try clear hcz17_0
        try clear hcz17_1
        try clear hcz17_2
        try clear hcz17_3
        try clear hcz17_4
        try clear hcz17_5
        try clear hcz19_0
        try clear hcz19_1
        try clear hcz19_2
        try clear hcz19_3
        try clear hcz19_4
        try clear hcz19_5
        try clear hcz21_0
        try clear hcz21_1
        try clear hcz21_2
        try clear hcz21_3
        try clear hcz21_4
        try clear hcz21_5
        try clear hcz23_0
        try clear hcz23_1
        try clear hcz23_2
        try clear hcz23_3
        try clear hcz23_4
        try clear hcz23_5
        try clear hcz24_0
        try clear hcz24_1
        try clear hcz24_2
        try clear hcz24_3
        try clear hcz24_4
        try clear hcz24_5
        try clear hcz26_0
        try clear hcz26_1
        try clear hcz26_2
        try clear hcz26_3
        try clear hcz26_4
        try clear hcz26_5
        try clear hcz7_0
        try clear hcz7_1
        try clear hcz7_2
        try clear hcz7_3
        try clear hcz7_4
        try clear hcz7_5
        try clear hcz9_0
        try clear hcz9_1
        try clear hcz9_2
        try clear hcz9_3
        try clear hcz9_4
        try clear hcz9_5
        try clear hfz11_0
        try clear hfz11_1
        try clear hfz11_2
        try clear hfz11_3
        try clear hfz11_4
        try clear hfz11_5
        try clear hfz13_0
        try clear hfz13_1
        try clear hfz13_2
        try clear hfz13_3
        try clear hfz13_4
        try clear hfz13_5
        try clear hfz17_0
        try clear hfz17_1
        try clear hfz17_2
        try clear hfz17_3
        try clear hfz17_4
        try clear hfz17_5
        try clear hfz19_0
        try clear hfz19_1
        try clear hfz19_2
        try clear hfz19_3
        try clear hfz19_4
        try clear hfz19_5
        try clear hfz21_0
        try clear hfz21_1
        try clear hfz21_2
        try clear hfz21_3
        try clear hfz21_4
        try clear hfz21_5
        try clear hfz23_0
        try clear hfz23_1
        try clear hfz23_2
        try clear hfz23_3
        try clear hfz23_4
        try clear hfz23_5
        try clear hfz24_0
        try clear hfz24_1
        try clear hfz24_2
        try clear hfz24_3
        try clear hfz24_4
        try clear hfz24_5
        try clear hfz26_0
        try clear hfz26_1
        try clear hfz26_2
        try clear hfz26_3
        try clear hfz26_4
        try clear hfz26_5
        try clear hfz7_0
        try clear hfz7_1
        try clear hfz7_2
        try clear hfz7_3
        try clear hfz7_4
        try clear hfz7_5
        try clear hfz9_0
        try clear hfz9_1
        try clear hfz9_2
        try clear hfz9_3
        try clear hfz9_4
        try clear hfz9_5
        try clear p2
        try clear p6
        obtain ⟨x57_3, rfl, HA, HK3, BK1136, HB⟩ := hrel
        cases gk with
        | zero => exact absurd HA.out (by simp [impl_ClientOk.l0])
        | succ k3 =>
         have H := HA.out
         clear HA
         simp only [impl_ClientOk.l0] at H
         by_cases c27 : x57_3 < (l0_3.length : Int)
         ·rw [if_pos c27] at H
          have c27b0 : decide (x57_3 < (l0_3.length : Int)) = true := decide_eq_true c27
          clear c27
          by_cases c28 : 0 ≤ x57_3
          ·rw [if_pos c28] at H
           have c28b0 : decide (0 ≤ x57_3) = true := decide_eq_true c28
           clear c28
           by_cases c29 : x57_3 < (l0_3.length : Int)
           ·rw [if_pos c29] at H
            have c29b0 : decide (x57_3 < (l0_3.length : Int)) = true := decide_eq_true c29
            clear c29
            have HC30 := Aside0.mk H
            clear H
            have p1139 : 0 ≤ (x57_3 : Int) := od_
            have q1139 : x57_3 < (l0_3.length : Int) := od_
            obtain ⟨ad1139, e1139, hx1139_0, hx1139_1, hx1139_2, hx1139_3, hx1139_4, hx1139_5, hx1139_6⟩ := at_T44 HR0_3.out x57_3 p1139 q1139
            cases e1139
            replace hx1139_0 := (cb_ HB.out hx1139_0 :)
            replace hx1139_1 := (cb_ HB.out hx1139_1 :)
            replace hx1139_2 := (cb_ HB.out hx1139_2 :)
            replace hx1139_3 := (cb_ HB.out hx1139_3 :)
            replace hx1139_4 := (cb_ HB.out hx1139_4 :)
            replace hx1139_5 := (cb_ HB.out hx1139_5 :)
            replace hx1139_6 := (cb_ HB.out hx1139_6 :)
            replace p1139 := eq_true p1139
            replace q1139 := eq_true q1139
            go_upto_region 8 with (first | ((with_reducible refine gate_dst (N := 4) rfl ?_); refine bx_ 4 (#[.int .i64 0, .int .i64 0, .int .i64 0, .int .i64 0, .int .i64 0, .int .i64 0, .string (⟨#[]⟩ : ByteArray)]) 44 ?_; intro gb1140 hg w31 hbox hb; have n0_ := Aside0.mk (bb_ BK1136.out hb); have n1_ := Aside0.mk (below_step (bel_) hb); have n2_ := Aside0.mk (hbox); have n3_ := Aside0.mk ((by rw [hg]; exact (below_size (bel_)) : w.heap.size ≤ gb1140)); have n4_ := Aside0.mk ((by rw [hg]; exact (below_size (bel_)) : w.heap.size ≤ gb1140)); have n5_ := Aside0.mk ((by rw [hg]; exact Nat.ne_of_lt (blk_lt (g := gb1136) (o := .cells #[.int .i64 a0_0, .int .i64 a0_1, .slice A0_2 l0_2.length c0_2, .slice (some ad1139) l0_3.length c0_3, .int .i64 a0_4, .int .i64 a0_5] 77 (0, 0)) (bp_ BK1136.out)) : gb1136 ≠ gb1140)); have n6_ := Aside0.mk ((by rw [hg]; exact Nat.ne_of_gt (blk_lt (g := gb1136) (o := .cells #[.int .i64 a0_0, .int .i64 a0_1, .slice A0_2 l0_2.length c0_2, .slice (some ad1139) l0_3.length c0_3, .int .i64 a0_4, .int .i64 a0_5] 77 (0, 0)) (bp_ BK1136.out)) : gb1140 ≠ gb1136)); clear BK1136; clear HB; have BK1136 := n0_; have HB := n1_; have BK1140 := n2_; have GW1140 := n3_; have GE1140 := n4_; have NB1136_1140 := n5_; have NB1140_1136 := n6_; clear n0_ n1_ n2_ n3_ n4_ n5_ n6_; clear hb hbox hg; have hnb32 := NB1140_1136.out; have hnc32 := NB1136_1140.out; have hcz33_0 := cz_ BK1140.out 0 (.int .i64 0); have hcz33_1 := cz_ BK1140.out 1 (.int .i64 0); have hcz33_2 := cz_ BK1140.out 2 (.int .i64 0); have hcz33_3 := cz_ BK1140.out 3 (.int .i64 0); have hcz33_4 := cz_ BK1140.out 4 (.int .i64 0); have hcz33_5 := cz_ BK1140.out 5 (.int .i64 0); have hcz33_6 := cz_ BK1140.out 6 (.string (⟨#[]⟩ : ByteArray)); have hfz33_0 := blk_frozen BK1140.out 0; have hfz33_1 := blk_frozen BK1140.out 1; have hfz33_2 := blk_frozen BK1140.out 2; have hfz33_3 := blk_frozen BK1140.out 3; have hfz33_4 := blk_frozen BK1140.out 4; have hfz33_5 := blk_frozen BK1140.out 5; have hfz33_6 := blk_frozen BK1140.out 6))
            (try simp only [Act.put, List.setIfInBounds_toArray, List.set_cons_zero, List.set_cons_succ])
            go_cut [81] (fun v81 wc => ∃ (kq : Nat) (x81_29 : Bool), v81 = .bool x81_29 ∧ Aside0 (impl_ClientOk.j3 kq l0_3 (l0_3.length : Int) x57_3 x81_29 a0_0 a0_1 l0_2 l0_3 a0_4 a0_5 ((rd_T44 l0_3 x57_3).f0) ((rd_T44 l0_3 x57_3).f1) ((rd_T44 l0_3 x57_3).f2.f0) ((rd_T44 l0_3 x57_3).f2.f1) ((rd_T44 l0_3 x57_3).f2.f2) ((rd_T44 l0_3 x57_3).f2.f3) ((rd_T44 l0_3 x57_3).f2.f4) = some r) ∧ Aside0 (kq ≤ k3) ∧ Aside0 (wc.heap[gb1136]? = some (.cells #[.int .i64 a0_0, .int .i64 a0_1, (.slice A0_2 l0_2.length c0_2), (.slice (some ad1139) l0_3.length c0_3), .int .i64 a0_4, .int .i64 a0_5] 77 (0, 0))) ∧ Aside0 (wc.heap[gb1140]? = some (.cells #[.int .i64 ((rd_T44 l0_3 x57_3).f0), .int .i64 ((rd_T44 l0_3 x57_3).f1), .int .i64 ((rd_T44 l0_3 x57_3).f2.f0), .int .i64 ((rd_T44 l0_3 x57_3).f2.f1), .int .i64 ((rd_T44 l0_3 x57_3).f2.f2), .int .i64 ((rd_T44 l0_3 x57_3).f2.f3), .string ((rd_T44 l0_3 x57_3).f2.f4)] 44 (0, 0))) ∧ Aside0 (Below w.heap.size w wc))
            case first =>
             have H := HC30.out
             clear HC30
             replace H := Option.bind_eq_some_iff.mp H
             obtain ⟨t1141, A340, H⟩ := H
             try dsimp only at H
             have A34 := Aside0.mk A340
             clear A340
             by_cases c35 : t1141 = true
             ·subst c35
              have H1 : (if ((rd_T44 l0_3 x57_3).f0) = a0_0 then (impl_ClientOk.j3 k3 l0_3 (l0_3.length : Int) x57_3 (((rd_T44 l0_3 x57_3).f1) != (wrap64 ((wrap64 (a0_4 + x57_3)) + 1))) a0_0 a0_1 l0_2 l0_3 a0_4 a0_5 ((rd_T44 l0_3 x57_3).f0) ((rd_T44 l0_3 x57_3).f1) ((rd_T44 l0_3 x57_3).f2.f0) ((rd_T44 l0_3 x57_3).f2.f1) ((rd_T44 l0_3 x57_3).f2.f2) ((rd_T44 l0_3 x57_3).f2.f3) ((rd_T44 l0_3 x57_3).f2.f4)) else (impl_ClientOk.j3 k3 l0_3 (l0_3.length : Int) x57_3 true a0_0 a0_1 l0_2 l0_3 a0_4 a0_5 ((rd_T44 l0_3 x57_3).f0) ((rd_T44 l0_3 x57_3).f1) ((rd_T44 l0_3 x57_3).f2.f0) ((rd_T44 l0_3 x57_3).f2.f1) ((rd_T44 l0_3 x57_3).f2.f2) ((rd_T44 l0_3 x57_3).f2.f3) ((rd_T44 l0_3 x57_3).f2.f4))) = some r := by rw [if_pos rfl] at H; exact H
              clear H
              have H := H1
              clear H1
              by_cases c36 : ((rd_T44 l0_3 x57_3).f0) = a0_0
              ·rw [if_pos c36] at H
               have c36b0 : (((rd_T44 l0_3 x57_3).f0) == a0_0) = true := beq_iff_eq.mpr c36
               have c36b1 : (((rd_T44 l0_3 x57_3).f0) != a0_0) = false := bne_eq_false_iff_eq.mpr c36
               clear c36
               (first | rw [c36b0] | (simp only [i64_w, i32_w]; rw [c36b0]) | skip)
               have H' := Aside0.mk H
               clear H
               have hnb37 := NB1140_1136.out
               have hnc37 := NB1136_1140.out
               have hcz38_0 := cz_ BK1140.out 0 (.int .i64 0)
               have hcz38_1 := cz_ BK1140.out 1 (.int .i64 0)
               have hcz38_2 := cz_ BK1140.out 2 (.int .i64 0)
               have hcz38_3 := cz_ BK1140.out 3 (.int .i64 0)
               have hcz38_4 := cz_ BK1140.out 4 (.int .i64 0)
               have hcz38_5 := cz_ BK1140.out 5 (.int .i64 0)
               have hcz38_6 := cz_ BK1140.out 6 (.string (⟨#[]⟩ : ByteArray))
               have hfz38_0 := blk_frozen BK1140.out 0
               have hfz38_1 := blk_frozen BK1140.out 1
               have hfz38_2 := blk_frozen BK1140.out 2
               have hfz38_3 := blk_frozen BK1140.out 3
               have hfz38_4 := blk_frozen BK1140.out 4
               have hfz38_5 := blk_frozen BK1140.out 5
               have hfz38_6 := blk_frozen BK1140.out 6
               go_wp2_with (first | ((with_reducible refine gate_callee (f := 78) rfl ?_); refine gl_ 63 Tryd.func78 #[.agg #[.int .i64 ((rd_T44 l0_3 x57_3).f0), .int .i64 ((rd_T44 l0_3 x57_3).f1), .int .i64 ((rd_T44 l0_3 x57_3).f2.f0), .int .i64 ((rd_T44 l0_3 x57_3).f2.f1), .int .i64 ((rd_T44 l0_3 x57_3).f2.f2), .int .i64 ((rd_T44 l0_3 x57_3).f2.f3), .string ((rd_T44 l0_3 x57_3).f2.f4)]] ?_; (with_reducible refine (impl_EntryOk.calls k3 ((rd_T44 l0_3 x57_3).f0) ((rd_T44 l0_3 x57_3).f1) ((rd_T44 l0_3 x57_3).f2.f0) ((rd_T44 l0_3 x57_3).f2.f1) ((rd_T44 l0_3 x57_3).f2.f2) ((rd_T44 l0_3 x57_3).f2.f3) ((rd_T44 l0_3 x57_3).f2.f4) true _ A34.out ?side1).mono ?_); (case side1 => exact Glob.below HG.out (bel_)); rintro e w39 ⟨rfl, hb⟩; refine ⟨_, rfl, ?_⟩; have n0_ := Aside0.mk (blk_below (g := gb1136) (o := .cells #[.int .i64 a0_0, .int .i64 a0_1, .slice A0_2 l0_2.length c0_2, .slice (some ad1139) l0_3.length c0_3, .int .i64 a0_4, .int .i64 a0_5] 77 (0, 0)) (by (with_reducible repeat (first | refine blk_drewN ?_ _ | refine blk_drew ?_ | refine blk_alloc ?_ _)); refine blk_far ?_ NB1136_1140.out _; (with_reducible repeat (first | refine blk_drewN ?_ _ | refine blk_drew ?_ | refine blk_alloc ?_ _)); refine blk_far ?_ NB1136_1140.out _; (with_reducible repeat (first | refine blk_drewN ?_ _ | refine blk_drew ?_ | refine blk_alloc ?_ _)); refine blk_far ?_ NB1136_1140.out _; (with_reducible repeat (first | refine blk_drewN ?_ _ | refine blk_drew ?_ | refine blk_alloc ?_ _)); refine blk_far ?_ NB1136_1140.out _; (with_reducible repeat (first | refine blk_drewN ?_ _ | refine blk_drew ?_ | refine blk_alloc ?_ _)); refine blk_far ?_ NB1136_1140.out _; (with_reducible repeat (first | refine blk_drewN ?_ _ | refine blk_drew ?_ | refine blk_alloc ?_ _)); refine blk_far ?_ NB1136_1140.out _; (with_reducible repeat (first | refine blk_drewN ?_ _ | refine blk_drew ?_ | refine blk_alloc ?_ _)); refine blk_far ?_ NB1136_1140.out _; (with_reducible repeat (first | refine blk_drewN ?_ _ | refine blk_drew ?_ | refine blk_alloc ?_ _)); exact BK1136.out) hb); have n1_ := Aside0.mk (blk_below (g := gb1140) (o := .cells #[.int .i64 ((rd_T44 l0_3 x57_3).f0), .int .i64 ((rd_T44 l0_3 x57_3).f1), .int .i64 ((rd_T44 l0_3 x57_3).f2.f0), .int .i64 ((rd_T44 l0_3 x57_3).f2.f1), .int .i64 ((rd_T44 l0_3 x57_3).f2.f2), .int .i64 ((rd_T44 l0_3 x57_3).f2.f3), .string ((rd_T44 l0_3 x57_3).f2.f4)] 44 (0, 0)) (by (with_reducible repeat (first | refine blk_drewN ?_ _ | refine blk_drew ?_ | refine blk_alloc ?_ _)); refine blk_put (cs := #[.int .i64 ((rd_T44 l0_3 x57_3).f0), .int .i64 ((rd_T44 l0_3 x57_3).f1), .int .i64 ((rd_T44 l0_3 x57_3).f2.f0), .int .i64 ((rd_T44 l0_3 x57_3).f2.f1), .int .i64 ((rd_T44 l0_3 x57_3).f2.f2), .int .i64 ((rd_T44 l0_3 x57_3).f2.f3), .string (⟨#[]⟩ : ByteArray)]) ?_ 6 _ rfl; (with_reducible repeat (first | refine blk_drewN ?_ _ | refine blk_drew ?_ | refine blk_alloc ?_ _)); refine blk_put (cs := #[.int .i64 ((rd_T44 l0_3 x57_3).f0), .int .i64 ((rd_T44 l0_3 x57_3).f1), .int .i64 ((rd_T44 l0_3 x57_3).f2.f0), .int .i64 ((rd_T44 l0_3 x57_3).f2.f1), .int .i64 ((rd_T44 l0_3 x57_3).f2.f2), .int .i64 0, .string (⟨#[]⟩ : ByteArray)]) ?_ 5 _ rfl; (with_reducible repeat (first | refine blk_drewN ?_ _ | refine blk_drew ?_ | refine blk_alloc ?_ _)); refine blk_put (cs := #[.int .i64 ((rd_T44 l0_3 x57_3).f0), .int .i64 ((rd_T44 l0_3 x57_3).f1), .int .i64 ((rd_T44 l0_3 x57_3).f2.f0), .int .i64 ((rd_T44 l0_3 x57_3).f2.f1), .int .i64 0, .int .i64 0, .string (⟨#[]⟩ : ByteArray)]) ?_ 4 _ rfl; (with_reducible repeat (first | refine blk_drewN ?_ _ | refine blk_drew ?_ | refine blk_alloc ?_ _)); refine blk_put (cs := #[.int .i64 ((rd_T44 l0_3 x57_3).f0), .int .i64 ((rd_T44 l0_3 x57_3).f1), .int .i64 ((rd_T44 l0_3 x57_3).f2.f0), .int .i64 0, .int .i64 0, .int .i64 0, .string (⟨#[]⟩ : ByteArray)]) ?_ 3 _ rfl; (with_reducible repeat (first | refine blk_drewN ?_ _ | refine blk_drew ?_ | refine blk_alloc ?_ _)); refine blk_put (cs := #[.int .i64 ((rd_T44 l0_3 x57_3).f0), .int .i64 ((rd_T44 l0_3 x57_3).f1), .int .i64 0, .int .i64 0, .int .i64 0, .int .i64 0, .string (⟨#[]⟩ : ByteArray)]) ?_ 2 _ rfl; (with_reducible repeat (first | refine blk_drewN ?_ _ | refine blk_drew ?_ | refine blk_alloc ?_ _)); refine blk_put (cs := #[.int .i64 ((rd_T44 l0_3 x57_3).f0), .int .i64 0, .int .i64 0, .int .i64 0, .int .i64 0, .int .i64 0, .string (⟨#[]⟩ : ByteArray)]) ?_ 1 _ rfl; (with_reducible repeat (first | refine blk_drewN ?_ _ | refine blk_drew ?_ | refine blk_alloc ?_ _)); refine blk_put (cs := #[.int .i64 0, .int .i64 0, .int .i64 0, .int .i64 0, .int .i64 0, .int .i64 0, .string (⟨#[]⟩ : ByteArray)]) ?_ 0 _ rfl; (with_reducible repeat (first | refine blk_drewN ?_ _ | refine blk_drew ?_ | refine blk_alloc ?_ _)); exact BK1140.out) hb); have n2_ := Aside0.mk (below_step (bel_) hb); clear BK1136; clear BK1140; clear HB; have BK1136 := n0_; have BK1140 := n1_; have HB := n2_; clear n0_ n1_ n2_; (try clear hb); have hcz40_0 := cz_ BK1140.out 0 (.int .i64 ((rd_T44 l0_3 x57_3).f0)); have hcz40_1 := cz_ BK1140.out 1 (.int .i64 ((rd_T44 l0_3 x57_3).f1)); have hcz40_2 := cz_ BK1140.out 2 (.int .i64 ((rd_T44 l0_3 x57_3).f2.f0)); have hcz40_3 := cz_ BK1140.out 3 (.int .i64 ((rd_T44 l0_3 x57_3).f2.f1)); have hcz40_4 := cz_ BK1140.out 4 (.int .i64 ((rd_T44 l0_3 x57_3).f2.f2)); have hcz40_5 := cz_ BK1140.out 5 (.int .i64 ((rd_T44 l0_3 x57_3).f2.f3)); have hcz40_6 := cz_ BK1140.out 6 (.string ((rd_T44 l0_3 x57_3).f2.f4)); have hfz40_0 := blk_frozen BK1140.out 0; have hfz40_1 := blk_frozen BK1140.out 1; have hfz40_2 := blk_frozen BK1140.out 2; have hfz40_3 := blk_frozen BK1140.out 3; have hfz40_4 := blk_frozen BK1140.out 4; have hfz40_5 := blk_frozen BK1140.out 5; have hfz40_6 := blk_frozen BK1140.out 6; have hcz41_0 := cz_ BK1136.out 0 (.int .i64 a0_0); have hcz41_1 := cz_ BK1136.out 1 (.int .i64 a0_1); have hcz41_2 := cz_ BK1136.out 2 (.slice A0_2 l0_2.length c0_2); have hcz41_3 := cz_ BK1136.out 3 (.slice (some ad1139) l0_3.length c0_3); have hcz41_4 := cz_ BK1136.out 4 (.int .i64 a0_4); have hcz41_5 := cz_ BK1136.out 5 (.int .i64 a0_5); have hfz41_0 := blk_frozen BK1136.out 0; have hfz41_1 := blk_frozen BK1136.out 1; have hfz41_2 := blk_frozen BK1136.out 2; have hfz41_3 := blk_frozen BK1136.out 3; have hfz41_4 := blk_frozen BK1136.out 4; have hfz41_5 := blk_frozen BK1136.out 5))
               go_meet
               case rel => exact ⟨_, ((((rd_T44 l0_3 x57_3).f1) != (wrap64 ((wrap64 (a0_4 + x57_3)) + 1)))), (si_), H', ⟨by have := HJ1.out; have := HJ14.out; have := HK3.out; first | omega | exact Nat.le_refl _⟩, ⟨by (with_reducible repeat (first | refine blk_drewN ?_ _ | refine blk_drew ?_ | refine blk_alloc ?_ _)); exact BK1136.out⟩, ⟨by (with_reducible repeat (first | refine blk_drewN ?_ _ | refine blk_drew ?_ | refine blk_alloc ?_ _)); exact BK1140.out⟩, ⟨bel_⟩⟩
              ·rw [if_neg c36] at H
               have c36b0 : (((rd_T44 l0_3 x57_3).f0) == a0_0) = false := beq_eq_false_iff_ne.mpr c36
               have c36b1 : (((rd_T44 l0_3 x57_3).f0) != a0_0) = true := bne_iff_ne.mpr c36
               (first | rw [c36b0] | (simp only [i64_w, i32_w]; rw [c36b0]) | skip)
               have H' := Aside0.mk H
               clear H
               have hnb42 := NB1140_1136.out
               have hnc42 := NB1136_1140.out
               have hcz43_0 := cz_ BK1140.out 0 (.int .i64 0)
               have hcz43_1 := cz_ BK1140.out 1 (.int .i64 0)
               have hcz43_2 := cz_ BK1140.out 2 (.int .i64 0)
               have hcz43_3 := cz_ BK1140.out 3 (.int .i64 0)
               have hcz43_4 := cz_ BK1140.out 4 (.int .i64 0)
               have hcz43_5 := cz_ BK1140.out 5 (.int .i64 0)
               have hcz43_6 := cz_ BK1140.out 6 (.string (⟨#[]⟩ : ByteArray))
               have hfz43_0 := blk_frozen BK1140.out 0
               have hfz43_1 := blk_frozen BK1140.out 1
               have hfz43_2 := blk_frozen BK1140.out 2
               have hfz43_3 := blk_frozen BK1140.out 3
               have hfz43_4 := blk_frozen BK1140.out 4
               have hfz43_5 := blk_frozen BK1140.out 5
               have hfz43_6 := blk_frozen BK1140.out 6
               go_wp2_with (first | ((with_reducible refine gate_callee (f := 78) rfl ?_); refine gl_ 63 Tryd.func78 #[.agg #[.int .i64 ((rd_T44 l0_3 x57_3).f0), .int .i64 ((rd_T44 l0_3 x57_3).f1), .int .i64 ((rd_T44 l0_3 x57_3).f2.f0), .int .i64 ((rd_T44 l0_3 x57_3).f2.f1), .int .i64 ((rd_T44 l0_3 x57_3).f2.f2), .int .i64 ((rd_T44 l0_3 x57_3).f2.f3), .string ((rd_T44 l0_3 x57_3).f2.f4)]] ?_; (with_reducible refine (impl_EntryOk.calls k3 ((rd_T44 l0_3 x57_3).f0) ((rd_T44 l0_3 x57_3).f1) ((rd_T44 l0_3 x57_3).f2.f0) ((rd_T44 l0_3 x57_3).f2.f1) ((rd_T44 l0_3 x57_3).f2.f2) ((rd_T44 l0_3 x57_3).f2.f3) ((rd_T44 l0_3 x57_3).f2.f4) true _ A34.out ?side1).mono ?_); (case side1 => exact Glob.below HG.out (bel_)); rintro e w44 ⟨rfl, hb⟩; refine ⟨_, rfl, ?_⟩; have n0_ := Aside0.mk (blk_below (g := gb1136) (o := .cells #[.int .i64 a0_0, .int .i64 a0_1, .slice A0_2 l0_2.length c0_2, .slice (some ad1139) l0_3.length c0_3, .int .i64 a0_4, .int .i64 a0_5] 77 (0, 0)) (by (with_reducible repeat (first | refine blk_drewN ?_ _ | refine blk_drew ?_ | refine blk_alloc ?_ _)); refine blk_far ?_ NB1136_1140.out _; (with_reducible repeat (first | refine blk_drewN ?_ _ | refine blk_drew ?_ | refine blk_alloc ?_ _)); refine blk_far ?_ NB1136_1140.out _; (with_reducible repeat (first | refine blk_drewN ?_ _ | refine blk_drew ?_ | refine blk_alloc ?_ _)); refine blk_far ?_ NB1136_1140.out _; (with_reducible repeat (first | refine blk_drewN ?_ _ | refine blk_drew ?_ | refine blk_alloc ?_ _)); refine blk_far ?_ NB1136_1140.out _; (with_reducible repeat (first | refine blk_drewN ?_ _ | refine blk_drew ?_ | refine blk_alloc ?_ _)); refine blk_far ?_ NB1136_1140.out _; (with_reducible repeat (first | refine blk_drewN ?_ _ | refine blk_drew ?_ | refine blk_alloc ?_ _)); refine blk_far ?_ NB1136_1140.out _; (with_reducible repeat (first | refine blk_drewN ?_ _ | refine blk_drew ?_ | refine blk_alloc ?_ _)); refine blk_far ?_ NB1136_1140.out _; (with_reducible repeat (first | refine blk_drewN ?_ _ | refine blk_drew ?_ | refine blk_alloc ?_ _)); exact BK1136.out) hb); have n1_ := Aside0.mk (blk_below (g := gb1140) (o := .cells #[.int .i64 ((rd_T44 l0_3 x57_3).f0), .int .i64 ((rd_T44 l0_3 x57_3).f1), .int .i64 ((rd_T44 l0_3 x57_3).f2.f0), .int .i64 ((rd_T44 l0_3 x57_3).f2.f1), .int .i64 ((rd_T44 l0_3 x57_3).f2.f2), .int .i64 ((rd_T44 l0_3 x57_3).f2.f3), .string ((rd_T44 l0_3 x57_3).f2.f4)] 44 (0, 0)) (by (with_reducible repeat (first | refine blk_drewN ?_ _ | refine blk_drew ?_ | refine blk_alloc ?_ _)); refine blk_put (cs := #[.int .i64 ((rd_T44 l0_3 x57_3).f0), .int .i64 ((rd_T44 l0_3 x57_3).f1), .int .i64 ((rd_T44 l0_3 x57_3).f2.f0), .int .i64 ((rd_T44 l0_3 x57_3).f2.f1), .int .i64 ((rd_T44 l0_3 x57_3).f2.f2), .int .i64 ((rd_T44 l0_3 x57_3).f2.f3), .string (⟨#[]⟩ : ByteArray)]) ?_ 6 _ rfl; (with_reducible repeat (first | refine blk_drewN ?_ _ | refine blk_drew ?_ | refine blk_alloc ?_ _)); refine blk_put (cs := #[.int .i64 ((rd_T44 l0_3 x57_3).f0), .int .i64 ((rd_T44 l0_3 x57_3).f1), .int .i64 ((rd_T44 l0_3 x57_3).f2.f0), .int .i64 ((rd_T44 l0_3 x57_3).f2.f1), .int .i64 ((rd_T44 l0_3 x57_3).f2.f2), .int .i64 0, .string (⟨#[]⟩ : ByteArray)]) ?_ 5 _ rfl; (with_reducible repeat (first | refine blk_drewN ?_ _ | refine blk_drew ?_ | refine blk_alloc ?_ _)); refine blk_put (cs := #[.int .i64 ((rd_T44 l0_3 x57_3).f0), .int .i64 ((rd_T44 l0_3 x57_3).f1), .int .i64 ((rd_T44 l0_3 x57_3).f2.f0), .int .i64 ((rd_T44 l0_3 x57_3).f2.f1), .int .i64 0, .int .i64 0, .string (⟨#[]⟩ : ByteArray)]) ?_ 4 _ rfl; (with_reducible repeat (first | refine blk_drewN ?_ _ | refine blk_drew ?_ | refine blk_alloc ?_ _)); refine blk_put (cs := #[.int .i64 ((rd_T44 l0_3 x57_3).f0), .int .i64 ((rd_T44 l0_3 x57_3).f1), .int .i64 ((rd_T44 l0_3 x57_3).f2.f0), .int .i64 0, .int .i64 0, .int .i64 0, .string (⟨#[]⟩ : ByteArray)]) ?_ 3 _ rfl; (with_reducible repeat (first | refine blk_drewN ?_ _ | refine blk_drew ?_ | refine blk_alloc ?_ _)); refine blk_put (cs := #[.int .i64 ((rd_T44 l0_3 x57_3).f0), .int .i64 ((rd_T44 l0_3 x57_3).f1), .int .i64 0, .int .i64 0, .int .i64 0, .int .i64 0, .string (⟨#[]⟩ : ByteArray)]) ?_ 2 _ rfl; (with_reducible repeat (first | refine blk_drewN ?_ _ | refine blk_drew ?_ | refine blk_alloc ?_ _)); refine blk_put (cs := #[.int .i64 ((rd_T44 l0_3 x57_3).f0), .int .i64 0, .int .i64 0, .int .i64 0, .int .i64 0, .int .i64 0, .string (⟨#[]⟩ : ByteArray)]) ?_ 1 _ rfl; (with_reducible repeat (first | refine blk_drewN ?_ _ | refine blk_drew ?_ | refine blk_alloc ?_ _)); refine blk_put (cs := #[.int .i64 0, .int .i64 0, .int .i64 0, .int .i64 0, .int .i64 0, .int .i64 0, .string (⟨#[]⟩ : ByteArray)]) ?_ 0 _ rfl; (with_reducible repeat (first | refine blk_drewN ?_ _ | refine blk_drew ?_ | refine blk_alloc ?_ _)); exact BK1140.out) hb); have n2_ := Aside0.mk (below_step (bel_) hb); clear BK1136; clear BK1140; clear HB; have BK1136 := n0_; have BK1140 := n1_; have HB := n2_; clear n0_ n1_ n2_; (try clear hb); have hcz45_0 := cz_ BK1140.out 0 (.int .i64 ((rd_T44 l0_3 x57_3).f0)); have hcz45_1 := cz_ BK1140.out 1 (.int .i64 ((rd_T44 l0_3 x57_3).f1)); have hcz45_2 := cz_ BK1140.out 2 (.int .i64 ((rd_T44 l0_3 x57_3).f2.f0)); have hcz45_3 := cz_ BK1140.out 3 (.int .i64 ((rd_T44 l0_3 x57_3).f2.f1)); have hcz45_4 := cz_ BK1140.out 4 (.int .i64 ((rd_T44 l0_3 x57_3).f2.f2)); have hcz45_5 := cz_ BK1140.out 5 (.int .i64 ((rd_T44 l0_3 x57_3).f2.f3)); have hcz45_6 := cz_ BK1140.out 6 (.string ((rd_T44 l0_3 x57_3).f2.f4)); have hfz45_0 := blk_frozen BK1140.out 0; have hfz45_1 := blk_frozen BK1140.out 1; have hfz45_2 := blk_frozen BK1140.out 2; have hfz45_3 := blk_frozen BK1140.out 3; have hfz45_4 := blk_frozen BK1140.out 4; have hfz45_5 := blk_frozen BK1140.out 5; have hfz45_6 := blk_frozen BK1140.out 6; have hcz46_0 := cz_ BK1136.out 0 (.int .i64 a0_0); have hcz46_1 := cz_ BK1136.out 1 (.int .i64 a0_1); have hcz46_2 := cz_ BK1136.out 2 (.slice A0_2 l0_2.length c0_2); have hcz46_3 := cz_ BK1136.out 3 (.slice (some ad1139) l0_3.length c0_3); have hcz46_4 := cz_ BK1136.out 4 (.int .i64 a0_4); have hcz46_5 := cz_ BK1136.out 5 (.int .i64 a0_5); have hfz46_0 := blk_frozen BK1136.out 0; have hfz46_1 := blk_frozen BK1136.out 1; have hfz46_2 := blk_frozen BK1136.out 2; have hfz46_3 := blk_frozen BK1136.out 3; have hfz46_4 := blk_frozen BK1136.out 4; have hfz46_5 := blk_frozen BK1136.out 5))
               go_meet
               case rel => exact ⟨_, (true), (si_), H', ⟨by have := HJ1.out; have := HJ14.out; have := HK3.out; first | omega | exact Nat.le_refl _⟩, ⟨by (with_reducible repeat (first | refine blk_drewN ?_ _ | refine blk_drew ?_ | refine blk_alloc ?_ _)); exact BK1136.out⟩, ⟨by (with_reducible repeat (first | refine blk_drewN ?_ _ | refine blk_drew ?_ | refine blk_alloc ?_ _)); exact BK1140.out⟩, ⟨bel_⟩⟩
             ·replace c35 := Bool.eq_false_iff.mpr c35
              subst c35
              have H1 : (impl_ClientOk.j3 k3 l0_3 (l0_3.length : Int) x57_3 true a0_0 a0_1 l0_2 l0_3 a0_4 a0_5 ((rd_T44 l0_3 x57_3).f0) ((rd_T44 l0_3 x57_3).f1) ((rd_T44 l0_3 x57_3).f2.f0) ((rd_T44 l0_3 x57_3).f2.f1) ((rd_T44 l0_3 x57_3).f2.f2) ((rd_T44 l0_3 x57_3).f2.f3) ((rd_T44 l0_3 x57_3).f2.f4)) = some r := by rw [if_neg (show ¬ (false = true) by decide)] at H; exact H
              clear H
              have H := H1
              clear H1
              have H' := Aside0.mk H
              clear H
              have hnb47 := NB1140_1136.out
              have hnc47 := NB1136_1140.out
              have hcz48_0 := cz_ BK1140.out 0 (.int .i64 0)
              have hcz48_1 := cz_ BK1140.out 1 (.int .i64 0)
              have hcz48_2 := cz_ BK1140.out 2 (.int .i64 0)
              have hcz48_3 := cz_ BK1140.out 3 (.int .i64 0)
              have hcz48_4 := cz_ BK1140.out 4 (.int .i64 0)
              have hcz48_5 := cz_ BK1140.out 5 (.int .i64 0)
              have hcz48_6 := cz_ BK1140.out 6 (.string (⟨#[]⟩ : ByteArray))
              have hfz48_0 := blk_frozen BK1140.out 0
              have hfz48_1 := blk_frozen BK1140.out 1
              have hfz48_2 := blk_frozen BK1140.out 2
              have hfz48_3 := blk_frozen BK1140.out 3
              have hfz48_4 := blk_frozen BK1140.out 4
              have hfz48_5 := blk_frozen BK1140.out 5
              have hfz48_6 := blk_frozen BK1140.out 6
              go_wp2_with (first | ((with_reducible refine gate_callee (f := 78) rfl ?_); refine gl_ 63 Tryd.func78 #[.agg #[.int .i64 ((rd_T44 l0_3 x57_3).f0), .int .i64 ((rd_T44 l0_3 x57_3).f1), .int .i64 ((rd_T44 l0_3 x57_3).f2.f0), .int .i64 ((rd_T44 l0_3 x57_3).f2.f1), .int .i64 ((rd_T44 l0_3 x57_3).f2.f2), .int .i64 ((rd_T44 l0_3 x57_3).f2.f3), .string ((rd_T44 l0_3 x57_3).f2.f4)]] ?_; (with_reducible refine (impl_EntryOk.calls k3 ((rd_T44 l0_3 x57_3).f0) ((rd_T44 l0_3 x57_3).f1) ((rd_T44 l0_3 x57_3).f2.f0) ((rd_T44 l0_3 x57_3).f2.f1) ((rd_T44 l0_3 x57_3).f2.f2) ((rd_T44 l0_3 x57_3).f2.f3) ((rd_T44 l0_3 x57_3).f2.f4) false _ A34.out ?side1).mono ?_); (case side1 => exact Glob.below HG.out (bel_)); rintro e w49 ⟨rfl, hb⟩; refine ⟨_, rfl, ?_⟩; have n0_ := Aside0.mk (blk_below (g := gb1136) (o := .cells #[.int .i64 a0_0, .int .i64 a0_1, .slice A0_2 l0_2.length c0_2, .slice (some ad1139) l0_3.length c0_3, .int .i64 a0_4, .int .i64 a0_5] 77 (0, 0)) (by (with_reducible repeat (first | refine blk_drewN ?_ _ | refine blk_drew ?_ | refine blk_alloc ?_ _)); refine blk_far ?_ NB1136_1140.out _; (with_reducible repeat (first | refine blk_drewN ?_ _ | refine blk_drew ?_ | refine blk_alloc ?_ _)); refine blk_far ?_ NB1136_1140.out _; (with_reducible repeat (first | refine blk_drewN ?_ _ | refine blk_drew ?_ | refine blk_alloc ?_ _)); refine blk_far ?_ NB1136_1140.out _; (with_reducible repeat (first | refine blk_drewN ?_ _ | refine blk_drew ?_ | refine blk_alloc ?_ _)); refine blk_far ?_ NB1136_1140.out _; (with_reducible repeat (first | refine blk_drewN ?_ _ | refine blk_drew ?_ | refine blk_alloc ?_ _)); refine blk_far ?_ NB1136_1140.out _; (with_reducible repeat (first | refine blk_drewN ?_ _ | refine blk_drew ?_ | refine blk_alloc ?_ _)); refine blk_far ?_ NB1136_1140.out _; (with_reducible repeat (first | refine blk_drewN ?_ _ | refine blk_drew ?_ | refine blk_alloc ?_ _)); refine blk_far ?_ NB1136_1140.out _; (with_reducible repeat (first | refine blk_drewN ?_ _ | refine blk_drew ?_ | refine blk_alloc ?_ _)); exact BK1136.out) hb); have n1_ := Aside0.mk (blk_below (g := gb1140) (o := .cells #[.int .i64 ((rd_T44 l0_3 x57_3).f0), .int .i64 ((rd_T44 l0_3 x57_3).f1), .int .i64 ((rd_T44 l0_3 x57_3).f2.f0), .int .i64 ((rd_T44 l0_3 x57_3).f2.f1), .int .i64 ((rd_T44 l0_3 x57_3).f2.f2), .int .i64 ((rd_T44 l0_3 x57_3).f2.f3), .string ((rd_T44 l0_3 x57_3).f2.f4)] 44 (0, 0)) (by (with_reducible repeat (first | refine blk_drewN ?_ _ | refine blk_drew ?_ | refine blk_alloc ?_ _)); refine blk_put (cs := #[.int .i64 ((rd_T44 l0_3 x57_3).f0), .int .i64 ((rd_T44 l0_3 x57_3).f1), .int .i64 ((rd_T44 l0_3 x57_3).f2.f0), .int .i64 ((rd_T44 l0_3 x57_3).f2.f1), .int .i64 ((rd_T44 l0_3 x57_3).f2.f2), .int .i64 ((rd_T44 l0_3 x57_3).f2.f3), .string (⟨#[]⟩ : ByteArray)]) ?_ 6 _ rfl; (with_reducible repeat (first | refine blk_drewN ?_ _ | refine blk_drew ?_ | refine blk_alloc ?_ _)); refine blk_put (cs := #[.int .i64 ((rd_T44 l0_3 x57_3).f0), .int .i64 ((rd_T44 l0_3 x57_3).f1), .int .i64 ((rd_T44 l0_3 x57_3).f2.f0), .int .i64 ((rd_T44 l0_3 x57_3).f2.f1), .int .i64 ((rd_T44 l0_3 x57_3).f2.f2), .int .i64 0, .string (⟨#[]⟩ : ByteArray)]) ?_ 5 _ rfl; (with_reducible repeat (first | refine blk_drewN ?_ _ | refine blk_drew ?_ | refine blk_alloc ?_ _)); refine blk_put (cs := #[.int .i64 ((rd_T44 l0_3 x57_3).f0), .int .i64 ((rd_T44 l0_3 x57_3).f1), .int .i64 ((rd_T44 l0_3 x57_3).f2.f0), .int .i64 ((rd_T44 l0_3 x57_3).f2.f1), .int .i64 0, .int .i64 0, .string (⟨#[]⟩ : ByteArray)]) ?_ 4 _ rfl; (with_reducible repeat (first | refine blk_drewN ?_ _ | refine blk_drew ?_ | refine blk_alloc ?_ _)); refine blk_put (cs := #[.int .i64 ((rd_T44 l0_3 x57_3).f0), .int .i64 ((rd_T44 l0_3 x57_3).f1), .int .i64 ((rd_T44 l0_3 x57_3).f2.f0), .int .i64 0, .int .i64 0, .int .i64 0, .string (⟨#[]⟩ : ByteArray)]) ?_ 3 _ rfl; (with_reducible repeat (first | refine blk_drewN ?_ _ | refine blk_drew ?_ | refine blk_alloc ?_ _)); refine blk_put (cs := #[.int .i64 ((rd_T44 l0_3 x57_3).f0), .int .i64 ((rd_T44 l0_3 x57_3).f1), .int .i64 0, .int .i64 0, .int .i64 0, .int .i64 0, .string (⟨#[]⟩ : ByteArray)]) ?_ 2 _ rfl; (with_reducible repeat (first | refine blk_drewN ?_ _ | refine blk_drew ?_ | refine blk_alloc ?_ _)); refine blk_put (cs := #[.int .i64 ((rd_T44 l0_3 x57_3).f0), .int .i64 0, .int .i64 0, .int .i64 0, .int .i64 0, .int .i64 0, .string (⟨#[]⟩ : ByteArray)]) ?_ 1 _ rfl; (with_reducible repeat (first | refine blk_drewN ?_ _ | refine blk_drew ?_ | refine blk_alloc ?_ _)); refine blk_put (cs := #[.int .i64 0, .int .i64 0, .int .i64 0, .int .i64 0, .int .i64 0, .int .i64 0, .string (⟨#[]⟩ : ByteArray)]) ?_ 0 _ rfl; (with_reducible repeat (first | refine blk_drewN ?_ _ | refine blk_drew ?_ | refine blk_alloc ?_ _)); exact BK1140.out) hb); have n2_ := Aside0.mk (below_step (bel_) hb); clear BK1136; clear BK1140; clear HB; have BK1136 := n0_; have BK1140 := n1_; have HB := n2_; clear n0_ n1_ n2_; (try clear hb)))
              go_meet
              case rel => exact ⟨_, (true), (si_), H', ⟨by have := HJ1.out; have := HJ14.out; have := HK3.out; first | omega | exact Nat.le_refl _⟩, ⟨by (with_reducible repeat (first | refine blk_drewN ?_ _ | refine blk_drew ?_ | refine blk_alloc ?_ _)); exact BK1136.out⟩, ⟨by (with_reducible repeat (first | refine blk_drewN ?_ _ | refine blk_drew ?_ | refine blk_alloc ?_ _)); exact BK1140.out⟩, ⟨bel_⟩⟩
            case rest =>
             clear HC30
             try clear c1
             try clear p1
             try clear q1
             try clear hx1
             try clear c2
             try clear p2
             try clear c3
             try clear c4
             try clear c5
             try clear c6
             try clear c6b0
             try clear p6
             try clear c7
             try clear c8
             try clear c8b0
             try clear c10
             try clear p11
             try clear q11
             try clear hx11
             try clear c14
             try clear c16
             try clear c16b0
             try clear c18
             try clear c18b0
             try clear c20
             try clear c20b0
             try clear c22
             try clear c22b0
             try clear c25
             try clear c27
             try clear c27b0
             try clear c28
             try clear c28b0
             try clear c29
             try clear c29b0
             try clear c32
             try clear c35
             try clear c36
             try clear c36b0
             try clear c36b1
             try clear c37
             try clear c42
             try clear c47
             try clear hcz11_0
             try clear hcz11_1
             try clear hcz11_2
             try clear hcz11_3
             try clear hcz11_4
             try clear hcz11_5
             try clear hcz13_0
             try clear hcz13_1
             try clear hcz13_2
             try clear hcz13_3
             try clear hcz13_4
             try clear hcz13_5
             try clear hcz17_0
             try clear hcz17_1
             try clear hcz17_2
             try clear hcz17_3
             try clear hcz17_4
             try clear hcz17_5
             try clear hcz19_0
             try clear hcz19_1
             try clear hcz19_2
             try clear hcz19_3
             try clear hcz19_4
             try clear hcz19_5
             try clear hcz21_0
             try clear hcz21_1
             try clear hcz21_2
             try clear hcz21_3
             try clear hcz21_4
             try clear hcz21_5
             try clear hcz23_0
             try clear hcz23_1
             try clear hcz23_2
             try clear hcz23_3
             try clear hcz23_4
             try clear hcz23_5
             try clear hcz24_0
             try clear hcz24_1
             try clear hcz24_2
             try clear hcz24_3
             try clear hcz24_4
             try clear hcz24_5
             try clear hcz26_0
             try clear hcz26_1
             try clear hcz26_2
             try clear hcz26_3
             try clear hcz26_4
             try clear hcz26_5
             try clear hcz33_0
             try clear hcz33_1
             try clear hcz33_2
             try clear hcz33_3
             try clear hcz33_4
             try clear hcz33_5
             try clear hcz33_6
             try clear hcz38_0
             try clear hcz38_1
             try clear hcz38_2
             try clear hcz38_3
             try clear hcz38_4
             try clear hcz38_5
             try clear hcz38_6
             try clear hcz40_0
             try clear hcz40_1
             try clear hcz40_2
             try clear hcz40_3
             try clear hcz40_4
             try clear hcz40_5
             try clear hcz40_6
             try clear hcz41_0
             try clear hcz41_1
             try clear hcz41_2
             try clear hcz41_3
             try clear hcz41_4
             try clear hcz41_5
             try clear hcz43_0
             try clear hcz43_1
             try clear hcz43_2
             try clear hcz43_3
             try clear hcz43_4
             try clear hcz43_5
             try clear hcz43_6
             try clear hcz45_0
             try clear hcz45_1
             try clear hcz45_2
             try clear hcz45_3
             try clear hcz45_4
             try clear hcz45_5
             try clear hcz45_6
             try clear hcz46_0
             try clear hcz46_1
             try clear hcz46_2
             try clear hcz46_3
             try clear hcz46_4
             try clear hcz46_5
             try clear hcz48_0
             try clear hcz48_1
             try clear hcz48_2
             try clear hcz48_3
             try clear hcz48_4
             try clear hcz48_5
             try clear hcz48_6
             try clear hcz7_0
             try clear hcz7_1
             try clear hcz7_2
             try clear hcz7_3
             try clear hcz7_4
             try clear hcz7_5
             try clear hcz9_0
             try clear hcz9_1
             try clear hcz9_2
             try clear hcz9_3
             try clear hcz9_4
             try clear hcz9_5
             try clear hfz11_0
             try clear hfz11_1
             try clear hfz11_2
             try clear hfz11_3
             try clear hfz11_4
             try clear hfz11_5
             try clear hfz13_0
             try clear hfz13_1
             try clear hfz13_2
             try clear hfz13_3
             try clear hfz13_4
             try clear hfz13_5
             try clear hfz17_0
             try clear hfz17_1
             try clear hfz17_2
             try clear hfz17_3
             try clear hfz17_4
             try clear hfz17_5
             try clear hfz19_0
             try clear hfz19_1
             try clear hfz19_2
             try clear hfz19_3
             try clear hfz19_4
             try clear hfz19_5
             try clear hfz21_0
             try clear hfz21_1
             try clear hfz21_2
             try clear hfz21_3
             try clear hfz21_4
             try clear hfz21_5
             try clear hfz23_0
             try clear hfz23_1
             try clear hfz23_2
             try clear hfz23_3
             try clear hfz23_4
             try clear hfz23_5
             try clear hfz24_0
             try clear hfz24_1
             try clear hfz24_2
             try clear hfz24_3
             try clear hfz24_4
             try clear hfz24_5
             try clear hfz26_0
             try clear hfz26_1
             try clear hfz26_2
             try clear hfz26_3
             try clear hfz26_4
             try clear hfz26_5
             try clear hfz33_0
             try clear hfz33_1
             try clear hfz33_2
             try clear hfz33_3
             try clear hfz33_4
             try clear hfz33_5
             try clear hfz33_6
             try clear hfz38_0
             try clear hfz38_1
             try clear hfz38_2
             try clear hfz38_3
             try clear hfz38_4
             try clear hfz38_5
             try clear hfz38_6
             try clear hfz40_0
             try clear hfz40_1
             try clear hfz40_2
             try clear hfz40_3
             try clear hfz40_4
             try clear hfz40_5
             try clear hfz40_6
             try clear hfz41_0
             try clear hfz41_1
             try clear hfz41_2
             try clear hfz41_3
             try clear hfz41_4
             try clear hfz41_5
             try clear hfz43_0
             try clear hfz43_1
             try clear hfz43_2
             try clear hfz43_3
             try clear hfz43_4
             try clear hfz43_5
             try clear hfz43_6
             try clear hfz45_0
             try clear hfz45_1
             try clear hfz45_2
             try clear hfz45_3
             try clear hfz45_4
             try clear hfz45_5
             try clear hfz45_6
             try clear hfz46_0
             try clear hfz46_1
             try clear hfz46_2
             try clear hfz46_3
             try clear hfz46_4
             try clear hfz46_5
             try clear hfz48_0
             try clear hfz48_1
             try clear hfz48_2
             try clear hfz48_3
             try clear hfz48_4
             try clear hfz48_5
             try clear hfz48_6
             try clear hfz7_0
             try clear hfz7_1
             try clear hfz7_2
             try clear hfz7_3
             try clear hfz7_4
             try clear hfz7_5
             try clear hfz9_0
             try clear hfz9_1
             try clear hfz9_2
             try clear hfz9_3
             try clear hfz9_4
             try clear hfz9_5
             try clear hx1139_0
             try clear hx1139_1
             try clear hx1139_2
             try clear hx1139_3
             try clear hx1139_4
             try clear hx1139_5
             try clear hx1139_6
             try clear p1139
             try clear p2
             try clear p6
             try clear q1139
             obtain ⟨kq, x81_29, rfl, HA, HJ29, BK1136, BK1140, HB⟩ := hcut
             cases kq with
             | zero => exact absurd HA.out (by simp [impl_ClientOk.j3])
             | succ kj29 =>
              have H := HA.out
              clear HA
              simp only [impl_ClientOk.j3] at H
              by_cases c50 : x81_29 = true
              ·subst c50
               have H1 : (some false) = some r := by rw [if_pos rfl] at H; exact H
               clear H
               have H := H1
               clear H1
               obtain rfl := Option.some.inj H
               go_wp2
               go_ret
               exact ⟨fi_, bel_⟩
              ·replace c50 := Bool.eq_false_iff.mpr c50
               subst c50
               have H1 : (if ((rd_T44 l0_3 x57_3).f2.f0) = 1 then (if ((rd_T44 l0_3 x57_3).f2.f1) > (wrap64 ((wrap64 (10 * a0_0)) + a0_5)) then (some false) else (impl_ClientOk.l0 kj29 l0_3 (l0_3.length : Int) (wrap64 (x57_3 + 1)) a0_0 a0_1 l0_2 l0_3 a0_4 a0_5)) else (impl_ClientOk.l0 kj29 l0_3 (l0_3.length : Int) (wrap64 (x57_3 + 1)) a0_0 a0_1 l0_2 l0_3 a0_4 a0_5)) = some r := by rw [if_neg (show ¬ (false = true) by decide)] at H; exact H
               clear H
               have H := H1
               clear H1
               by_cases c51 : ((rd_T44 l0_3 x57_3).f2.f0) = 1
               ·rw [if_pos c51] at H
                have c51b0 : (((rd_T44 l0_3 x57_3).f2.f0) == 1) = true := beq_iff_eq.mpr c51
                have c51b1 : (((rd_T44 l0_3 x57_3).f2.f0) != 1) = false := bne_eq_false_iff_eq.mpr c51
                clear c51
                by_cases c52 : ((rd_T44 l0_3 x57_3).f2.f1) > (wrap64 ((wrap64 (10 * a0_0)) + a0_5))
                ·rw [if_pos c52] at H
                 have c52b0 : decide ((wrap64 ((wrap64 (10 * a0_0)) + a0_5)) < ((rd_T44 l0_3 x57_3).f2.f1)) = true := decide_eq_true c52
                 clear c52
                 obtain rfl := Option.some.inj H
                 have hnb53 := NB1140_1136.out
                 have hnc53 := NB1136_1140.out
                 have hcz54_0 : wc.cell? ⟨gb1140, 0, none⟩ = some (.int .i64 ((rd_T44 l0_3 x57_3).f0)) := (blk_cell BK1140.out 0).trans rfl
                 have hcz54_1 : wc.cell? ⟨gb1140, 1, none⟩ = some (.int .i64 ((rd_T44 l0_3 x57_3).f1)) := (blk_cell BK1140.out 1).trans rfl
                 have hcz54_2 : wc.cell? ⟨gb1140, 2, none⟩ = some (.int .i64 ((rd_T44 l0_3 x57_3).f2.f0)) := (blk_cell BK1140.out 2).trans rfl
                 have hcz54_3 : wc.cell? ⟨gb1140, 3, none⟩ = some (.int .i64 ((rd_T44 l0_3 x57_3).f2.f1)) := (blk_cell BK1140.out 3).trans rfl
                 have hcz54_4 : wc.cell? ⟨gb1140, 4, none⟩ = some (.int .i64 ((rd_T44 l0_3 x57_3).f2.f2)) := (blk_cell BK1140.out 4).trans rfl
                 have hcz54_5 : wc.cell? ⟨gb1140, 5, none⟩ = some (.int .i64 ((rd_T44 l0_3 x57_3).f2.f3)) := (blk_cell BK1140.out 5).trans rfl
                 have hcz54_6 : wc.cell? ⟨gb1140, 6, none⟩ = some (.string ((rd_T44 l0_3 x57_3).f2.f4)) := (blk_cell BK1140.out 6).trans rfl
                 have hfz54_0 := blk_frozen BK1140.out 0
                 have hfz54_1 := blk_frozen BK1140.out 1
                 have hfz54_2 := blk_frozen BK1140.out 2
                 have hfz54_3 := blk_frozen BK1140.out 3
                 have hfz54_4 := blk_frozen BK1140.out 4
                 have hfz54_5 := blk_frozen BK1140.out 5
                 have hfz54_6 := blk_frozen BK1140.out 6
                 have hcz55_0 : wc.cell? ⟨gb1136, 0, none⟩ = some (.int .i64 a0_0) := (blk_cell BK1136.out 0).trans rfl
                 have hcz55_1 : wc.cell? ⟨gb1136, 1, none⟩ = some (.int .i64 a0_1) := (blk_cell BK1136.out 1).trans rfl
                 have hcz55_2 : wc.cell? ⟨gb1136, 2, none⟩ = some (.slice A0_2 l0_2.length c0_2) := (blk_cell BK1136.out 2).trans rfl
                 have hcz55_3 : wc.cell? ⟨gb1136, 3, none⟩ = some (.slice (some ad1139) l0_3.length c0_3) := (blk_cell BK1136.out 3).trans rfl
                 have hcz55_4 : wc.cell? ⟨gb1136, 4, none⟩ = some (.int .i64 a0_4) := (blk_cell BK1136.out 4).trans rfl
                 have hcz55_5 : wc.cell? ⟨gb1136, 5, none⟩ = some (.int .i64 a0_5) := (blk_cell BK1136.out 5).trans rfl
                 have hfz55_0 := blk_frozen BK1136.out 0
                 have hfz55_1 := blk_frozen BK1136.out 1
                 have hfz55_2 := blk_frozen BK1136.out 2
                 have hfz55_3 := blk_frozen BK1136.out 3
                 have hfz55_4 := blk_frozen BK1136.out 4
                 have hfz55_5 := blk_frozen BK1136.out 5
                 go_wp2
                 go_ret
                 exact ⟨fi_, bel_⟩
                ·rw [if_neg c52] at H
                 have c52b0 : decide ((wrap64 ((wrap64 (10 * a0_0)) + a0_5)) < ((rd_T44 l0_3 x57_3).f2.f1)) = false := decide_eq_false c52
                 clear c52
                 have H' := Aside0.mk H
                 clear H
                 have hnb56 := NB1140_1136.out
                 have hnc56 := NB1136_1140.out
                 have hcz57_0 : wc.cell? ⟨gb1140, 0, none⟩ = some (.int .i64 ((rd_T44 l0_3 x57_3).f0)) := (blk_cell BK1140.out 0).trans rfl
                 have hcz57_1 : wc.cell? ⟨gb1140, 1, none⟩ = some (.int .i64 ((rd_T44 l0_3 x57_3).f1)) := (blk_cell BK1140.out 1).trans rfl
                 have hcz57_2 : wc.cell? ⟨gb1140, 2, none⟩ = some (.int .i64 ((rd_T44 l0_3 x57_3).f2.f0)) := (blk_cell BK1140.out 2).trans rfl
                 have hcz57_3 : wc.cell? ⟨gb1140, 3, none⟩ = some (.int .i64 ((rd_T44 l0_3 x57_3).f2.f1)) := (blk_cell BK1140.out 3).trans rfl
                 have hcz57_4 : wc.cell? ⟨gb1140, 4, none⟩ = some (.int .i64 ((rd_T44 l0_3 x57_3).f2.f2)) := (blk_cell BK1140.out 4).trans rfl
                 have hcz57_5 : wc.cell? ⟨gb1140, 5, none⟩ = some (.int .i64 ((rd_T44 l0_3 x57_3).f2.f3)) := (blk_cell BK1140.out 5).trans rfl
                 have hcz57_6 : wc.cell? ⟨gb1140, 6, none⟩ = some (.string ((rd_T44 l0_3 x57_3).f2.f4)) := (blk_cell BK1140.out 6).trans rfl
                 have hfz57_0 := blk_frozen BK1140.out 0
                 have hfz57_1 := blk_frozen BK1140.out 1
                 have hfz57_2 := blk_frozen BK1140.out 2
                 have hfz57_3 := blk_frozen BK1140.out 3
                 have hfz57_4 := blk_frozen BK1140.out 4
                 have hfz57_5 := blk_frozen BK1140.out 5
                 have hfz57_6 := blk_frozen BK1140.out 6
                 have hcz58_0 : wc.cell? ⟨gb1136, 0, none⟩ = some (.int .i64 a0_0) := (blk_cell BK1136.out 0).trans rfl
                 have hcz58_1 : wc.cell? ⟨gb1136, 1, none⟩ = some (.int .i64 a0_1) := (blk_cell BK1136.out 1).trans rfl
                 have hcz58_2 : wc.cell? ⟨gb1136, 2, none⟩ = some (.slice A0_2 l0_2.length c0_2) := (blk_cell BK1136.out 2).trans rfl
                 have hcz58_3 : wc.cell? ⟨gb1136, 3, none⟩ = some (.slice (some ad1139) l0_3.length c0_3) := (blk_cell BK1136.out 3).trans rfl
                 have hcz58_4 : wc.cell? ⟨gb1136, 4, none⟩ = some (.int .i64 a0_4) := (blk_cell BK1136.out 4).trans rfl
                 have hcz58_5 : wc.cell? ⟨gb1136, 5, none⟩ = some (.int .i64 a0_5) := (blk_cell BK1136.out 5).trans rfl
                 have hfz58_0 := blk_frozen BK1136.out 0
                 have hfz58_1 := blk_frozen BK1136.out 1
                 have hfz58_2 := blk_frozen BK1136.out 2
                 have hfz58_3 := blk_frozen BK1136.out 3
                 have hfz58_4 := blk_frozen BK1136.out 4
                 have hfz58_5 := blk_frozen BK1136.out 5
                 go_wp2
                 go_roundg kj29
                 case measure => have := HJ1.out; have := HJ14.out; have := HK3.out; have := HJ29.out; omega
                 case rel => exact ⟨(wrap64 (x57_3 + 1)), (si_), H', ⟨by have := HJ1.out; have := HJ14.out; have := HK3.out; have := HJ29.out; omega⟩, ⟨by (with_reducible repeat (first | refine blk_drewN ?_ _ | refine blk_drew ?_ | refine blk_alloc ?_ _)); exact BK1136.out⟩, ⟨bel_⟩⟩
               ·rw [if_neg c51] at H
                have c51b0 : (((rd_T44 l0_3 x57_3).f2.f0) == 1) = false := beq_eq_false_iff_ne.mpr c51
                have c51b1 : (((rd_T44 l0_3 x57_3).f2.f0) != 1) = true := bne_iff_ne.mpr c51
                have H' := Aside0.mk H
                clear H
                have hnb59 := NB1140_1136.out
                have hnc59 := NB1136_1140.out
                have hcz60_0 : wc.cell? ⟨gb1140, 0, none⟩ = some (.int .i64 ((rd_T44 l0_3 x57_3).f0)) := (blk_cell BK1140.out 0).trans rfl
                have hcz60_1 : wc.cell? ⟨gb1140, 1, none⟩ = some (.int .i64 ((rd_T44 l0_3 x57_3).f1)) := (blk_cell BK1140.out 1).trans rfl
                have hcz60_2 : wc.cell? ⟨gb1140, 2, none⟩ = some (.int .i64 ((rd_T44 l0_3 x57_3).f2.f0)) := (blk_cell BK1140.out 2).trans rfl
                have hcz60_3 : wc.cell? ⟨gb1140, 3, none⟩ = some (.int .i64 ((rd_T44 l0_3 x57_3).f2.f1)) := (blk_cell BK1140.out 3).trans rfl
                have hcz60_4 : wc.cell? ⟨gb1140, 4, none⟩ = some (.int .i64 ((rd_T44 l0_3 x57_3).f2.f2)) := (blk_cell BK1140.out 4).trans rfl
                have hcz60_5 : wc.cell? ⟨gb1140, 5, none⟩ = some (.int .i64 ((rd_T44 l0_3 x57_3).f2.f3)) := (blk_cell BK1140.out 5).trans rfl
                have hcz60_6 : wc.cell? ⟨gb1140, 6, none⟩ = some (.string ((rd_T44 l0_3 x57_3).f2.f4)) := (blk_cell BK1140.out 6).trans rfl
                have hfz60_0 := blk_frozen BK1140.out 0
                have hfz60_1 := blk_frozen BK1140.out 1
                have hfz60_2 := blk_frozen BK1140.out 2
                have hfz60_3 := blk_frozen BK1140.out 3
                have hfz60_4 := blk_frozen BK1140.out 4
                have hfz60_5 := blk_frozen BK1140.out 5
                have hfz60_6 := blk_frozen BK1140.out 6
                go_wp2
                go_roundg kj29
                case measure => have := HJ1.out; have := HJ14.out; have := HK3.out; have := HJ29.out; omega
                case rel => exact ⟨(wrap64 (x57_3 + 1)), (si_), H', ⟨by have := HJ1.out; have := HJ14.out; have := HK3.out; have := HJ29.out; omega⟩, ⟨by (with_reducible repeat (first | refine blk_drewN ?_ _ | refine blk_drew ?_ | refine blk_alloc ?_ _)); exact BK1136.out⟩, ⟨bel_⟩⟩
           ·rw [if_neg c29] at H
            exact absurd H (by simp)
          ·rw [if_neg c28] at H
           exact absurd H (by simp)
         ·rw [if_neg c27] at H
          have c27b0 : decide (x57_3 < (l0_3.length : Int)) = false := decide_eq_false c27
          clear c27
          obtain rfl := Option.some.inj H
          go_wp2
          go_ret
          exact ⟨fi_, bel_⟩

mutual
def spec_TreeOk.l0 : Nat → List (S69) → Int → Int → Option (Bool)
 | 0, _, _, _ => none
 | k + 1, x0, x3, x4 => if x4 < (x0.length : Int) then (if 0 ≤ x4 then ((spec_RowOk.f k ((rd_T69 x0 x4).f0) ((rd_T69 x0 x4).f1) ((rd_T69 x0 x4).f2)).bind fun t1194 => (if t1194 = true then (if x4 > 0 then (if 0 ≤ (wrap64 (x4 - 1)) then (if (wrap64 (x4 - 1)) < (x0.length : Int) then (spec_TreeOk.j1 k x0 x3 x4 (decide (((rd_T69 x0 x4).f1) > (wrap64 (((rd_T69 x0 (wrap64 (x4 - 1))).f1) + 1))))) else (none)) else (none)) else (spec_TreeOk.j1 k x0 x3 x4 false)) else (spec_TreeOk.j1 k x0 x3 x4 true))) else (none)) else (if x3 = 3 then (if 0 < (x0.length : Int) then (some (((rd_T69 x0 0).f0) == 1)) else (none)) else (some false))
def spec_TreeOk.j1 : Nat → List (S69) → Int → Int → Bool → Option (Bool)
 | 0, _, _, _, _ => none
 | k + 1, x0, x3, x4, x36 => if x36 = true then (some false) else (if 0 ≤ x4 then (if x4 < (x0.length : Int) then ((spec_l1Root.f ((rd_T69 x0 x4).f0)).bind fun t1198 => (if t1198 = true then (if ((rd_T69 x0 x4).f0) = (wrap64 (x3 + 1)) then (spec_TreeOk.j2 k x0 (wrap64 (x3 + 1)) x4) else (some false)) else (spec_TreeOk.j2 k x0 x3 x4))) else (none)) else (none))
def spec_TreeOk.j2 : Nat → List (S69) → Int → Int → Option (Bool)
 | 0, _, _, _ => none
 | k + 1, x0, x3, x4 => spec_TreeOk.l1 k x0 x3 x4 0
def spec_TreeOk.l1 : Nat → List (S69) → Int → Int → Int → Option (Bool)
 | 0, _, _, _, _ => none
 | k + 1, x0, x3, x4, x5 => if x5 < x4 then (if 0 ≤ x5 then (if x5 < (x0.length : Int) then (if 0 ≤ x4 then (if x4 < (x0.length : Int) then (if ((rd_T69 x0 x5).f0) = ((rd_T69 x0 x4).f0) then (some false) else (spec_TreeOk.l1 k x0 x3 x4 (wrap64 (x5 + 1)))) else (none)) else (none)) else (none)) else (none)) else (spec_TreeOk.l0 k x0 x3 (wrap64 (x4 + 1)))
end
def spec_TreeOk.f (k : Nat) (l0 : List (S69)) : Option (Bool) := spec_TreeOk.l0 k l0 0 0
theorem spec_TreeOk.mono_l : ∀ k, (∀ y0 y1 y2, LeO (spec_TreeOk.l0 k y0 y1 y2) (spec_TreeOk.l0 (k + 1) y0 y1 y2)) ∧ (∀ y0 y1 y2 y3, LeO (spec_TreeOk.j1 k y0 y1 y2 y3) (spec_TreeOk.j1 (k + 1) y0 y1 y2 y3)) ∧ (∀ y0 y1 y2, LeO (spec_TreeOk.j2 k y0 y1 y2) (spec_TreeOk.j2 (k + 1) y0 y1 y2)) ∧ (∀ y0 y1 y2 y3, LeO (spec_TreeOk.l1 k y0 y1 y2 y3) (spec_TreeOk.l1 (k + 1) y0 y1 y2 y3))
 | 0 => ⟨fun _ _ _ r h => by simp [spec_TreeOk.l0] at h, fun _ _ _ _ r h => by simp [spec_TreeOk.j1] at h, fun _ _ _ r h => by simp [spec_TreeOk.j2] at h, fun _ _ _ _ r h => by simp [spec_TreeOk.l1] at h⟩
 | k + 1 => by
  obtain ⟨ih0, ih1, ih2, ih3⟩ := spec_TreeOk.mono_l k
  refine ⟨?_, ?_, ?_, ?_⟩
  all_goals intros
  all_goals first | unfold spec_TreeOk.l0 | unfold spec_TreeOk.j1 | unfold spec_TreeOk.j2 | unfold spec_TreeOk.l1
  all_goals repeat' first
  | (with_reducible exact ih0 _ _ _)
  | (with_reducible exact ih1 _ _ _ _)
  | (with_reducible exact ih2 _ _ _)
  | (with_reducible exact ih3 _ _ _ _)
  | (with_reducible exact spec_RowOk.mono _ _ _ _)
  | (with_reducible exact LeO.refl _)
  | (with_reducible exact LeO.none _)
  | (with_reducible refine LeO.ite ?_ ?_)
  | (with_reducible refine LeO.bind ?_ (fun _ => ?_))
  | exact ih0 _ _ _
  | exact ih1 _ _ _ _
  | exact ih2 _ _ _
  | exact ih3 _ _ _ _
  | exact spec_RowOk.mono _ _ _ _
  | exact LeO.none _
  | refine LeO.ite ?_ ?_
  | refine LeO.bind ?_ (fun _ => ?_)
theorem spec_TreeOk.mono : ∀ a0 k, LeO (spec_TreeOk.f k a0) (spec_TreeOk.f (k + 1) a0) := by
 intro a0 k
 obtain ⟨ih0, ih1, ih2, ih3⟩ := spec_TreeOk.mono_l k
 unfold spec_TreeOk.f
 repeat' first
   | (with_reducible exact ih0 _ _ _)
   | (with_reducible exact ih1 _ _ _ _)
   | (with_reducible exact ih2 _ _ _)
   | (with_reducible exact ih3 _ _ _ _)
   | (with_reducible exact spec_RowOk.mono _ _ _ _)
   | (with_reducible exact LeO.refl _)
   | (with_reducible exact LeO.none _)
   | (with_reducible refine LeO.ite ?_ ?_)
   | (with_reducible refine LeO.bind ?_ (fun _ => ?_))
   | exact ih0 _ _ _
   | exact ih1 _ _ _ _
   | exact ih2 _ _ _
   | exact ih3 _ _ _ _
   | exact spec_RowOk.mono _ _ _ _
   | exact LeO.none _
   | refine LeO.ite ?_ ?_
   | refine LeO.bind ?_ (fun _ => ?_)
def spec_TreeOk.T5 : Bool × List (List Nat × List Nat) := (true, [([], []), ([], []), ([0, 1], [0, 1]), ([2], [2]), ([3], [3]), ([4], [4]), ([5, 4], [5]), ([6], [6]), ([7, 6], [6, 7]), ([8, 6, 6], [6, 8]), ([9], [9]), ([9], [9]), ([10, 11, 9], [9, 10, 11]), ([12, 9], [9, 12]), ([13, 9], [9, 13]), ([9], [9]), ([9], [9]), ([16, 9], [9, 16]), ([15, 17, 9], [9, 15, 17]), ([18, 9], [9, 18]), ([19, 9], [9, 19]), ([20, 9], [9, 20]), ([14, 21, 9], [9, 14, 21]), ([9, 22, 6], [6, 9, 22]), ([6, 23], [6, 23])])
def spec_TreeOk.B5 : List Nat := [0, 0, 3, 7, 15, 31, 63, 127, 255, 511, 1023, 1023, 4095, 8191, 16383, 1023, 1023, 66559, 230399, 492543, 1016831, 2065407, 4194303, 8388607, 16777215]
theorem spec_TreeOk.tab5 : rtab .any (opsOf Tryd.f110 5) = spec_TreeOk.T5 := by kernel_rfl
theorem spec_TreeOk.bits5 : waitsOk spec_TreeOk.T5.2 spec_TreeOk.B5 = true := by kernel_rfl
def spec_TreeOk.T14 : Bool × List (List Nat × List Nat) := (true, [([], []), ([], []), ([0, 1], [0, 1]), ([2], [2]), ([3], [3]), ([], []), ([], []), ([5, 6], [5, 6]), ([7], [7]), ([8], [8]), ([4, 9], [4, 9])])
def spec_TreeOk.B14 : List Nat := [0, 0, 3, 7, 15, 0, 0, 96, 224, 480, 1023]
theorem spec_TreeOk.tab14 : rtab .any (opsOf Tryd.f110 14) = spec_TreeOk.T14 := by kernel_rfl
theorem spec_TreeOk.bits14 : waitsOk spec_TreeOk.T14.2 spec_TreeOk.B14 = true := by kernel_rfl
set_option maxHeartbeats 8000000 in
set_option maxRecDepth 100000 in
theorem spec_TreeOk.calls (k : Nat) (A0 : Option Addr) (c0 : Nat) (l0 : List (S69)) (r : Bool) (w : World) (hr0 : Kd.C k69 w A0 l0.length l0) (hc0 : l0.length ≤ c0) (h : spec_TreeOk.f k l0 = some r) :
  Calls Tryd.prog 110 #[.slice A0 l0.length c0] w fun e w' => e = .returned (.bool r) ∧ Below w.heap.size w w' := by
 have hu69 := Tryd.underlying69
 have HR0 := Aside0.mk hr0
 have HC0 := Aside0.mk hc0
 clear hr0 hc0
 have HB := Aside0.mk (Below.refl w.heap.size w)
 unfold spec_TreeOk.f at h
 have H := h
 clear h
 have H' := Aside0.mk H
 clear H
 go_enter Tryd.func110, Tryd.ntmps110
 go_wp2
 go_loopg [3, 4] k (fun kq v3 v4 w' => ∃ (x3_1 : Int) (x4_1 : Int), v3 = .int .i64 x3_1 ∧ v4 = .int .i64 x4_1 ∧ Aside0 (spec_TreeOk.l0 kq l0 x3_1 x4_1 = some r) ∧ Aside0 (kq ≤ k) ∧ Aside0 (Below w.heap.size w w'))
 case atStart => exact ⟨(0), (0), (si_), (si_), H', ⟨Nat.le_refl _⟩, ⟨bel_⟩⟩
 case round =>
  clear H'
  try clear c1
  obtain ⟨x3_1, x4_1, rfl, rfl, HA, HK1, HB⟩ := hrel
  cases gk with
  | zero => exact absurd HA.out (by simp [spec_TreeOk.l0])
  | succ k1 =>
   have H := HA.out
   clear HA
   simp only [spec_TreeOk.l0] at H
   by_cases c2 : x4_1 < (l0.length : Int)
   ·rw [if_pos c2] at H
    have c2b0 : decide (x4_1 < (l0.length : Int)) = true := decide_eq_true c2
    clear c2
    have HC3 := Aside0.mk H
    clear H
    go_upto_region 5 with (fail)
    go_cut [36] (fun v36 wc => ∃ (kq : Nat) (x36_2 : Bool), v36 = .bool x36_2 ∧ Aside0 (spec_TreeOk.j1 kq l0 x3_1 x4_1 x36_2 = some r) ∧ Aside0 (kq ≤ k1) ∧ Aside0 (Below w.heap.size w wc))
    case first =>
     have H := HC3.out
     clear HC3
     by_cases c4 : 0 ≤ x4_1
     ·rw [if_pos c4] at H
      have c4b0 : decide (0 ≤ x4_1) = true := decide_eq_true c4
      clear c4
      (first | rw [c4b0] | (simp only [i64_w, i32_w]; rw [c4b0]) | skip)
      replace H := Option.bind_eq_some_iff.mp H
      obtain ⟨t1194, A50, H⟩ := H
      try dsimp only at H
      have A5 := Aside0.mk A50
      clear A50
      by_cases c6 : t1194 = true
      ·subst c6
       have H1 : (if x4_1 > 0 then (if 0 ≤ (wrap64 (x4_1 - 1)) then (if (wrap64 (x4_1 - 1)) < (l0.length : Int) then (spec_TreeOk.j1 k1 l0 x3_1 x4_1 (decide (((rd_T69 l0 x4_1).f1) > (wrap64 (((rd_T69 l0 (wrap64 (x4_1 - 1))).f1) + 1))))) else (none)) else (none)) else (spec_TreeOk.j1 k1 l0 x3_1 x4_1 false)) = some r := by rw [if_pos rfl] at H; exact H
       clear H
       have H := H1
       clear H1
       by_cases c7 : x4_1 > 0
       ·rw [if_pos c7] at H
        have c7b0 : decide (0 < x4_1) = true := decide_eq_true c7
        clear c7
        obtain ⟨ji8, hji8⟩ : ∃ j_ : Int, (wrap64 (x4_1 - 1)) = j_ := ⟨_, rfl⟩
        replace H : (if 0 ≤ (ji8) then (if (ji8) < (l0.length : Int) then (spec_TreeOk.j1 k1 l0 x3_1 x4_1 (decide (((rd_T69 l0 x4_1).f1) > (wrap64 (((rd_T69 l0 (ji8)).f1) + 1))))) else (none)) else (none)) = some r := by first | (rw [hji8] at H; exact H) | (simp only [hji8] at H ⊢; exact H)
        (try rw [hji8] at A5)
        have hji8w : (IntKind.i64.wrap (x4_1 - 1)) = ji8 := (i64_w _).trans hji8
        by_cases c9 : 0 ≤ (ji8)
        ·rw [if_pos c9] at H
         have c9b0 : decide (0 ≤ (ji8)) = true := decide_eq_true c9
         clear c9
         by_cases c10 : (ji8) < (l0.length : Int)
         ·rw [if_pos c10] at H
          have c10b0 : decide ((ji8) < (l0.length : Int)) = true := decide_eq_true c10
          clear c10
          have H' := Aside0.mk H
          clear H
          try go_wp2
          have n0_ := Aside0.mk (below_drew1 HB.out)
          clear HB
          have HB := n0_
          clear n0_
          have p1193 : 0 ≤ (x4_1 : Int) := od_
          have q1193 : x4_1 < (l0.length : Int) := od_
          obtain ⟨ad1193, e1193, hx1193_0, hx1193_1, hx1193_2⟩ := at_T69 HR0.out x4_1 p1193 q1193
          have hw1193_2 := hx1193_2
          have hw1193_1 := hx1193_1
          have hw1193_0 := hx1193_0
          cases e1193
          replace hx1193_0 := (cb_ HB.out hx1193_0 :)
          replace hx1193_1 := (cb_ HB.out hx1193_1 :)
          replace hx1193_2 := (cb_ HB.out hx1193_2 :)
          replace p1193 := eq_true p1193
          replace q1193 := eq_true q1193
          have p1195 : 0 ≤ (x4_1 : Int) := od_
          have q1195 : x4_1 < (l0.length : Int) := od_
          obtain ⟨ad1195, e1195, hx1195_0, hx1195_1, hx1195_2⟩ := at_T69 HR0.out x4_1 p1195 q1195
          have hw1195_2 := hx1195_2
          have hw1195_1 := hx1195_1
          have hw1195_0 := hx1195_0
          obtain rfl : ad1193 = ad1195 := (by injection e1195)
          replace hx1195_0 := (cb_ HB.out hx1195_0 :)
          replace hx1195_1 := (cb_ HB.out hx1195_1 :)
          replace hx1195_2 := (cb_ HB.out hx1195_2 :)
          replace p1195 := eq_true p1195
          replace q1195 := eq_true q1195
          have p1196 : 0 ≤ ((ji8) : Int) := od_
          have q1196 : (ji8) < (l0.length : Int) := od_
          obtain ⟨ad1196, e1196, hx1196_0, hx1196_1, hx1196_2⟩ := at_T69 HR0.out (ji8) p1196 q1196
          have hw1196_2 := hx1196_2
          have hw1196_1 := hx1196_1
          have hw1196_0 := hx1196_0
          obtain rfl : ad1193 = ad1196 := (by injection e1196)
          replace hx1196_0 := (cb_ HB.out hx1196_0 :)
          replace hx1196_1 := (cb_ HB.out hx1196_1 :)
          replace hx1196_2 := (cb_ HB.out hx1196_2 :)
          replace p1196 := eq_true p1196
          replace q1196 := eq_true q1196
          refine start_ (n := 25) (S := fun w' => w'.cell? (ad1193.add ((x4_1).toNat * 3)) = some (.int .i64 ((rd_T69 l0 x4_1).f0)) ∧ w'.cell? ⟨(ad1193.add ((x4_1).toNat * 3)).block, (ad1193.add ((x4_1).toNat * 3)).off + 1, none⟩ = some (.int .i64 ((rd_T69 l0 x4_1).f1)) ∧ w'.cell? ⟨(ad1193.add ((x4_1).toNat * 3)).block, (ad1193.add ((x4_1).toNat * 3)).off + 2, none⟩ = some (.string ((rd_T69 l0 x4_1).f2)) ∧ w'.cell? (ad1193.add ((x4_1).toNat * 3)) = some (.int .i64 ((rd_T69 l0 x4_1).f0)) ∧ w'.cell? ⟨(ad1193.add ((x4_1).toNat * 3)).block, (ad1193.add ((x4_1).toNat * 3)).off + 1, none⟩ = some (.int .i64 ((rd_T69 l0 x4_1).f1)) ∧ w'.cell? ⟨(ad1193.add ((x4_1).toNat * 3)).block, (ad1193.add ((x4_1).toNat * 3)).off + 2, none⟩ = some (.string ((rd_T69 l0 x4_1).f2)) ∧ w'.cell? (ad1193.add (((ji8)).toNat * 3)) = some (.int .i64 ((rd_T69 l0 (ji8)).f0)) ∧ w'.cell? ⟨(ad1193.add (((ji8)).toNat * 3)).block, (ad1193.add (((ji8)).toNat * 3)).off + 1, none⟩ = some (.int .i64 ((rd_T69 l0 (ji8)).f1)) ∧ w'.cell? ⟨(ad1193.add (((ji8)).toNat * 3)).block, (ad1193.add (((ji8)).toNat * 3)).off + 2, none⟩ = some (.string ((rd_T69 l0 (ji8)).f2))) (ds := []) #[false, false, false, false, false, false, false, false, false, false, false, false, false, false, false, false, false, false, false, false, false, false, false, false, false] (by kernel_rfl) rfl rfl ⟨((cb_ HB.out hw1193_0 :)), ((cb_ HB.out hw1193_1 :)), ((cb_ HB.out hw1193_2 :)), ((cb_ HB.out hw1195_0 :)), ((cb_ HB.out hw1195_1 :)), ((cb_ HB.out hw1195_2 :)), ((cb_ HB.out hw1196_0 :)), ((cb_ HB.out hw1196_1 :)), ((cb_ HB.out hw1196_2 :))⟩ (fun hHeld => ?_); refine with_tabW spec_TreeOk.tab5 spec_TreeOk.bits5 (fun HT_ HW_ => ?_)
          generalize wr.drew = w11 at HB hx1193_0 hx1193_1 hx1193_2 hx1195_0 hx1195_1 hx1195_2 hx1196_0 hx1196_1 hx1196_2 hHeld ⊢
          refine pa_ 0 12 ?_
          refine pa_ 1 13 ?_
          refine pa_ 2 14 ?_
          refine ta9_ 3 15 hHeld ?_
          refine on_ 4 16 (fun K hK => ?_)
          refine goes_ Tryd.func140 (by kernel_rfl) rfl #[.agg #[.int .i64 ((rd_T69 l0 x4_1).f0), .int .i64 ((rd_T69 l0 x4_1).f1), .string ((rd_T69 l0 x4_1).f2)]] (by rfl) rfl rfl ar_ ?_
          with_reducible refine (spec_RowOk.calls k1 ((rd_T69 l0 x4_1).f0) ((rd_T69 l0 x4_1).f1) ((rd_T69 l0 x4_1).f2) true _ A5.out).mono ?_
          rintro e w12 ⟨rfl, hb⟩
          refine ⟨_, rfl, ?_⟩
          have n0_ := Aside0.mk (below_step (bel_) hb)
          clear HB
          have HB := n0_
          clear n0_
          (try clear hb)
          (try clear hb2)
          (try clear hk)
          (try clear hi)
          refine hK.out _ _ ⟨((cb_ HB.out hw1193_0 :)), ((cb_ HB.out hw1193_1 :)), ((cb_ HB.out hw1193_2 :)), ((cb_ HB.out hw1195_0 :)), ((cb_ HB.out hw1195_1 :)), ((cb_ HB.out hw1195_2 :)), ((cb_ HB.out hw1196_0 :)), ((cb_ HB.out hw1196_1 :)), ((cb_ HB.out hw1196_2 :))⟩ (fun hHeld => ?_)
          clear hK K
          refine no_ 16 ?_
          refine pa_ 5 17 ?_
          refine pa_ 6 18 ?_
          refine pa_ 7 19 ?_
          refine pa_ 8 20 ?_
          refine pa_ 9 21 ?_
          refine pa_ 10 22 ?_
          refine pa_ 11 23 ?_
          refine pa_ 12 24 ?_
          refine pa_ 13 25 ?_
          refine pa_ 15 27 ?_
          refine pa_ 16 28 ?_
          refine pa_ 17 29 ?_
          refine pa_ 18 30 ?_
          refine pa_ 19 31 ?_
          refine ta9_ 14 26 hHeld ?_
          refine ta9_ 20 32 hHeld ?_
          refine pa_ 21 33 ?_
          refine pa_ 22 34 ?_
          refine pa_ 23 35 ?_
          refine pa_ 24 36 ?_
          refine done_ (done_of HT_.out (by kernel_rfl)) ?_
          try go_wp2
          go_meet
          case rel => exact ⟨_, (decide (((rd_T69 l0 x4_1).f1) > (wrap64 (((rd_T69 l0 (ji8)).f1) + 1)))), (by first | rfl | (simp; done) | (simp only [← hji8] <;> (first | rfl | simp)) | (simp [*]; done)), H', ⟨by have := HK1.out; first | omega | exact Nat.le_refl _⟩, ⟨bel_⟩⟩
         ·rw [if_neg c10] at H
          exact absurd H (by simp)
        ·rw [if_neg c9] at H
         exact absurd H (by simp)
       ·rw [if_neg c7] at H
        have c7b0 : decide (0 < x4_1) = false := decide_eq_false c7
        clear c7
        have H' := Aside0.mk H
        clear H
        try go_wp2
        have n0_ := Aside0.mk (below_drew1 HB.out)
        clear HB
        have HB := n0_
        clear n0_
        have p1193 : 0 ≤ (x4_1 : Int) := od_
        have q1193 : x4_1 < (l0.length : Int) := od_
        obtain ⟨ad1193, e1193, hx1193_0, hx1193_1, hx1193_2⟩ := at_T69 HR0.out x4_1 p1193 q1193
        have hw1193_2 := hx1193_2
        have hw1193_1 := hx1193_1
        have hw1193_0 := hx1193_0
        cases e1193
        replace hx1193_0 := (cb_ HB.out hx1193_0 :)
        replace hx1193_1 := (cb_ HB.out hx1193_1 :)
        replace hx1193_2 := (cb_ HB.out hx1193_2 :)
        replace p1193 := eq_true p1193
        replace q1193 := eq_true q1193
        refine start_ (n := 25) (S := fun w' => w'.cell? (ad1193.add ((x4_1).toNat * 3)) = some (.int .i64 ((rd_T69 l0 x4_1).f0)) ∧ w'.cell? ⟨(ad1193.add ((x4_1).toNat * 3)).block, (ad1193.add ((x4_1).toNat * 3)).off + 1, none⟩ = some (.int .i64 ((rd_T69 l0 x4_1).f1)) ∧ w'.cell? ⟨(ad1193.add ((x4_1).toNat * 3)).block, (ad1193.add ((x4_1).toNat * 3)).off + 2, none⟩ = some (.string ((rd_T69 l0 x4_1).f2))) (ds := []) #[false, false, false, false, false, false, false, false, false, false, false, false, false, false, false, false, false, false, false, false, false, false, false, false, false] (by kernel_rfl) rfl rfl ⟨((cb_ HB.out hw1193_0 :)), ((cb_ HB.out hw1193_1 :)), ((cb_ HB.out hw1193_2 :))⟩ (fun hHeld => ?_); refine with_tabW spec_TreeOk.tab5 spec_TreeOk.bits5 (fun HT_ HW_ => ?_)
        generalize wr.drew = w13 at HB hx1193_0 hx1193_1 hx1193_2 hHeld ⊢
        refine pa_ 0 12 ?_
        refine pa_ 1 13 ?_
        refine pa_ 2 14 ?_
        refine ta3_ 3 15 hHeld ?_
        refine on_ 4 16 (fun K hK => ?_)
        refine goes_ Tryd.func140 (by kernel_rfl) rfl #[.agg #[.int .i64 ((rd_T69 l0 x4_1).f0), .int .i64 ((rd_T69 l0 x4_1).f1), .string ((rd_T69 l0 x4_1).f2)]] (by rfl) rfl rfl ar_ ?_
        with_reducible refine (spec_RowOk.calls k1 ((rd_T69 l0 x4_1).f0) ((rd_T69 l0 x4_1).f1) ((rd_T69 l0 x4_1).f2) true _ A5.out).mono ?_
        rintro e w14 ⟨rfl, hb⟩
        refine ⟨_, rfl, ?_⟩
        have n0_ := Aside0.mk (below_step (bel_) hb)
        clear HB
        have HB := n0_
        clear n0_
        (try clear hb)
        (try clear hb2)
        (try clear hk)
        (try clear hi)
        refine hK.out _ _ ⟨((cb_ HB.out hw1193_0 :)), ((cb_ HB.out hw1193_1 :)), ((cb_ HB.out hw1193_2 :))⟩ (fun hHeld => ?_)
        clear hK K
        refine no_ 16 ?_
        refine pa_ 5 17 ?_
        refine pa_ 6 18 ?_
        refine pa_ 7 19 ?_
        refine pa_ 8 20 ?_
        refine pa_ 9 21 ?_
        refine po_ 10 22 ?_
        refine po_ 11 23 ?_
        refine po_ 12 24 ?_
        refine po_ 13 25 ?_
        refine po_ 14 26 ?_
        refine po_ 15 27 ?_
        refine po_ 16 28 ?_
        refine po_ 17 29 ?_
        refine po_ 18 30 ?_
        refine po_ 19 31 ?_
        refine po_ 20 32 ?_
        refine po_ 21 33 ?_
        refine po_ 22 34 ?_
        refine pa_ 23 35 ?_
        refine pa_ 24 36 ?_
        refine done_ (done_of HT_.out (by kernel_rfl)) ?_
        try go_wp2
        go_meet
        case rel => exact ⟨_, (false), (si_), H', ⟨by have := HK1.out; first | omega | exact Nat.le_refl _⟩, ⟨bel_⟩⟩
      ·replace c6 := Bool.eq_false_iff.mpr c6
       subst c6
       have H1 : (spec_TreeOk.j1 k1 l0 x3_1 x4_1 true) = some r := by rw [if_neg (show ¬ (false = true) by decide)] at H; exact H
       clear H
       have H := H1
       clear H1
       have H' := Aside0.mk H
       clear H
       try go_wp2
       have n0_ := Aside0.mk (below_drew1 HB.out)
       clear HB
       have HB := n0_
       clear n0_
       have p1193 : 0 ≤ (x4_1 : Int) := od_
       have q1193 : x4_1 < (l0.length : Int) := od_
       obtain ⟨ad1193, e1193, hx1193_0, hx1193_1, hx1193_2⟩ := at_T69 HR0.out x4_1 p1193 q1193
       have hw1193_2 := hx1193_2
       have hw1193_1 := hx1193_1
       have hw1193_0 := hx1193_0
       cases e1193
       replace hx1193_0 := (cb_ HB.out hx1193_0 :)
       replace hx1193_1 := (cb_ HB.out hx1193_1 :)
       replace hx1193_2 := (cb_ HB.out hx1193_2 :)
       replace p1193 := eq_true p1193
       replace q1193 := eq_true q1193
       refine start_ (n := 25) (S := fun w' => w'.cell? (ad1193.add ((x4_1).toNat * 3)) = some (.int .i64 ((rd_T69 l0 x4_1).f0)) ∧ w'.cell? ⟨(ad1193.add ((x4_1).toNat * 3)).block, (ad1193.add ((x4_1).toNat * 3)).off + 1, none⟩ = some (.int .i64 ((rd_T69 l0 x4_1).f1)) ∧ w'.cell? ⟨(ad1193.add ((x4_1).toNat * 3)).block, (ad1193.add ((x4_1).toNat * 3)).off + 2, none⟩ = some (.string ((rd_T69 l0 x4_1).f2))) (ds := []) #[false, false, false, false, false, false, false, false, false, false, false, false, false, false, false, false, false, false, false, false, false, false, false, false, false] (by kernel_rfl) rfl rfl ⟨((cb_ HB.out hw1193_0 :)), ((cb_ HB.out hw1193_1 :)), ((cb_ HB.out hw1193_2 :))⟩ (fun hHeld => ?_); refine with_tabW spec_TreeOk.tab5 spec_TreeOk.bits5 (fun HT_ HW_ => ?_)
       generalize wr.drew = w15 at HB hx1193_0 hx1193_1 hx1193_2 hHeld ⊢
       refine pa_ 0 12 ?_
       refine pa_ 1 13 ?_
       refine pa_ 2 14 ?_
       refine ta3_ 3 15 hHeld ?_
       refine on_ 4 16 (fun K hK => ?_)
       refine goes_ Tryd.func140 (by kernel_rfl) rfl #[.agg #[.int .i64 ((rd_T69 l0 x4_1).f0), .int .i64 ((rd_T69 l0 x4_1).f1), .string ((rd_T69 l0 x4_1).f2)]] (by rfl) rfl rfl ar_ ?_
       with_reducible refine (spec_RowOk.calls k1 ((rd_T69 l0 x4_1).f0) ((rd_T69 l0 x4_1).f1) ((rd_T69 l0 x4_1).f2) false _ A5.out).mono ?_
       rintro e w16 ⟨rfl, hb⟩
       refine ⟨_, rfl, ?_⟩
       have n0_ := Aside0.mk (below_step (bel_) hb)
       clear HB
       have HB := n0_
       clear n0_
       (try clear hb)
       (try clear hb2)
       (try clear hk)
       (try clear hi)
       refine hK.out _ _ ⟨((cb_ HB.out hw1193_0 :)), ((cb_ HB.out hw1193_1 :)), ((cb_ HB.out hw1193_2 :))⟩ (fun hHeld => ?_)
       clear hK K
       refine no_ 16 ?_
       refine pa_ 5 17 ?_
       refine pa_ 6 18 ?_
       refine po_ 7 19 ?_
       refine po_ 8 20 ?_
       refine po_ 9 21 ?_
       refine po_ 10 22 ?_
       refine po_ 11 23 ?_
       refine po_ 12 24 ?_
       refine po_ 13 25 ?_
       refine po_ 14 26 ?_
       refine po_ 15 27 ?_
       refine po_ 16 28 ?_
       refine po_ 17 29 ?_
       refine po_ 18 30 ?_
       refine po_ 19 31 ?_
       refine po_ 20 32 ?_
       refine po_ 21 33 ?_
       refine po_ 22 34 ?_
       refine po_ 23 35 ?_
       refine pa_ 24 36 ?_
       refine done_ (done_of HT_.out (by kernel_rfl)) ?_
       try go_wp2
       go_meet
       case rel => exact ⟨_, (true), (si_), H', ⟨by have := HK1.out; first | omega | exact Nat.le_refl _⟩, ⟨bel_⟩⟩
     ·rw [if_neg c4] at H
      exact absurd H (by simp)
    case rest =>
     clear HC3
     try clear c1
     try clear p1
     try clear q1
     try clear hx1
     try clear p2
     try clear c4
     try clear c6
     try clear p6
     try clear c7
     try clear c7b0
     try clear c9
     try clear c10
     try clear p11
     try clear q11
     try clear hx11
     try clear c14
     try clear hx1193_0
     try clear hx1193_1
     try clear hx1193_2
     try clear hx1195_0
     try clear hx1195_1
     try clear hx1195_2
     try clear hx1196_0
     try clear hx1196_1
     try clear hx1196_2
     try clear p1193
     try clear p1196
     try clear q1193
     try clear q1196
     obtain ⟨kq, x36_2, rfl, HA, HJ2, HB⟩ := hcut
     cases kq with
     | zero => exact absurd HA.out (by simp [spec_TreeOk.j1])
     | succ kj2 =>
      have H := HA.out
      clear HA
      simp only [spec_TreeOk.j1] at H
      by_cases c17 : x36_2 = true
      ·subst c17
       have H1 : (some false) = some r := by rw [if_pos rfl] at H; exact H
       clear H
       have H := H1
       clear H1
       obtain rfl := Option.some.inj H
       go_wp2
       go_ret
       exact ⟨fi_, bel_⟩
      ·replace c17 := Bool.eq_false_iff.mpr c17
       subst c17
       have H1 : (if 0 ≤ x4_1 then (if x4_1 < (l0.length : Int) then ((spec_l1Root.f ((rd_T69 l0 x4_1).f0)).bind fun t1198 => (if t1198 = true then (if ((rd_T69 l0 x4_1).f0) = (wrap64 (x3_1 + 1)) then (spec_TreeOk.j2 kj2 l0 (wrap64 (x3_1 + 1)) x4_1) else (some false)) else (spec_TreeOk.j2 kj2 l0 x3_1 x4_1))) else (none)) else (none)) = some r := by rw [if_neg (show ¬ (false = true) by decide)] at H; exact H
       clear H
       have H := H1
       clear H1
       by_cases c18 : 0 ≤ x4_1
       ·rw [if_pos c18] at H
        have c18b0 : decide (0 ≤ x4_1) = true := decide_eq_true c18
        clear c18
        by_cases c19 : x4_1 < (l0.length : Int)
        ·rw [if_pos c19] at H
         have c19b0 : decide (x4_1 < (l0.length : Int)) = true := decide_eq_true c19
         clear c19
         replace H := Option.bind_eq_some_iff.mp H
         obtain ⟨t1198, A200, H⟩ := H
         try dsimp only at H
         have A20 := Aside0.mk A200
         clear A200
         have HC21 := Aside0.mk H
         clear H
         have p1197 : 0 ≤ (x4_1 : Int) := od_
         have q1197 : x4_1 < (l0.length : Int) := od_
         obtain ⟨ad1197, e1197, hx1197_0, hx1197_1, hx1197_2⟩ := at_T69 HR0.out x4_1 p1197 q1197
         cases e1197
         replace hx1197_0 := (cb_ HB.out hx1197_0 :)
         replace hx1197_1 := (cb_ HB.out hx1197_1 :)
         replace hx1197_2 := (cb_ HB.out hx1197_2 :)
         replace p1197 := eq_true p1197
         replace q1197 := eq_true q1197
         go_upto_if 42 with (first | ((with_reducible refine gate_callee (f := 141) rfl ?_); refine gl_ 42 Tryd.func141 #[.int .i64 ((rd_T69 l0 x4_1).f0)] ?_; (with_reducible refine (spec_l1Root.calls ((rd_T69 l0 x4_1).f0) t1198 _ A20.out).mono ?_); rintro e w' ⟨rfl, ⟨nd, rfl⟩⟩; refine ⟨_, rfl, ?_⟩))
         (try simp only [Act.put, List.setIfInBounds_toArray, List.set_cons_zero, List.set_cons_succ])
         go_cut [3] (fun v3 wc => ∃ (kq : Nat) (x3_20 : Int), v3 = .int .i64 x3_20 ∧ Aside0 (spec_TreeOk.j2 kq l0 x3_20 x4_1 = some r) ∧ Aside0 (kq ≤ kj2) ∧ Aside0 (Below w.heap.size w wc))
         case first =>
          have H := HC21.out
          clear HC21
          by_cases c22 : t1198 = true
          ·subst c22
           have H1 : (if ((rd_T69 l0 x4_1).f0) = (wrap64 (x3_1 + 1)) then (spec_TreeOk.j2 kj2 l0 (wrap64 (x3_1 + 1)) x4_1) else (some false)) = some r := by rw [if_pos rfl] at H; exact H
           clear H
           have H := H1
           clear H1
           by_cases c23 : ((rd_T69 l0 x4_1).f0) = (wrap64 (x3_1 + 1))
           ·rw [if_pos c23] at H
            have c23b0 : (((rd_T69 l0 x4_1).f0) == (wrap64 (x3_1 + 1))) = true := beq_iff_eq.mpr c23
            have c23b1 : (((rd_T69 l0 x4_1).f0) != (wrap64 (x3_1 + 1))) = false := bne_eq_false_iff_eq.mpr c23
            clear c23
            (first | rw [c23b0] | (simp only [i64_w, i32_w]; rw [c23b0]) | skip)
            have H' := Aside0.mk H
            clear H
            have p1199 : 0 ≤ (x4_1 : Int) := od_
            have q1199 : x4_1 < (l0.length : Int) := od_
            obtain ⟨ad1199, e1199, hx1199_0, hx1199_1, hx1199_2⟩ := at_T69 HR0.out x4_1 p1199 q1199
            obtain rfl : ad1197 = ad1199 := (by injection e1199)
            replace hx1199_0 := (cb_ HB.out hx1199_0 :)
            replace hx1199_1 := (cb_ HB.out hx1199_1 :)
            replace hx1199_2 := (cb_ HB.out hx1199_2 :)
            replace p1199 := eq_true p1199
            replace q1199 := eq_true q1199
            go_wp2
            go_meet
            case rel => exact ⟨_, (wrap64 (x3_1 + 1)), (si_), H', ⟨by have := HK1.out; have := HJ2.out; first | omega | exact Nat.le_refl _⟩, ⟨bel_⟩⟩
           ·rw [if_neg c23] at H
            have c23b0 : (((rd_T69 l0 x4_1).f0) == (wrap64 (x3_1 + 1))) = false := beq_eq_false_iff_ne.mpr c23
            have c23b1 : (((rd_T69 l0 x4_1).f0) != (wrap64 (x3_1 + 1))) = true := bne_iff_ne.mpr c23
            (first | rw [c23b0] | (simp only [i64_w, i32_w]; rw [c23b0]) | skip)
            obtain rfl := Option.some.inj H
            have p1199 : 0 ≤ (x4_1 : Int) := od_
            have q1199 : x4_1 < (l0.length : Int) := od_
            obtain ⟨ad1199, e1199, hx1199_0, hx1199_1, hx1199_2⟩ := at_T69 HR0.out x4_1 p1199 q1199
            obtain rfl : ad1197 = ad1199 := (by injection e1199)
            replace hx1199_0 := (cb_ HB.out hx1199_0 :)
            replace hx1199_1 := (cb_ HB.out hx1199_1 :)
            replace hx1199_2 := (cb_ HB.out hx1199_2 :)
            replace p1199 := eq_true p1199
            replace q1199 := eq_true q1199
            go_wp2
            go_ret
            exact ⟨fi_, bel_⟩
          ·replace c22 := Bool.eq_false_iff.mpr c22
           subst c22
           have H1 : (spec_TreeOk.j2 kj2 l0 x3_1 x4_1) = some r := by rw [if_neg (show ¬ (false = true) by decide)] at H; exact H
           clear H
           have H := H1
           clear H1
           have H' := Aside0.mk H
           clear H
           go_wp2
           go_meet
           case rel => exact ⟨_, (x3_1), (si_), H', ⟨by have := HK1.out; have := HJ2.out; first | omega | exact Nat.le_refl _⟩, ⟨bel_⟩⟩
         case rest =>
          clear HC21
          try clear c1
          try clear p1
          try clear q1
          try clear hx1
          try clear c2
          try clear p2
          try clear c4
          try clear c6
          try clear p6
          try clear c7
          try clear c7b0
          try clear c9
          try clear c10
          try clear p11
          try clear q11
          try clear hx11
          try clear c14
          try clear c17
          try clear c18
          try clear c18b0
          try clear c19
          try clear c19b0
          try clear c22
          try clear c23
          try clear c23b0
          try clear c23b1
          try clear hx1193_0
          try clear hx1193_1
          try clear hx1193_2
          try clear hx1195_0
          try clear hx1195_1
          try clear hx1195_2
          try clear hx1196_0
          try clear hx1196_1
          try clear hx1196_2
          try clear hx1197_0
          try clear hx1197_1
          try clear hx1197_2
          try clear hx1199_0
          try clear hx1199_1
          try clear hx1199_2
          try clear p1
          try clear p11
          try clear p1193
          try clear p1196
          try clear p1197
          try clear p1199
          try clear p2
          try clear p6
          try clear q1
          try clear q11
          try clear q1193
          try clear q1196
          try clear q1197
          try clear q1199
          obtain ⟨kq, x3_20, rfl, HA, HJ20, HB⟩ := hcut
          cases kq with
          | zero => exact absurd HA.out (by simp [spec_TreeOk.j2])
          | succ kj20 =>
           have H := HA.out
           clear HA
           simp only [spec_TreeOk.j2] at H
           have H' := Aside0.mk H
           clear H
           go_wp2
           go_loopg [5] kj20 (fun kq v5 w' => ∃ (x5_4 : Int), v5 = .int .i64 x5_4 ∧ Aside0 (spec_TreeOk.l1 kq l0 x3_20 x4_1 x5_4 = some r) ∧ Aside0 (kq ≤ kj20) ∧ Aside0 (Below w.heap.size w w'))
           case atStart => exact ⟨(0), (si_), H', ⟨Nat.le_refl _⟩, ⟨bel_⟩⟩
           case round =>
            clear H'
            try clear c1
            try clear p1
            try clear q1
            try clear hx1
            try clear c2
            try clear p2
            try clear c4
            try clear c6
            try clear p6
            try clear c7
            try clear c7b0
            try clear c9
            try clear c10
            try clear p11
            try clear q11
            try clear hx11
            try clear c14
            try clear c17
            try clear c18
            try clear c18b0
            try clear c19
            try clear c19b0
            try clear c22
            try clear c23
            try clear c23b0
            try clear c23b1
            try clear hx1193_0
            try clear hx1193_1
            try clear hx1193_2
            try clear hx1195_0
            try clear hx1195_1
            try clear hx1195_2
            try clear hx1196_0
            try clear hx1196_1
            try clear hx1196_2
            try clear hx1197_0
            try clear hx1197_1
            try clear hx1197_2
            try clear hx1199_0
            try clear hx1199_1
            try clear hx1199_2
            try clear p1
            try clear p11
            try clear p1193
            try clear p1196
            try clear p1197
            try clear p1199
            try clear p2
            try clear p6
            try clear q1
            try clear q11
            try clear q1193
            try clear q1196
            try clear q1197
            try clear q1199
            obtain ⟨x5_4, rfl, HA, HK4, HB⟩ := hrel
            cases gk with
            | zero => exact absurd HA.out (by simp [spec_TreeOk.l1])
            | succ k4 =>
             have H := HA.out
             clear HA
             simp only [spec_TreeOk.l1] at H
             by_cases c24 : x5_4 < x4_1
             ·rw [if_pos c24] at H
              have c24b0 : decide (x5_4 < x4_1) = true := decide_eq_true c24
              clear c24
              by_cases c25 : 0 ≤ x5_4
              ·rw [if_pos c25] at H
               have c25b0 : decide (0 ≤ x5_4) = true := decide_eq_true c25
               clear c25
               by_cases c26 : x5_4 < (l0.length : Int)
               ·rw [if_pos c26] at H
                have c26b0 : decide (x5_4 < (l0.length : Int)) = true := decide_eq_true c26
                clear c26
                by_cases c27 : 0 ≤ x4_1
                ·rw [if_pos c27] at H
                 have c27b0 : decide (0 ≤ x4_1) = true := decide_eq_true c27
                 clear c27
                 by_cases c28 : x4_1 < (l0.length : Int)
                 ·rw [if_pos c28] at H
                  have c28b0 : decide (x4_1 < (l0.length : Int)) = true := decide_eq_true c28
                  clear c28
                  by_cases c29 : ((rd_T69 l0 x5_4).f0) = ((rd_T69 l0 x4_1).f0)
                  ·rw [if_pos c29] at H
                   have c29b0 : (((rd_T69 l0 x5_4).f0) == ((rd_T69 l0 x4_1).f0)) = true := beq_iff_eq.mpr c29
                   have c29b1 : (((rd_T69 l0 x5_4).f0) != ((rd_T69 l0 x4_1).f0)) = false := bne_eq_false_iff_eq.mpr c29
                   clear c29
                   obtain rfl := Option.some.inj H
                   try go_wp2
                   have n0_ := Aside0.mk (below_drew1 HB.out)
                   clear HB
                   have HB := n0_
                   clear n0_
                   have p1200 : 0 ≤ (x5_4 : Int) := od_
                   have q1200 : x5_4 < (l0.length : Int) := od_
                   obtain ⟨ad1200, e1200, hx1200_0, hx1200_1, hx1200_2⟩ := at_T69 HR0.out x5_4 p1200 q1200
                   have hw1200_2 := hx1200_2
                   have hw1200_1 := hx1200_1
                   have hw1200_0 := hx1200_0
                   obtain rfl : ad1197 = ad1200 := (by injection e1200)
                   replace hx1200_0 := (cb_ HB.out hx1200_0 :)
                   replace hx1200_1 := (cb_ HB.out hx1200_1 :)
                   replace hx1200_2 := (cb_ HB.out hx1200_2 :)
                   replace p1200 := eq_true p1200
                   replace q1200 := eq_true q1200
                   have p1201 : 0 ≤ (x4_1 : Int) := od_
                   have q1201 : x4_1 < (l0.length : Int) := od_
                   obtain ⟨ad1201, e1201, hx1201_0, hx1201_1, hx1201_2⟩ := at_T69 HR0.out x4_1 p1201 q1201
                   have hw1201_2 := hx1201_2
                   have hw1201_1 := hx1201_1
                   have hw1201_0 := hx1201_0
                   obtain rfl : ad1197 = ad1201 := (by injection e1201)
                   replace hx1201_0 := (cb_ HB.out hx1201_0 :)
                   replace hx1201_1 := (cb_ HB.out hx1201_1 :)
                   replace hx1201_2 := (cb_ HB.out hx1201_2 :)
                   replace p1201 := eq_true p1201
                   replace q1201 := eq_true q1201
                   refine start_ (n := 11) (S := fun w' => w'.cell? (ad1197.add ((x5_4).toNat * 3)) = some (.int .i64 ((rd_T69 l0 x5_4).f0)) ∧ w'.cell? ⟨(ad1197.add ((x5_4).toNat * 3)).block, (ad1197.add ((x5_4).toNat * 3)).off + 1, none⟩ = some (.int .i64 ((rd_T69 l0 x5_4).f1)) ∧ w'.cell? ⟨(ad1197.add ((x5_4).toNat * 3)).block, (ad1197.add ((x5_4).toNat * 3)).off + 2, none⟩ = some (.string ((rd_T69 l0 x5_4).f2)) ∧ w'.cell? (ad1197.add ((x4_1).toNat * 3)) = some (.int .i64 ((rd_T69 l0 x4_1).f0)) ∧ w'.cell? ⟨(ad1197.add ((x4_1).toNat * 3)).block, (ad1197.add ((x4_1).toNat * 3)).off + 1, none⟩ = some (.int .i64 ((rd_T69 l0 x4_1).f1)) ∧ w'.cell? ⟨(ad1197.add ((x4_1).toNat * 3)).block, (ad1197.add ((x4_1).toNat * 3)).off + 2, none⟩ = some (.string ((rd_T69 l0 x4_1).f2))) (ds := []) #[false, false, false, false, false, false, false, false, false, false, false] (by kernel_rfl) rfl rfl ⟨((cb_ HB.out hw1200_0 :)), ((cb_ HB.out hw1200_1 :)), ((cb_ HB.out hw1200_2 :)), ((cb_ HB.out hw1201_0 :)), ((cb_ HB.out hw1201_1 :)), ((cb_ HB.out hw1201_2 :))⟩ (fun hHeld => ?_); refine with_tabW spec_TreeOk.tab14 spec_TreeOk.bits14 (fun HT_ HW_ => ?_)
                   generalize wr.drew = w30 at HB hx1200_0 hx1200_1 hx1200_2 hx1201_0 hx1201_1 hx1201_2 hHeld ⊢
                   refine pa_ 0 57 ?_
                   refine pa_ 1 58 ?_
                   refine pa_ 2 59 ?_
                   refine pa_ 3 60 ?_
                   refine pa_ 5 62 ?_
                   refine pa_ 6 63 ?_
                   refine pa_ 7 64 ?_
                   refine pa_ 8 65 ?_
                   refine ta6_ 4 61 hHeld ?_
                   refine ta6_ 9 66 hHeld ?_
                   refine pa_ 10 67 ?_
                   refine done_ (done_of HT_.out (by kernel_rfl)) ?_
                   try go_wp2
                   go_ret
                   exact ⟨fi_, bel_⟩
                  ·rw [if_neg c29] at H
                   have c29b0 : (((rd_T69 l0 x5_4).f0) == ((rd_T69 l0 x4_1).f0)) = false := beq_eq_false_iff_ne.mpr c29
                   have c29b1 : (((rd_T69 l0 x5_4).f0) != ((rd_T69 l0 x4_1).f0)) = true := bne_iff_ne.mpr c29
                   have H' := Aside0.mk H
                   clear H
                   try go_wp2
                   have n0_ := Aside0.mk (below_drew1 HB.out)
                   clear HB
                   have HB := n0_
                   clear n0_
                   have p1200 : 0 ≤ (x5_4 : Int) := od_
                   have q1200 : x5_4 < (l0.length : Int) := od_
                   obtain ⟨ad1200, e1200, hx1200_0, hx1200_1, hx1200_2⟩ := at_T69 HR0.out x5_4 p1200 q1200
                   have hw1200_2 := hx1200_2
                   have hw1200_1 := hx1200_1
                   have hw1200_0 := hx1200_0
                   obtain rfl : ad1197 = ad1200 := (by injection e1200)
                   replace hx1200_0 := (cb_ HB.out hx1200_0 :)
                   replace hx1200_1 := (cb_ HB.out hx1200_1 :)
                   replace hx1200_2 := (cb_ HB.out hx1200_2 :)
                   replace p1200 := eq_true p1200
                   replace q1200 := eq_true q1200
                   have p1201 : 0 ≤ (x4_1 : Int) := od_
                   have q1201 : x4_1 < (l0.length : Int) := od_
                   obtain ⟨ad1201, e1201, hx1201_0, hx1201_1, hx1201_2⟩ := at_T69 HR0.out x4_1 p1201 q1201
                   have hw1201_2 := hx1201_2
                   have hw1201_1 := hx1201_1
                   have hw1201_0 := hx1201_0
                   obtain rfl : ad1197 = ad1201 := (by injection e1201)
                   replace hx1201_0 := (cb_ HB.out hx1201_0 :)
                   replace hx1201_1 := (cb_ HB.out hx1201_1 :)
                   replace hx1201_2 := (cb_ HB.out hx1201_2 :)
                   replace p1201 := eq_true p1201
                   replace q1201 := eq_true q1201
                   refine start_ (n := 11) (S := fun w' => w'.cell? (ad1197.add ((x5_4).toNat * 3)) = some (.int .i64 ((rd_T69 l0 x5_4).f0)) ∧ w'.cell? ⟨(ad1197.add ((x5_4).toNat * 3)).block, (ad1197.add ((x5_4).toNat * 3)).off + 1, none⟩ = some (.int .i64 ((rd_T69 l0 x5_4).f1)) ∧ w'.cell? ⟨(ad1197.add ((x5_4).toNat * 3)).block, (ad1197.add ((x5_4).toNat * 3)).off + 2, none⟩ = some (.string ((rd_T69 l0 x5_4).f2)) ∧ w'.cell? (ad1197.add ((x4_1).toNat * 3)) = some (.int .i64 ((rd_T69 l0 x4_1).f0)) ∧ w'.cell? ⟨(ad1197.add ((x4_1).toNat * 3)).block, (ad1197.add ((x4_1).toNat * 3)).off + 1, none⟩ = some (.int .i64 ((rd_T69 l0 x4_1).f1)) ∧ w'.cell? ⟨(ad1197.add ((x4_1).toNat * 3)).block, (ad1197.add ((x4_1).toNat * 3)).off + 2, none⟩ = some (.string ((rd_T69 l0 x4_1).f2))) (ds := []) #[false, false, false, false, false, false, false, false, false, false, false] (by kernel_rfl) rfl rfl ⟨((cb_ HB.out hw1200_0 :)), ((cb_ HB.out hw1200_1 :)), ((cb_ HB.out hw1200_2 :)), ((cb_ HB.out hw1201_0 :)), ((cb_ HB.out hw1201_1 :)), ((cb_ HB.out hw1201_2 :))⟩ (fun hHeld => ?_); refine with_tabW spec_TreeOk.tab14 spec_TreeOk.bits14 (fun HT_ HW_ => ?_)
                   generalize wr.drew = w31 at HB hx1200_0 hx1200_1 hx1200_2 hx1201_0 hx1201_1 hx1201_2 hHeld ⊢
                   refine pa_ 0 57 ?_
                   refine pa_ 1 58 ?_
                   refine pa_ 2 59 ?_
                   refine pa_ 3 60 ?_
                   refine pa_ 5 62 ?_
                   refine pa_ 6 63 ?_
                   refine pa_ 7 64 ?_
                   refine pa_ 8 65 ?_
                   refine ta6_ 4 61 hHeld ?_
                   refine ta6_ 9 66 hHeld ?_
                   refine pa_ 10 67 ?_
                   refine done_ (done_of HT_.out (by kernel_rfl)) ?_
                   try go_wp2
                   go_roundg k4
                   case measure => have := HK1.out; have := HJ2.out; have := HJ20.out; have := HK4.out; omega
                   case rel => exact ⟨(wrap64 (x5_4 + 1)), (si_), H', ⟨by have := HK1.out; have := HJ2.out; have := HJ20.out; have := HK4.out; omega⟩, ⟨bel_⟩⟩
                 ·rw [if_neg c28] at H
                  exact absurd H (by simp)
                ·rw [if_neg c27] at H
                 exact absurd H (by simp)
               ·rw [if_neg c26] at H
                exact absurd H (by simp)
              ·rw [if_neg c25] at H
               exact absurd H (by simp)
             ·rw [if_neg c24] at H
              have c24b0 : decide (x5_4 < x4_1) = false := decide_eq_false c24
              clear c24
              have H' := Aside0.mk H
              clear H
              go_wp2
              go_roundg k4
              case measure => have := HK1.out; have := HJ2.out; have := HJ20.out; have := HK4.out; omega
              case rel => exact ⟨(x3_20), (wrap64 (x4_1 + 1)), (si_), (si_), H', ⟨by have := HK1.out; have := HJ2.out; have := HJ20.out; have := HK4.out; omega⟩, ⟨bel_⟩⟩
        ·rw [if_neg c19] at H
         exact absurd H (by simp)
       ·rw [if_neg c18] at H
        exact absurd H (by simp)
   ·rw [if_neg c2] at H
    have c2b0 : decide (x4_1 < (l0.length : Int)) = false := decide_eq_false c2
    clear c2
    by_cases c32 : x3_1 = 3
    ·rw [if_pos c32] at H
     have c32b0 : (x3_1 == 3) = true := beq_iff_eq.mpr c32
     have c32b1 : (x3_1 != 3) = false := bne_eq_false_iff_eq.mpr c32
     clear c32
     by_cases c33 : 0 < (l0.length : Int)
     ·rw [if_pos c33] at H
      have c33b0 : decide (0 < (l0.length : Int)) = true := decide_eq_true c33
      have c33b1 : decide (0 < l0.length) = true := decide_eq_true (by omega)
      clear c33
      obtain rfl := Option.some.inj H
      have p1192 : 0 ≤ (0 : Int) := (by omega)
      have q1192 : 0 < (l0.length : Int) := od_
      obtain ⟨ad1192, e1192, hx1192_0, hx1192_1, hx1192_2⟩ := at_T69 HR0.out 0 p1192 q1192
      cases e1192
      have qi1192 : (0 < l0.length) = True := eq_true (by omega)
      (try rw [show ((0 : Int)).toNat = 0 from rfl] at hx1192_0)
      (try rw [show 0 * 3 = 0 from rfl] at hx1192_0)
      (try rw [Addr.add_zero'] at hx1192_0)
      (try rw [show ((0 : Int)).toNat = 0 from rfl] at hx1192_1)
      (try rw [show 0 * 3 = 0 from rfl] at hx1192_1)
      (try rw [Addr.add_zero'] at hx1192_1)
      (try rw [show ((0 : Int)).toNat = 0 from rfl] at hx1192_2)
      (try rw [show 0 * 3 = 0 from rfl] at hx1192_2)
      (try rw [Addr.add_zero'] at hx1192_2)
      replace hx1192_0 := (cb_ HB.out hx1192_0 :)
      replace hx1192_1 := (cb_ HB.out hx1192_1 :)
      replace hx1192_2 := (cb_ HB.out hx1192_2 :)
      replace p1192 := eq_true p1192
      replace q1192 := eq_true q1192
      go_wp2
      go_ret
      exact ⟨fi_, bel_⟩
     ·rw [if_neg c33] at H
      exact absurd H (by simp)
    ·rw [if_neg c32] at H
     have c32b0 : (x3_1 == 3) = false := beq_eq_false_iff_ne.mpr c32
     have c32b1 : (x3_1 != 3) = true := bne_iff_ne.mpr c32
     obtain rfl := Option.some.inj H
     go_wp2
     go_ret
     exact ⟨fi_, bel_⟩

mutual
def spec_ClientOk.j0 : Nat → Bool → Int → Int → List (S69) → List (S44) → Int → Int → Option (Bool)
 | 0, _, _, _, _, _, _, _ => none
 | k + 1, x43, x1203000, x1203001, x1203002, x1203003, x1203004, x1203005 => if x43 = true then (some false) else (spec_ClientOk.l0 k 0 x1203000 x1203001 x1203002 x1203003 x1203004 x1203005)
def spec_ClientOk.l0 : Nat → Int → Int → Int → List (S69) → List (S44) → Int → Int → Option (Bool)
 | 0, _, _, _, _, _, _, _ => none
 | k + 1, x3, x1203000, x1203001, x1203002, x1203003, x1203004, x1203005 => if x3 < (x1203003.length : Int) then (if 0 ≤ x3 then ((spec_EntryOk.f k ((rd_T44 x1203003 x3).f0) ((rd_T44 x1203003 x3).f1) ((rd_T44 x1203003 x3).f2.f0) ((rd_T44 x1203003 x3).f2.f1) ((rd_T44 x1203003 x3).f2.f2) ((rd_T44 x1203003 x3).f2.f3) ((rd_T44 x1203003 x3).f2.f4)).bind fun t1210 => (if t1210 = true then (if ((rd_T44 x1203003 x3).f0) = x1203000 then (if ((rd_T44 x1203003 x3).f1) = (wrap64 ((wrap64 (x1203004 + x3)) + 1)) then (if ((rd_T44 x1203003 x3).f2.f0) = 1 then (if ((rd_T44 x1203003 x3).f2.f1) > (wrap64 ((wrap64 (10 * x1203000)) + x1203005)) then (some false) else (spec_ClientOk.l0 k (wrap64 (x3 + 1)) x1203000 x1203001 x1203002 x1203003 x1203004 x1203005)) else (spec_ClientOk.l0 k (wrap64 (x3 + 1)) x1203000 x1203001 x1203002 x1203003 x1203004 x1203005)) else (some false)) else (some false)) else (some false))) else (none)) else (some true)
end
def spec_ClientOk.f (k : Nat) (a0_0 : Int) (a0_1 : Int) (l0_2 : List (S69)) (l0_3 : List (S44)) (a0_4 : Int) (a0_5 : Int) : Option (Bool) := (spec_l6In.f a0_0 1 3).bind fun t1203 => (if t1203 = true then ((spec_l6In.f a0_1 0 40).bind fun t1204 => (if t1204 = true then ((spec_TreeOk.f k l0_2).bind fun t1205 => (if t1205 = true then ((spec_l6In.f a0_4 0 a0_1).bind fun t1206 => (if t1206 = true then (if (wrap64 (a0_4 + (l0_3.length : Int))) > 40 then (spec_ClientOk.j0 k true a0_0 a0_1 l0_2 l0_3 a0_4 a0_5) else ((spec_l6In.f a0_5 0 6).bind fun t1207 => (spec_ClientOk.j0 k (!t1207) a0_0 a0_1 l0_2 l0_3 a0_4 a0_5))) else (spec_ClientOk.j0 k true a0_0 a0_1 l0_2 l0_3 a0_4 a0_5))) else (spec_ClientOk.j0 k true a0_0 a0_1 l0_2 l0_3 a0_4 a0_5))) else (spec_ClientOk.j0 k true a0_0 a0_1 l0_2 l0_3 a0_4 a0_5))) else (spec_ClientOk.j0 k true a0_0 a0_1 l0_2 l0_3 a0_4 a0_5))
theorem spec_ClientOk.mono_l : ∀ k, (∀ y0 y1 y2 y3 y4 y5 y6, LeO (spec_ClientOk.j0 k y0 y1 y2 y3 y4 y5 y6) (spec_ClientOk.j0 (k + 1) y0 y1 y2 y3 y4 y5 y6)) ∧ (∀ y0 y1 y2 y3 y4 y5 y6, LeO (spec_ClientOk.l0 k y0 y1 y2 y3 y4 y5 y6) (spec_ClientOk.l0 (k + 1) y0 y1 y2 y3 y4 y5 y6))
 | 0 => ⟨fun _ _ _ _ _ _ _ r h => by simp [spec_ClientOk.j0] at h, fun _ _ _ _ _ _ _ r h => by simp [spec_ClientOk.l0] at h⟩
 | k + 1 => by
  obtain ⟨ih0, ih1⟩ := spec_ClientOk.mono_l k
  refine ⟨?_, ?_⟩
  all_goals intros
  all_goals first | unfold spec_ClientOk.j0 | unfold spec_ClientOk.l0
  all_goals repeat' first
  | (with_reducible exact ih0 _ _ _ _ _ _ _)
  | (with_reducible exact ih1 _ _ _ _ _ _ _)
  | (with_reducible exact spec_EntryOk.mono _ _ _ _ _ _ _ _)
  | (with_reducible exact spec_TreeOk.mono _ _)
  | (with_reducible exact LeO.refl _)
  | (with_reducible exact LeO.none _)
  | (with_reducible refine LeO.ite ?_ ?_)
  | (with_reducible refine LeO.bind ?_ (fun _ => ?_))
  | exact ih0 _ _ _ _ _ _ _
  | exact ih1 _ _ _ _ _ _ _
  | exact spec_EntryOk.mono _ _ _ _ _ _ _ _
  | exact spec_TreeOk.mono _ _
  | exact LeO.none _
  | refine LeO.ite ?_ ?_
  | refine LeO.bind ?_ (fun _ => ?_)
theorem spec_ClientOk.mono : ∀ a0 a1 a2 a3 a4 a5 k, LeO (spec_ClientOk.f k a0 a1 a2 a3 a4 a5) (spec_ClientOk.f (k + 1) a0 a1 a2 a3 a4 a5) := by
 intro a0 a1 a2 a3 a4 a5 k
 obtain ⟨ih0, ih1⟩ := spec_ClientOk.mono_l k
 unfold spec_ClientOk.f
 repeat' first
   | (with_reducible exact ih0 _ _ _ _ _ _ _)
   | (with_reducible exact ih1 _ _ _ _ _ _ _)
   | (with_reducible exact spec_EntryOk.mono _ _ _ _ _ _ _ _)
   | (with_reducible exact spec_TreeOk.mono _ _)
   | (with_reducible exact LeO.refl _)
   | (with_reducible exact LeO.none _)
   | (with_reducible refine LeO.ite ?_ ?_)
   | (with_reducible refine LeO.bind ?_ (fun _ => ?_))
   | exact ih0 _ _ _ _ _ _ _
   | exact ih1 _ _ _ _ _ _ _
   | exact spec_EntryOk.mono _ _ _ _ _ _ _ _
   | exact spec_TreeOk.mono _ _
   | exact LeO.none _
   | refine LeO.ite ?_ ?_
   | refine LeO.bind ?_ (fun _ => ?_)
end Go.Proofs.YtdpklbomhdpimaaDoor.P
