/- LogOk: entries are a log where each is valid and its number is the next one of its client. Condition: the table of rows reads as the program's text lays it. -/
import Derived.Test.YtnclcbjagleoeaaDoorPx7
import Derived.Maps.OwnOps
import Derived.Maps.OwnSet
import Derived.Outline
set_option linter.unusedVariables false
set_option linter.unusedSimpArgs false
namespace Go.Proofs.YtnclcbjagleoeaaDoor.P
open Go.RowKit Go.Maps Go.Proofs.YtnclcbjagleoeaaDoorW.PrintWords Go.Proofs.YtnclcbjagleoeaaDoorW.PrintLast Go.Proofs.YtnclcbjagleoeaaDoorW.PrintMore

theorem wf_small (x : Int) (h : -1000000 ≤ x ∧ x ≤ 1000000) : (Lit.int .i64 x).wf = true := by
  have e : wrap64 x = x := by unfold wrap64; omega
  rw [← e]
  exact wrap64_wf _
theorem keyI : Keyed Tryd.prog 3 := int_keyed Tryd.underlying3
theorem zeroI (w : World) : (zeroValue 3).run Tryd.prog w = .ok (.int .i64 0) w := by kernel_rfl
/-- Block b is a map that counts as c says; it has at most n entries. -/
def CntMap (w : World) (b : Nat) (c : Int → Int) (n : Nat) : Prop :=
  ∃ D : DataW Unit, w.ownsMap Tryd.prog 3 (plainElem Tryd.prog 3) b n D ∧ ∀ x, D.atKey (.int .i64 x) (.lit (.int .i64 0)) = .lit (.int .i64 (c x))
def upd (c : Int → Int) (x : Int) : Int → Int := fun y => if y = x then c x + 1 else c y
theorem CntMap.alloc {w : World} {b : Nat} {c : Int → Int} {n : Nat} (h : CntMap w b c n) (o : Obj) : CntMap (w.alloc o) b c n := by
  obtain ⟨D, h1, h2⟩ := h
  exact ⟨D, h1.alloc o, h2⟩
theorem CntMap.drew {w : World} {b : Nat} {c : Int → Int} {n : Nat} (h : CntMap w b c n) : CntMap w.drew b c n := by
  obtain ⟨D, h1, h2⟩ := h
  exact ⟨D, h1.drew, h2⟩
theorem CntMap.grown {w w' : World} {b : Nat} {c : Int → Int} {n : Nat} {row : Option Nat} (h : CntMap w b c n) (hg : w.grownBy w' row) (hne : some b ≠ row) : CntMap w' b c n := by
  obtain ⟨D, h1, h2⟩ := h
  exact ⟨D, h1.kept hg hne, h2⟩
theorem CntMap.below {w w' : World} {b : Nat} {c : Int → Int} {n : Nat} (h : CntMap w b c n) (hb : Below w.heap.size w w') : CntMap w' b c n := by
  obtain ⟨D, h1, h2⟩ := h
  refine ⟨D, ?_, h2⟩
  have hl := h1.lt
  obtain ⟨es, clock, e1, e2, e3, e4⟩ := h1
  exact ⟨es, clock, (hb.block b hl).trans e1, e2, e3, e4⟩
def AddPost (w : World) (b : Nat) (c : Int → Int) (x : Int) (n : Nat) (e : Ending) (w' : World) : Prop := e = .returned (.int .i64 (c x + 1)) ∧ CntMap w' b (upd c x) (n + 1) ∧ w.grownBy w' (some b)
set_option maxHeartbeats 1000000 in
set_option maxRecDepth 100000 in
theorem add_any (b : Nat) (c : Int → Int) (x : Int) (n : Nat) (w : World) (hx : 0 ≤ x ∧ x ≤ 4) (hc : 0 ≤ c x ∧ c x ≤ 1000) (hn : n ≤ 1000) (hM : CntMap w b c n) :
    Calls Tryd.prog 72 #[.map (some b), .int .i64 x] w (AddPost w b c x n) := by
  obtain ⟨D, hown, hat⟩ := hM
  have hkey : keyOf Tryd.prog 3 (.int .i64 x) = some (.int .i64 x) := keyOf_int_mk Tryd.underlying3 (wf_small x (by omega))
  have HAT := Aside0.mk (hat x)
  have HATS := Aside0.mk hat
  clear hat
  have hwf : (Lit.int .i64 (c x + 1)).wf = true := wf_small _ (by omega)
  have HC := Aside0.mk hc
  clear hc
  go_enter Tryd.func72, Tryd.ntmps72
  go_wp2_with (first
    | (at_lookup; refine wpList_lookup_own_int _ rfl (.tmp 5) (.tmp 6) 93 rfl 3 3 .i64 keyI Tryd.underlying93 Tryd.underlying3 (zeroI _) b n D rfl hown _ _ rfl hkey ?_; intro z hz hwz; have ez : z = c x := (by have := HAT.out.symm.trans hz; injection this with this; injection this with _ this; exact this.symm); subst ez; clear hz hwz; have hcb := HC.out)
    | (at_mapUpdate; refine wpList_mapUpdate_own _ rfl _ _ _ 93 rfl 3 3 keyI Tryd.underlying93 _ b n D rfl hown (by unfold maxLen; omega) _ _ _ rfl rfl hkey _ [] (plainElem_int Tryd.underlying3 hwf) ?_; intro w1 hown1 hgrow1; have HG1 := Aside0.mk hgrow1; clear hgrow1; have HAT1 := Aside0.mk (atKey_put_same hown.isMap (k := .int .i64 x) trivial (.lit (.int .i64 (c x + 1))) (.lit (.int .i64 0))))
    | (at_lookup; refine wpList_lookup_own_int _ rfl (.tmp 9) (.tmp 10) 93 rfl 3 3 .i64 keyI Tryd.underlying93 Tryd.underlying3 (zeroI _) b (n + 1) _ rfl hown1 _ _ rfl hkey ?_; intro z hz hwz; have ez : z = c x + 1 := (by have := HAT1.out.symm.trans hz; injection this with this; injection this with _ this; exact this.symm); subst ez; clear hz hwz))
  go_ret
  refine ⟨rfl, ⟨_, hown1, fun y => ?_⟩, HG1.out⟩
  unfold upd
  by_cases hy : y = x
  · rw [if_pos hy, hy]
    exact HAT1.out
  · rw [if_neg hy, atKey_put_other (by intro e; injection e with _ e; exact hy e), HATS.out]
/-- How many of the entries are of 'who'. -/
def cntE (l : List S56) (who : Int) : Int := (l.countP fun e => e.f0 == who : Nat)
theorem cntE_snoc (l : List S56) (e : S56) : cntE (l ++ [e]) = upd (cntE l) e.f0 := by
  funext y
  unfold cntE upd
  rw [List.countP_append]
  by_cases h : y = e.f0
  · subst h
    simp
  · have h' : (e.f0 == y) = false := beq_eq_false_iff_ne.2 (fun q => h q.symm)
    rw [if_neg h]
    simp [h']
theorem cntE_le (l : List S56) (who : Int) : 0 ≤ cntE l who ∧ cntE l who ≤ l.length := by
  unfold cntE
  have := List.countP_le_length (p := fun e : S56 => e.f0 == who) (l := l)
  omega
def impl_LogOk.go (k : Nat) : List S56 → List S56 → Option Bool
  | _, [] => some true
  | pre, e :: rest => (impl_EntryOk.f k e.f0 e.f1 e.f2.f0 e.f2.f1 e.f2.f2 e.f2.f3 e.f2.f4).bind fun t =>
      if t = true then (if cntE pre e.f0 + 1 = e.f1 then impl_LogOk.go k (pre ++ [e]) rest else some false) else some false
def impl_LogOk.f (k : Nat) (l0 : List S56) : Option Bool := if (l0.length : Int) > 40 then some false else impl_LogOk.go k [] l0
theorem impl_LogOk.mono_go (k : Nat) : ∀ (rest pre : List S56), LeO (impl_LogOk.go k pre rest) (impl_LogOk.go (k + 1) pre rest)
  | [], _ => LeO.refl _
  | e :: rest, pre => by
    unfold impl_LogOk.go
    exact LeO.bind (impl_EntryOk.mono _ _ _ _ _ _ _ _) (fun _ => LeO.ite (LeO.ite (impl_LogOk.mono_go k rest _) (LeO.refl _)) (LeO.refl _))
theorem impl_LogOk.mono (l0 : List S56) (k : Nat) : LeO (impl_LogOk.f k l0) (impl_LogOk.f (k + 1) l0) := by
  unfold impl_LogOk.f
  exact LeO.ite (LeO.refl _) (impl_LogOk.mono_go k _ _)
theorem entry_who {k : Nat} {a0 a1 a2 a3 a4 a5 : Int} {a6 : ByteArray} (h : impl_EntryOk.f k a0 a1 a2 a3 a4 a5 a6 = some true) : 1 ≤ a0 ∧ a0 ≤ 3 := by
  unfold impl_EntryOk.f at h
  obtain ⟨t, ht, h⟩ := Option.bind_eq_some_iff.1 h
  cases t with
  | false => simp at h
  | true =>
    unfold impl_whoOk.f at ht
    by_cases h1 : a0 ≥ 1
    · rw [if_pos h1] at ht
      exact ⟨h1, of_decide_eq_true (Option.some.inj ht)⟩
    · rw [if_neg h1] at ht
      cases ht
def LogRel (k : Nat) (l0 : List S56) (r : Bool) (w : World) (i : Value) (wr : World) : Prop :=
  ∃ j : Int, 0 ≤ j ∧ j ≤ l0.length ∧ i = .int .i64 j ∧ impl_LogOk.go k (l0.take j.toNat) (l0.drop j.toNat) = some r ∧ CntMap wr w.heap.size (cntE (l0.take j.toNat)) j.toNat ∧ Below w.heap.size w wr
set_option maxHeartbeats 4000000 in
set_option maxRecDepth 100000 in
theorem impl_LogOk.calls (k : Nat) (A0 : Option Addr) (c0 : Nat) (l0 : List S56) (r : Bool) (w : World) (hr0 : Kd.C k56 w A0 l0.length l0) (hc0 : l0.length ≤ c0) (h : impl_LogOk.f k l0 = some r) (hG : Glob w) :
    Calls Tryd.prog 57 #[.slice A0 l0.length c0] w fun e w' => e = .returned (.bool r) ∧ Below w.heap.size w w' := by
  have HR0 := Aside0.mk hr0
  have HG := Aside0.mk hG
  clear hr0 hG
  unfold impl_LogOk.f at h
  have hmm := @run_makeMap Tryd.prog
  by_cases h40 : (l0.length : Int) > 40
  · rw [if_pos h40] at h
    obtain rfl := Option.some.inj h
    clear h hmm
    have hd : decide (40 < l0.length) = true := decide_eq_true (by omega)
    go_enter Tryd.func57, Tryd.ntmps57
    go_wp2
    go_ret
    exact ⟨rfl, Below.refl _ _⟩
  · rw [if_neg h40] at h
    have HH := Aside0.mk h
    clear h
    have hd : decide (40 < l0.length) = false := decide_eq_false (by omega)
    have hlen : l0.length ≤ 40 := by omega
    go_enter Tryd.func57, Tryd.ntmps57
    go_wp2
    have hM0 : CntMap (w.alloc (.map #[] 0)) w.heap.size (cntE []) 0 := ⟨.map [], World.ownsMap_made _ _ _ _, fun x => rfl⟩
    have HM0 := Aside0.mk hM0
    clear hM0
    go_loopw [12] (fun i wr => LogRel k l0 r w i wr) (fun i _ => l0.length - (intOf i).toNat)
    case atStart => exact ⟨0, Int.le_refl _, by omega, rfl, HH.out, HM0.out, below_box0 w _⟩
    case round =>
      obtain ⟨j, hj0, hj, rfl, hgo, hM, hB⟩ := hrel
      have HM := Aside0.mk hM
      have HB := Aside0.mk hB
      have HGO := Aside0.mk hgo
      clear hM hB hgo HH HM0
      by_cases hlt : j < l0.length
      · have hd1 : decide (j < (l0.length : Int)) = true := decide_eq_true hlt
        obtain ⟨ad, e, hx0, hx1, hx2, hx3, hx4, hx5, hx6⟩ := at_T56 HR0.out j hj0 hlt
        cases e
        replace hx0 := (HB.out.cell (World.block_lt_of_cell? w _ hx0)).trans hx0
        replace hx1 := (HB.out.cell (World.block_lt_of_cell? w _ hx1)).trans hx1
        replace hx2 := (HB.out.cell (World.block_lt_of_cell? w _ hx2)).trans hx2
        replace hx3 := (HB.out.cell (World.block_lt_of_cell? w _ hx3)).trans hx3
        replace hx4 := (HB.out.cell (World.block_lt_of_cell? w _ hx4)).trans hx4
        replace hx5 := (HB.out.cell (World.block_lt_of_cell? w _ hx5)).trans hx5
        replace hx6 := (HB.out.cell (World.block_lt_of_cell? w _ hx6)).trans hx6
        have hu := Tryd.underlying56
        have hxe : rd_T56 l0 j = l0[j.toNat]'(by omega) := by
          unfold rd_T56
          rw [List.getD_eq_getElem?_getD, List.getElem?_eq_getElem (by omega)]
          rfl
        have htd := List.drop_eq_getElem_cons (l := l0) (i := j.toNat) (by omega)
        have htk := List.take_succ_eq_append_getElem (l := l0) (i := j.toNat) (by omega)
        rw [← hxe] at htd htk
        have hgo := HGO.out
        rw [htd] at hgo
        clear HGO hxe
        generalize rd_T56 l0 j = x at hx0 hx1 hx2 hx3 hx4 hx5 hx6 htd htk hgo
        rw [show j.toNat + 1 = (j + 1).toNat by omega] at htd htk hgo
        unfold impl_LogOk.go at hgo
        have hjb : j ≤ 40 := by omega
        have p1 := eq_true hj0
        have q1 := eq_true hlt
        have hM1 := HM.out.alloc (.cells #[.int .i64 x.f0, .int .i64 x.f1, .int .i64 x.f2.f0, .int .i64 x.f2.f1, .int .i64 x.f2.f2, .int .i64 x.f2.f3, .string x.f2.f4] 56)
        have hcn := cntE_le (l0.take j.toNat) x.f0
        have hcl : (l0.take j.toNat).length ≤ 40 := by rw [List.length_take]; omega
        have hsn := cntE_snoc (l0.take j.toNat) x
        rw [← htk] at hsn
        rw [← htk] at hgo
        have HM1 := Aside0.mk hM1
        have HSN := Aside0.mk hsn
        have HGO := Aside0.mk hgo
        have HTD := Aside0.mk htd
        have HCN := Aside0.mk hcn
        have HCL := Aside0.mk hcl
        have HJN := Aside0.mk (show j.toNat ≤ 1000 ∧ 0 ≤ j ∧ j < l0.length from ⟨by omega, hj0, hlt⟩)
        have HB0 := HB
        have HL := Aside0.mk (show w.heap.size < wr.heap.size from by obtain ⟨D, h1, _⟩ := HM.out; exact h1.lt)
        have HB1 := Aside0.mk (below_alloc HB.out (.cells #[.int .i64 x.f0, .int .i64 x.f1, .int .i64 x.f2.f0, .int .i64 x.f2.f1, .int .i64 x.f2.f2, .int .i64 x.f2.f3, .string x.f2.f4] 56))
        clear hj0 hlt hM1 hcn hcl htd htk hsn hgo HM HB
        go_wp2
        have hwr : w.heap.size ≤ wr.heap.size ∧ w.heap.size < wr.heap.size := by
          obtain ⟨D, h1, _⟩ := HM1.out
          have h2 := HB0.out.size
          exact ⟨h2, HL.out⟩
        have HW := Aside0.mk hwr
        clear hwr
        obtain ⟨W1, hW1⟩ : ∃ W1, W1 = wr.alloc (.cells #[.int .i64 x.f0, .int .i64 x.f1, .int .i64 x.f2.f0, .int .i64 x.f2.f1, .int .i64 x.f2.f2, .int .i64 x.f2.f3, .string x.f2.f4] 56) := ⟨_, rfl⟩
        have hn0 : W1.heap[wr.heap.size]? = some (.cells #[.int .i64 x.f0, .int .i64 x.f1, .int .i64 x.f2.f0, .int .i64 x.f2.f1, .int .i64 x.f2.f2, .int .i64 x.f2.f3, .string x.f2.f4] 56 (0, 0)) := by rw [hW1]; simpa using heap_alloc_new wr _
        have HN0 := Aside0.mk hn0
        rw [← hW1] at HM1 HB1 ⊢
        clear hW1 hx0 hx1 hx2 hx3 hx4 hx5 hx6 hn0
        generalize wr.heap.size = g at HN0 HW ⊢
        have hc0 : W1.cell? ⟨g, 0, none⟩ = some (.int .i64 x.f0) := (blk_cell HN0.out 0).trans rfl
        have hc1 : W1.cell? ⟨g, 1, none⟩ = some (.int .i64 x.f1) := (blk_cell HN0.out 1).trans rfl
        have hc2 : W1.cell? ⟨g, 2, none⟩ = some (.int .i64 x.f2.f0) := (blk_cell HN0.out 2).trans rfl
        have hc3 : W1.cell? ⟨g, 3, none⟩ = some (.int .i64 x.f2.f1) := (blk_cell HN0.out 3).trans rfl
        have hc4 : W1.cell? ⟨g, 4, none⟩ = some (.int .i64 x.f2.f2) := (blk_cell HN0.out 4).trans rfl
        have hc5 : W1.cell? ⟨g, 5, none⟩ = some (.int .i64 x.f2.f3) := (blk_cell HN0.out 5).trans rfl
        have hc6 : W1.cell? ⟨g, 6, none⟩ = some (.string x.f2.f4) := (blk_cell HN0.out 6).trans rfl
        have hgo := HGO.out
        clear HGO
        obtain ⟨t, ht, hgo⟩ := Option.bind_eq_some_iff.1 hgo
        have HT := Aside0.mk ht
        clear ht
        have HBd := Aside0.mk (below_drew1 HB1.out)
        have HGd := Aside0.mk (HG.out.below HBd.out)
        have HMd := Aside0.mk HM1.out.drew
        have HNd := Aside0.mk (blk_drew HN0.out)
        have hwho := fun (e : t = true) => entry_who (k := k) (e ▸ HT.out)
        clear HB1 HM1 HN0
        cases t with
        | false =>
          simp only [Bool.false_eq_true, if_false, Option.some.injEq] at hgo
          subst hgo
          clear hwho
          refine start_ (n := 12) (S := fun w' => w'.cell? ⟨g, 0, none⟩ = some (.int .i64 x.f0) ∧ w'.cell? ⟨g, 1, none⟩ = some (.int .i64 x.f1) ∧ w'.cell? ⟨g, 2, none⟩ = some (.int .i64 x.f2.f0) ∧ w'.cell? ⟨g, 3, none⟩ = some (.int .i64 x.f2.f1) ∧ w'.cell? ⟨g, 4, none⟩ = some (.int .i64 x.f2.f2) ∧ w'.cell? ⟨g, 5, none⟩ = some (.int .i64 x.f2.f3) ∧ w'.cell? ⟨g, 6, none⟩ = some (.string x.f2.f4)) (ds := []) #[false, false, false, false, false, false, false, false, false, false, false, false] (by kernel_rfl) rfl rfl ⟨(blk_cell HNd.out 0).trans rfl, (blk_cell HNd.out 1).trans rfl, (blk_cell HNd.out 2).trans rfl, (blk_cell HNd.out 3).trans rfl, (blk_cell HNd.out 4).trans rfl, (blk_cell HNd.out 5).trans rfl, (blk_cell HNd.out 6).trans rfl⟩ (fun hHeld => ?_)
          refine take_ (i := 0) (N := some 16) (v := ?_) (a' := ?_) #[true, false, false, false, false, false, false, false, false, false, false, false] rfl rfl (by kernel_rfl) (fun _ _ _ h => h) (Or.inl ⟨by rfl, ?_⟩) hHeld ?_ ?_
          rotate_left
          · rintro w' ⟨s0, s1, s2, s3, s4, s5, s6⟩
            go_simp
            with_reducible rfl
          rotate_left
          · simp only [Act.put, List.setIfInBounds_toArray, List.set_cons_zero, List.set_cons_succ, i64_w, i32_w]
            rfl
          refine one_ (i := 1) (N := some 17) #[true, true, false, false, false, false, false, false, false, false, false, false] rfl rfl (by kernel_rfl) (by decide) (fun K hK => ?_)
          refine goes_ Tryd.func66 (by kernel_rfl) rfl #[.agg #[.int .i64 x.f0, .int .i64 x.f1, .int .i64 x.f2.f0, .int .i64 x.f2.f1, .int .i64 x.f2.f2, .int .i64 x.f2.f3, .string x.f2.f4]] (by rfl) rfl rfl (by (try simp only [List.map_toArray, List.map_cons, List.map_nil]); first | done | rfl) ?_
          with_reducible refine (impl_EntryOk.calls k x.f0 x.f1 x.f2.f0 x.f2.f1 x.f2.f2 x.f2.f3 x.f2.f4 false _ HT.out HGd.out).mono ?_
          rintro e w2 ⟨rfl, hb⟩
          refine ⟨_, rfl, ?_⟩
          have HB2 := Aside0.mk (below_step HBd.out hb)
          have HN2 := Aside0.mk (blk_below HNd.out hb)
          clear hb
          refine hK.out _ _ ⟨(blk_cell HN2.out 0).trans rfl, (blk_cell HN2.out 1).trans rfl, (blk_cell HN2.out 2).trans rfl, (blk_cell HN2.out 3).trans rfl, (blk_cell HN2.out 4).trans rfl, (blk_cell HN2.out 5).trans rfl, (blk_cell HN2.out 6).trans rfl⟩ (fun hHeld2 => ?_)
          clear hK K
          refine norm_ (a' := ?_) ?_ ?_
          rotate_left
          · show Act.put _ (some 17) _ = _
            simp only [Act.put, List.setIfInBounds_toArray, List.set_cons_zero, List.set_cons_succ, i64_w, i32_w]
            rfl
          refine pure_ (i := 2) (N := some 18) (v := ?_) (a' := ?_) #[true, true, true, false, false, false, false, false, false, false, false, false] rfl rfl (by kernel_rfl) (fun _ _ _ h => h) (Or.inl ⟨by rfl, ?_⟩) ?_ ?_
          rotate_left
          · intro w'
            go_simp
            with_reducible rfl
          rotate_left
          · simp only [Act.put, List.setIfInBounds_toArray, List.set_cons_zero, List.set_cons_succ, i64_w, i32_w]
            rfl
          refine pure_ (i := 3) (N := some 19) (v := ?_) (a' := ?_) #[true, true, true, true, false, false, false, false, false, false, false, false] rfl rfl (by kernel_rfl) (fun _ _ _ h => h) (Or.inl ⟨by rfl, ?_⟩) ?_ ?_
          rotate_left
          · intro w'
            go_simp
            with_reducible rfl
          rotate_left
          · simp only [Act.put, List.setIfInBounds_toArray, List.set_cons_zero, List.set_cons_succ, i64_w, i32_w]
            rfl
          refine pure_ (i := 4) (N := some 20) (v := undef) (a' := ?_) #[true, true, true, true, true, false, false, false, false, false, false, false] rfl rfl (by kernel_rfl) (fun _ _ _ h => h) (Or.inr ⟨by rfl, rfl⟩) ?_ ?_
          rotate_left
          · simp only [Act.put, List.setIfInBounds_toArray, List.set_cons_zero, List.set_cons_succ, i64_w, i32_w]
            rfl
          refine pure_ (i := 5) (N := some 21) (v := undef) (a' := ?_) #[true, true, true, true, true, true, false, false, false, false, false, false] rfl rfl (by kernel_rfl) (fun _ _ _ h => h) (Or.inr ⟨by rfl, rfl⟩) ?_ ?_
          rotate_left
          · simp only [Act.put, List.setIfInBounds_toArray, List.set_cons_zero, List.set_cons_succ, i64_w, i32_w]
            rfl
          refine pure_ (i := 6) (N := some 22) (v := undef) (a' := ?_) #[true, true, true, true, true, true, true, false, false, false, false, false] rfl rfl (by kernel_rfl) (fun _ _ _ h => h) (Or.inr ⟨by rfl, rfl⟩) ?_ ?_
          rotate_left
          · simp only [Act.put, List.setIfInBounds_toArray, List.set_cons_zero, List.set_cons_succ, i64_w, i32_w]
            rfl
          refine pure_ (i := 7) (N := some 23) (v := undef) (a' := ?_) #[true, true, true, true, true, true, true, true, false, false, false, false] rfl rfl (by kernel_rfl) (fun _ _ _ h => h) (Or.inr ⟨by rfl, rfl⟩) ?_ ?_
          rotate_left
          · simp only [Act.put, List.setIfInBounds_toArray, List.set_cons_zero, List.set_cons_succ, i64_w, i32_w]
            rfl
          refine pure_ (i := 8) (N := some 24) (v := undef) (a' := ?_) #[true, true, true, true, true, true, true, true, true, false, false, false] rfl rfl (by kernel_rfl) (fun _ _ _ h => h) (Or.inr ⟨by rfl, rfl⟩) ?_ ?_
          rotate_left
          · simp only [Act.put, List.setIfInBounds_toArray, List.set_cons_zero, List.set_cons_succ, i64_w, i32_w]
            rfl
          refine pure_ (i := 9) (N := some 25) (v := undef) (a' := ?_) #[true, true, true, true, true, true, true, true, true, true, false, false] rfl rfl (by kernel_rfl) (fun _ _ _ h => h) (Or.inr ⟨by rfl, rfl⟩) ?_ ?_
          rotate_left
          · simp only [Act.put, List.setIfInBounds_toArray, List.set_cons_zero, List.set_cons_succ, i64_w, i32_w]
            rfl
          refine pure_ (i := 10) (N := some 26) (v := undef) (a' := ?_) #[true, true, true, true, true, true, true, true, true, true, true, false] rfl rfl (by kernel_rfl) (fun _ _ _ h => h) (Or.inr ⟨by rfl, rfl⟩) ?_ ?_
          rotate_left
          · simp only [Act.put, List.setIfInBounds_toArray, List.set_cons_zero, List.set_cons_succ, i64_w, i32_w]
            rfl
          refine pure_ (i := 11) (N := some 27) (v := ?_) (a' := ?_) #[true, true, true, true, true, true, true, true, true, true, true, true] rfl rfl (by kernel_rfl) (fun _ _ _ h => h) (Or.inl ⟨by rfl, ?_⟩) ?_ ?_
          rotate_left
          · intro w'
            go_simp
            with_reducible rfl
          rotate_left
          · simp only [Act.put, List.setIfInBounds_toArray, List.set_cons_zero, List.set_cons_succ, i64_w, i32_w]
            rfl
          refine done_ (by kernel_rfl) ?_
          go_wp2
          go_ret
          exact ⟨rfl, HB2.out⟩
        | true =>
          simp only [if_true] at hgo
          have hx13 := hwho rfl
          have HX := Aside0.mk (show 0 ≤ x.f0 ∧ x.f0 ≤ 4 from ⟨by omega, by omega⟩)
          have HC := Aside0.mk (show 0 ≤ cntE (l0.take j.toNat) x.f0 ∧ cntE (l0.take j.toNat) x.f0 ≤ 1000 from ⟨HCN.out.1, by have := HCN.out.2; have := HCL.out; omega⟩)
          clear hwho hx13
          have HGO := Aside0.mk hgo
          clear hgo
          generalize cntE (l0.take j.toNat) = c at HMd HSN HCN HGO HC
          by_cases hq : c x.f0 + 1 = x.f1
          · have hgo := HGO.out
            rw [if_pos hq] at hgo
            clear HGO
            have HGO := Aside0.mk hgo
            clear hgo
            have b1 : (c x.f0 + 1 != x.f1) = false := bne_eq_false_iff_eq.2 hq
            clear hq
            go_region_with (first
              | (go_at_call 66; refine (impl_EntryOk.calls k _ _ _ _ _ _ _ true _ HT.out HGd.out).mono ?_; rintro e w2 ⟨rfl, hb⟩; have HB2 := Aside0.mk (below_step HBd.out hb); have HM2 := Aside0.mk (HMd.out.below hb); have HN2 := Aside0.mk (blk_below HNd.out hb); clear hb; have hd0 := (blk_cell HN2.out 0).trans rfl; have hd1 := (blk_cell HN2.out 1).trans rfl)
              | (go_at_call 72; refine (add_any _ _ _ _ _ HX.out HC.out HJN.out.1 HM2.out).mono ?_; rintro e w3 ⟨rfl, hM3, hg3⟩; have HM3 := Aside0.mk hM3; have HN3 := Aside0.mk ((hg3.block g (blk_lt HN2.out) (by intro e; cases e; have := HW.out; omega)).trans HN2.out); have HB3 := Aside0.mk (HB2.out.grown hg3 HB2.out.size (fun j hj => by cases hj; exact Nat.le_refl _)); clear hM3 hg3; have hf0 := (blk_cell HN3.out 0).trans rfl; have hf1 := (blk_cell HN3.out 1).trans rfl))
            all_goals go_wp2
            all_goals have hjj := HJN.out
            all_goals have hww : wrap64 (j + 1) = j + 1 := by unfold wrap64; omega
            all_goals refine ⟨⟨j + 1, by omega, by omega, by rw [hww], HGO.out, ?_, HB3.out⟩, ?_⟩
            all_goals first
              | (rw [hww]; show l0.length - (j + 1).toNat < l0.length - j.toNat; omega)
              | (rw [HSN.out, show (j + 1).toNat = j.toNat + 1 by omega]; exact HM3.out)
          · have hgo := HGO.out
            rw [if_neg hq] at hgo
            obtain rfl := Option.some.inj hgo
            clear HGO hgo
            have b1 : (c x.f0 + 1 != x.f1) = true := bne_iff_ne.2 hq
            clear hq
            go_region_with (first
              | (go_at_call 66; refine (impl_EntryOk.calls k _ _ _ _ _ _ _ true _ HT.out HGd.out).mono ?_; rintro e w2 ⟨rfl, hb⟩; have HB2 := Aside0.mk (below_step HBd.out hb); have HM2 := Aside0.mk (HMd.out.below hb); have HN2 := Aside0.mk (blk_below HNd.out hb); clear hb; have hd0 := (blk_cell HN2.out 0).trans rfl; have hd1 := (blk_cell HN2.out 1).trans rfl)
              | (go_at_call 72; refine (add_any _ _ _ _ _ HX.out HC.out HJN.out.1 HM2.out).mono ?_; rintro e w3 ⟨rfl, hM3, hg3⟩; have HN3 := Aside0.mk ((hg3.block g (blk_lt HN2.out) (by intro e; cases e; have := HW.out; omega)).trans HN2.out); have HB3 := Aside0.mk (HB2.out.grown hg3 HB2.out.size (fun j hj => by cases hj; exact Nat.le_refl _)); clear hM3 hg3; have hf0 := (blk_cell HN3.out 0).trans rfl; have hf1 := (blk_cell HN3.out 1).trans rfl))
            all_goals go_wp2
            all_goals go_ret
            all_goals exact ⟨rfl, HB3.out⟩
      · have hd1 : decide (j < (l0.length : Int)) = false := decide_eq_false hlt
        have hgo := HGO.out
        rw [List.drop_eq_nil_of_le (by omega)] at hgo
        unfold impl_LogOk.go at hgo
        obtain rfl := Option.some.inj hgo
        clear hgo HGO hlt
        go_wp2
        go_ret
        exact ⟨rfl, HB.out⟩
end Go.Proofs.YtnclcbjagleoeaaDoor.P
