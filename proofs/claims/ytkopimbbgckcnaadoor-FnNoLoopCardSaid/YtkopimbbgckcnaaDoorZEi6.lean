/- Joined by a program (wip/shake.py): the declarations that 'YtkopimbbgckcnaaDoorCardFnNoLoop' reaches. -/
import Derived.Test.YtkopimbbgckcnaaDoorZEi5
set_option linter.unusedVariables false
set_option linter.unusedSimpArgs false
set_option linter.unusedSectionVars false
namespace Go.Proofs.YtkopimbbgckcnaaDoor.PL
open Go.RowKit Go.Proofs.YtkopimbbgckcnaaDoor.P Go.Proofs.YtkopimbbgckcnaaDoorW.PrintWords Go.Proofs.YtkopimbbgckcnaaDoorW.PrintLast Go.Proofs.YtkopimbbgckcnaaDoor.FP
theorem lpR_l0 (l : List S43) (hl : l.length ≤ 1099511627776) : ∀ (n i : Nat), i + n = l.length → Ev (fun k => laws_lpRows.l0 k l l i) true
 | 0, i, h => by
  refine Ev.step (f := fun _ => some true) (fun k => ?_) (evnow _)
  simp only [laws_lpRows.l0]; rw [if_neg (by omega)]
 | n + 1, i, h => by
  refine Ev.step (fun k => ?_) (lpR_l0 l hl n (i + 1) (by omega))
  simp only [laws_lpRows.l0]
  rw [if_pos (by omega), if_pos (by omega), if_pos (by omega)]
  simp only [BEq.rfl, Bool.not_true, Bool.or_false, Bool.false_eq_true, if_false]
  rw [wrapS i (by omega) (by omega)]
  rfl
theorem lpR_f (l : List S43) (hl : l.length ≤ 1099511627776) : Ev (fun k => laws_lpRows.f k l l) true := by
 unfold laws_lpRows.f
 exact ev_pos rfl (lpR_l0 l hl l.length 0 (by omega))
theorem lpR_eq {a b : List S43} (h : a = b) (hl : a.length ≤ 1099511627776) : Ev (fun k => laws_lpRows.f k a b) true := h ▸ lpR_f a hl
theorem lpR_do (l : List S43) (k i u a : Int) (s : ByteArray) : Ev (fun n => laws_lpRows.f n (opDoR l k i u a s) (opDoR l k i u a s)) true := lpR_f _ (by have := opDoR_len l k i u a s; omega)
theorem Dr.wfR {t : List S43} {k i u a : Int} {s : ByteArray} (d : Dr t k i u a s) : ∀ r ∈ t, wfR r := fun r hr => ⟨(d.wf r hr).1, by have := (d.wf r hr).2; omega⟩
theorem Dr.size {t : List S43} {k i u a : Int} {s : ByteArray} (d : Dr t k i u a s) : s.size ≤ 9223372036854775807 := by have := d.op.2.2.2.2; omega
theorem Dr.iop {t : List S43} {k i u a : Int} {s : ByteArray} (d : Dr t k i u a s) : Ev (fun n => impl_OpDo.f n t k i u a s) (opDoR t k i u a s) := iopDo_f t k i u a s d.size
theorem Dr.tree {t : List S43} {k i u a : Int} {s : ByteArray} (d : Dr t k i u a s) : Ev (fun n => spec_TreeOk.f n t) (treeB t) := stree_f t (by have := d.few; omega) d.wfR
theorem Dr.opOk {t : List S43} {k i u a : Int} {s : ByteArray} (d : Dr t k i u a s) : Ev (fun n => spec_OpOk.f n k i u a s) (opB k i u a s) := sop_f k i u a s d.op.2.1 d.op.2.2.1 d.op.2.2.2.1 d.size
theorem opDoR_val {l : List S43} {k u a : Int} {i : Nat} {s : ByteArray} (ho : opB k (i : Int) u a s = true) (ht : treeB l = true) : opDoR l k i u a s = (FP.doF (toFo l) k i u a s).fl 0 := (opDo_val ho ht).1
theorem le40 (l : List S43) (k i u a : Int) (s : ByteArray) : (opDoR l k i u a s).length ≤ 1099511627776 := by have := opDoR_len l k i u a s; omega
theorem pure_of {f : Nat → Option Bool} (h : Ev f true) : ∃ k, f k = some true := by
 obtain ⟨K, hK⟩ := h
 exact ⟨K, hK K (Nat.le_refl K)⟩
theorem sopDo_f (l : List S43) (k i u a : Int) (s : ByteArray) (hl : l.length ≤ 1000000000) (hw : ∀ r ∈ l, wfR r) (hi : I64 i) (hu : I64 u) (ha : I64 a) (hs : s.size ≤ 9223372036854775807) : Ev (fun n => spec_OpDo.f n l k i u a s) (opDoR l k i u a s) := by
 unfold spec_OpDo.f opDoR
 refine Ev.bind (stree_f l hl hw) ?_
 cases ht : treeB l with
 | false =>
  simp only [Bool.false_eq_true, if_false, ite_self]
  exact evnow _
 | true =>
  simp only [if_true]
  refine Ev.bind (sop_f k i u a s hi hu ha hs) ?_
  cases ho : opB k i u a s with
  | false =>
   simp only [Bool.false_eq_true, if_false]
   exact evnow _
  | true =>
   simp only [if_true]
   obtain ⟨m, rfl, h4, h37⟩ := made_num (opB_made k i u a s ho)
   have g := good_of ht
   have := do_x g k m (by omega) (by rw [g.tops]; simp; omega) u a s (opB_kind ho)
   rw [toFo_fl ht] at this
   exact Ev.bind this (evnow _)
theorem drawOpDo_f (code : List Int) (h : ∀ x ∈ code, (Lit.int .u8 x).wf = true) : ∃ (t : List S43) (k i u a : Int) (s : ByteArray), Ev (fun n => spec_DrawOpDo.f n code) (t, k, i, u, a, s) ∧ Dr t k i u a s := by
 obtain ⟨b, hb, hB⟩ := open_f code (fun x hx => byte_of (h x hx))
 obtain ⟨t, k, i, u, a, s, p', h1, h2, _⟩ := fits71_f b hB 0 0 ⟨by omega, by omega⟩
 refine ⟨t, k, i, u, a, s, ?_, h2⟩
 unfold spec_DrawOpDo.f
 rw [hb]
 simp only [Option.bind_some]
 exact Ev.bind h1 (evnow _)
theorem Dr.sop {t : List S43} {k i u a : Int} {s : ByteArray} (d : Dr t k i u a s) : Ev (fun n => spec_OpDo.f n t k i u a s) (opDoR t k i u a s) :=
 sopDo_f t k i u a s (by have := d.few; omega) d.wfR d.op.2.1 d.op.2.2.1 d.op.2.2.2.1 d.size
theorem Dr.same {t : List S43} {k i u a : Int} {s : ByteArray} (d : Dr t k i u a s) {f : Nat → Option Bool} (hf : ∀ n, f n = ((spec_OpDo.f n t k i u a s).bind fun y => ((laws_lpRows.f n (opDoR t k i u a s) y).bind fun z => (some z)))) : Ev f true :=
 Ev.congr hf (Ev.bind d.sop (Ev.bind (lpR_do t k i u a s) (evnow _)))
theorem where_f2 (l : List S43) (k i u a : Int) (s : ByteArray) (hs : s.size ≤ 9223372036854775807) : Ev (fun n => impl_OpWhere.f n l k i u a s) (whR (opB k i u a s) l k i u a) := by
 unfold impl_OpWhere.f
 exact Ev.bind (opOk_f k i u a s hs) (evnow _)
theorem noLoop_tail {l : List S43} {i u a : Int} {s : ByteArray} (ho : opB 3 i u a s = true) (ht : treeB l = true) (f : Nat → Option Bool) (hf : ∀ n, f n = (if (upR (opDoR l 3 i u a s) i).1 = 0 then (some true) else ((impl_TreeUnder.f n (opDoR l 3 i u a s) (upR (opDoR l 3 i u a s) i).1 i).bind fun z => (some (!z))))) : Ev f true := by
 obtain ⟨m, rfl, h4, h37, hm⟩ := made_nat ho
 obtain ⟨e, h2, h3, v'⟩ := opDo_val ho ht
 refine Ev.congr hf ?_
 by_cases h0 : (upR (opDoR l 3 m u a s) m).1 = 0
 ·exact ev_pos h0 (evnow _)
 ·refine ev_neg h0 (Ev.bind (evnow (underR (opDoR l 3 m u a s) (upR (opDoR l 3 m u a s) m).1 m)) ?_)
  have hz : underR (opDoR l 3 m u a s) (upR (opDoR l 3 m u a s) m).1 m = false := by
   unfold upR at h0 ⊢
   unfold underR
   rw [if_pos h2, h3] at h0 ⊢
   by_cases hz : fndF (FP.doF (toFo l) 3 m u a s) m = 0
   ·rw [if_pos hz] at h0; exact absurd rfl h0
   ·rw [if_neg hz]
    have hmem := (fndF_mem hz).1
    have hfm : fndF (FP.doF (toFo l) 3 m u a s) m = m := by have := (fndF_mem hz).2; omega
    rw [hfm] at hmem ⊢
    have hnot := par_not_under v'.nd v'.ne0 hmem (v'.top hm)
    have hp := (back_top (by omega) _ v'.nd v'.ne0 hmem (v'.top hm)).up
    simp only
    rw [fnd_nat hp, decide_eq_false hnot, Bool.and_false, Bool.and_false, Bool.and_false]
  rw [hz]
  exact evnow _
theorem noLoop_j0 {t : List S43} {k i u a : Int} {s : ByteArray} (d : Dr t k i u a s) (f : Bool) (hf : f = false → treeB t = true ∧ opB k i u a s = true ∧ k = 3) : Ev (fun n => laws_FnNoLoop.j0 n t (opDoR t k i u a s) f k i u a s) true := by
 cases f with
 | true =>
  refine Ev.step (fun n => by simp only [laws_FnNoLoop.j0]; rfl) ?_
  exact ev_pos (by simp) (d.same fun n => rfl)
 | false =>
  obtain ⟨ht, ho, rfl⟩ := hf rfl
  refine Ev.step (fun n => by simp only [laws_FnNoLoop.j0]; rfl) ?_
  refine ev_neg (by decide) (Ev.bind (where_f2 t 3 i u a s d.size) (Ev.bind (evnow (underR t u i)) (Ev.bind (evnow (upR (opDoR t 3 i u a s) i)) ?_)))
  cases hu : underR t u i with
  | false => exact ev_neg (by decide) (noLoop_tail ho ht _ fun n => rfl)
  | true =>
   refine ev_pos rfl ?_
   have hloop : (whR (opB 3 i u a s) t 3 i u a).2.2 = false ∧ opDoR t 3 i u a s = t := by
    obtain ⟨m, rfl, h4, h37, hm⟩ := made_nat ho
    unfold underR at hu
    simp only [Bool.and_eq_true, decide_eq_true_eq] at hu
    obtain ⟨_, q1, q2, q3⟩ := hu
    have hmem := (fndF_mem q2).1
    have hfm : fndF (toFo t) m = m := by have := (fndF_mem q2).2; omega
    have hw : whB (toFo t) 3 m u = false := by rw [whB_move]; simp [q3]
    refine ⟨?_, ?_⟩
    ·unfold whR
     rw [hw, Bool.and_false, Bool.and_false, if_neg (by decide)]
    ·rw [opDoR_val ho ht, doF_loop u a s (fun _ => by rw [hfm] at q3; exact q3), toFo_fl ht]
   rw [hloop.1]
   refine ev_neg (by decide) (Ev.bind (lpR_eq hloop.2 (le40 ..)) (ev_pos rfl ?_))
   exact noLoop_tail ho ht _ fun n => rfl
theorem FnNoLoop : laws_FnNoLoop.Pure := by
 intro l0 _ _ h0
 refine pure_of ?_
 unfold laws_FnNoLoop.f
 by_cases h : (l0.length : Int) > 1048576
 ·exact ev_pos h (evnow _)
 ·obtain ⟨t, k, i, u, a, s, hd, d⟩ := drawOpDo_f l0 h0
  refine ev_neg h (Ev.bind hd (Ev.bind d.iop (Ev.bind d.sop (Ev.bind (lpR_do t k i u a s) (ev_pos rfl (Ev.bind d.tree ?_))))))
  cases ht : treeB t with
  | false => exact ev_neg (by simp) (noLoop_j0 d true fun h => by cases h)
  | true =>
   refine ev_pos rfl (Ev.bind d.opOk ?_)
   cases ho : opB k i u a s with
   | false => exact ev_neg (by simp) (noLoop_j0 d true fun h => by cases h)
   | true => exact ev_pos rfl (noLoop_j0 d _ fun h => ⟨ht, ho, by simpa using h⟩)
end Go.Proofs.YtkopimbbgckcnaaDoor.PL
namespace Go.Proofs.YtkopimbbgckcnaaDoor.P
open Go.ChangeShapes Go.WideShapes Go.ChangeAt Go.RowKit
theorem tOwners : (Tryd.prog.globals[0]?).map (·.type) = some 73 := by kernel_rfl
theorem cOwners : Tryd.prog.cellsOf 73 = 37 := by kernel_rfl
theorem cInt : Tryd.prog.cellsOf 3 = 1 := by kernel_rfl
abbrev ownCells : Array Value := (owners.map fun z => Value.int .i64 z).toArray
theorem glob_of_laid {W : World} (h : laidMet Tryd.prog [("loop.example/plashet/impl.rowOwners", Rows.laid_loop_example_plashet_impl_rowOwners)] W) : Glob W :=
 Lib.tabIs_of_head gOwners tOwners Tryd.underlying73 Tryd.underlying3 cInt cOwners h
theorem door_met (os : Os) (args : Array Value) : laidMet Tryd.prog [("loop.example/plashet/impl.rowOwners", Rows.laid_loop_example_plashet_impl_rowOwners)] ((World.doorLaid Tryd.prog 400 os).forCall (fun _ _ => 0) ⟨#[], args, []⟩).memory :=
 laidMet_of_run' 8 (by kernel_rfl) (by kernel_rfl)
abbrev tableH {H : Type} : DataW H := .agg (owners.map fun z => .lit (.int .i64 z))
theorem reads_table {H : Type} (enc : TypeId × Value → H) (W : World) (sp : Nat → Bool) : DataW.trod enc Tryd.prog W 0 sp true 3 73 ownCells.toList = some (tableH, []) := by kernel_rfl
theorem tab_vars {H : Type} (enc : TypeId × Value → H) {W : World} (h : Glob W) {sp : Nat → Bool} : DataW.TrodVars enc Tryd.prog W sp ["loop.example/plashet/impl.rowOwners"] [tableH] (MemPlace.row ⟨0, 0, none⟩ ownCells.size ++ [] ++ []) :=
 ⟨0, 73, ownCells, 3, [], [], gOwners, tOwners, h, reads_table enc W sp, rfl, rfl⟩
end Go.Proofs.YtkopimbbgckcnaaDoor.P
namespace Go.Proofs.YtkopimbbgckcnaaDoor.fnNoLoop
open Go.ChangeMaps (open_string shut_string)
open Go.ChangeShapes Go.WideShapes Go.ChangeAt Go.RowKit
theorem own : ownKnob Tryd.prog.godebug = none := by kernel_rfl
theorem laidOut : laidOutB Tryd.prog = true := by kernel_rfl
def IsRow (k : IntKind) (w : World) (a : Option Addr) (len cap : Nat) (zs : List Int) : Prop :=
 (a = none ∧ len = 0 ∧ cap = 0 ∧ zs = []) ∨
 ∃ x, a = some x ∧ len ≤ cap ∧ cap ≤ maxLen ∧ zs.length = cap ∧ (∀ i, i < zs.length → w.cell? (x.add i) = some (.int k (zs.getD i 0))) ∧ ∀ n ∈ zs, (Lit.int k n).wf = true
set_option maxRecDepth 100000 in
theorem lifted (os : Os) (started : os.Started) (H : Type) (enc : TypeId × Value → H) :
  ReturnsInHanded {} Tryd.checked os 13 .any (fun w args => (Rows.fnNoLoopSpec.pre enc Tryd.prog Tryd.f13 [] false w args ∧ laidMet Tryd.prog [("loop.example/plashet/impl.rowOwners", Rows.laid_loop_example_plashet_impl_rowOwners)] w) ∧ sizedMet enc Tryd.prog Tryd.f13 (OpenSpec.ofChange Rows.fnNoLoopSpec) false w args) (Rows.fnNoLoopSpec.post enc Tryd.prog Tryd.f13 false true false false) := by
 refine returnsInHanded_of_change_and (C := Tryd.checked) (X := fun w _ => laidMet Tryd.prog [("loop.example/plashet/impl.rowOwners", Rows.laid_loop_example_plashet_impl_rowOwners)] w) (fun _ _ _ hh h => h.of_heap hh) own started (by kernel_rfl) Tryd.func13
  (ChangeSpec.witness_shaped (enc := enc) (C := Tryd.checked) (os := os) (X := fun w _ => laidMet Tryd.prog [("loop.example/plashet/impl.rowOwners", Rows.laid_loop_example_plashet_impl_rowOwners)] w) false (World.doorLaid Tryd.prog 400 os) #[.slice none 0 0] 8 rfl (World.shaped_of_RefB (by kernel_rfl) (by kernel_rfl)) (by kernel_rfl) (by kernel_rfl) (by kernel_rfl) (P.door_met os _)) ?_
 intro W base args ds gs before hval0 hW _ hsz0 hL _
 have hsz : (DataW.weightsEach Tryd.prog (Tryd.f13.params.toList ++ Rows.fnNoLoopSpec.plain.varTypes Tryd.prog) (ds ++ gs)).all (· ≤ reachBytes) = true := hsz0
 have hval : ∀ (j : Nat) t v, Tryd.f13.params[j]? = some t → args[j]? = some v → Value.okWide Tryd.prog W .any base t v := hval0
 have hW' := hW
 obtain ⟨p, q, hA0, hV, rfl, hfz, hnd⟩ := hW
 have hA : DataW.TrodAll enc Tryd.prog W 0 (fun _ => true) true Tryd.f13.params.toList args.toList ds p := hA0
 rw [Tryd.params13] at hA hval hsz
 obtain ⟨v0, vs0, d0, ds0, p0, q0, hargs, rfl, rfl, h0, r0⟩ := trodAll_cons hA
 obtain ⟨rfl, rfl, rfl⟩ := trodAll_nil r0
 obtain rfl : args = #[v0] := by cases args; simp_all
 have hG : P.Glob W := P.glob_of_laid hL
 obtain ⟨gv, tv, csv, fuelv, dv, pv, rfl, hgv, htv, hvarv, hdv, rfl⟩ := trodVars_one hV
 obtain rfl : csv = P.ownCells := Option.some.inj (hvarv.symm.trans hG)
 obtain rfl := Option.some.inj (P.tOwners.symm.trans (by rw [Option.some.inj (P.gOwners.symm.trans hgv)]; exact htv))
 obtain ⟨rfl, rfl⟩ := DataW.Trod.unique (v := .agg P.ownCells) ⟨fuelv, hdv⟩ ⟨3, P.reads_table enc W _⟩
 obtain ⟨a0, len0, cap0, rfl⟩ := okWide_slice Tryd.underlying35 (hval 0 35 v0 rfl rfl)
 have k0 := h0
 have lt0 : ∀ x ∈ p0, x.block < W.heap.size := by obtain ⟨m, hm⟩ := k0; exact DataW.trod_lt m _ _ _ hm
 obtain ⟨z0, w0⟩ : ∃ zs, IsRow .u8 W a0 len0 cap0 zs := by
  obtain ⟨fuel, hf⟩ := h0
  rcases open_ints Tryd.underlying35 Tryd.underlying5 (by kernel_rfl) hf with ⟨hcs, _⟩ | ⟨x, l, c, zs, hcs, _, hl, hm, hz, _, hcell, hwz⟩
  ·simp [Value.cells] at hcs
   obtain ⟨rfl, rfl, rfl⟩ := hcs
   exact ⟨[], .inl ⟨rfl, rfl, rfl, rfl⟩⟩
  ·simp [Value.cells] at hcs
   obtain ⟨rfl, rfl, rfl⟩ := hcs
   exact ⟨zs, .inr ⟨_, rfl, hl, hm, by simpa using hz, hcell, hwz⟩⟩
 have y0 : len0 * 1 ≤ 140737488351232 := Go.Proofs.YtkopimbbgckcnaaDoorW.PrintWords.sized_ints hsz (j := 0) (t := 35) rfl rfl Tryd.underlying35 Tryd.underlying5 (by kernel_rfl) (by kernel_rfl) h0
 clear hA0 hval0 hsz0 hsz
 refine (P.laws_FnNoLoop.walk PL.FnNoLoop a0 len0 cap0 z0 W w0 y0 hG).mono fun e W' ⟨he, bel⟩ => ?_
 subst he
 exact ⟨_, rfl, _, _, _, _, _, _, hW', trodAll_mk1 (shut_bool Tryd.underlying4 _), (trodAll_cons_mk (Below.trod laidOut (by kernel_rfl) (of_decide_eq_true (by kernel_rfl)) k0 bel lt0) trodAll_mk0), P.tab_vars enc (hG.below bel), bel.frame _, fun h => by cases h⟩
theorem over : Rows.fnNoLoopRow.holds Tryd.pinned (OpenSpec.ofChange Rows.fnNoLoopSpec) :=
 OpenClaim.holds_of_wide 13 Tryd.f13 rfl rfl rfl rfl rfl rfl rfl ⟨rfl, rfl, rfl, rfl, rfl⟩ rfl rfl rfl rfl rfl (by kernel_rfl) Tryd.func13 (by kernel_rfl)
  (of_decide_eq_true (by kernel_rfl)) (by unfold Func.isWrapper; first | (rw [if_pos (by decide +kernel)]; kernel_rfl) | (rw [if_neg (by decide +kernel)]; exact ⟨rfl, rfl⟩))
  (fun os started H enc _ => lifted os started H enc)
theorem proved : Rows.FnNoLoopSaid := over
#print axioms proved
end Go.Proofs.YtkopimbbgckcnaaDoor.fnNoLoop
namespace Go.Proofs.YtkopimbbgckcnaaDoor
theorem fnNoLoop_holds : Rows.FnNoLoopSaid := fnNoLoop.proved
end Go.Proofs.YtkopimbbgckcnaaDoor
namespace Go.Proofs.YtkopimbbgckcnaaDoor
open Go
theorem fnNoLoopCard_holds : Rows.FnNoLoopCardSaid :=
 Claim7.holds_tied_plain_at .later [] [.data] true (true, "05e51009c0bec8d8d35deb79e81af090818f8d02cc4b5bce3a1d080efdde1e4f") true
  fnNoLoop_holds (fun _ h => by cases h) (by kernel_rfl) (fun _ h => by cases h) fnNoLoop_row_tie rfl ⟨rfl, rfl⟩ (by kernel_rfl) rfl
  (fun f fn hf hfn => by
   obtain rfl : f = 13 := Option.some.inj ((show Tryd.prog.funcNamed "loop.example/plashet/laws.FnNoLoop" = some 13 by kernel_rfl).symm.trans hf) |>.symm
   obtain rfl : fn = Tryd.f13 := (Option.some.inj (Tryd.func13.symm.trans hfn)).symm
   exact ⟨by kernel_rfl, fun j t ht => by
    rw [Tryd.params13] at ht
    have hm : t ∈ [35] := by have := Array.mem_of_getElem? ht; simp at this; first | (subst this; simp; done) | (rcases this with h | h <;> simp [h]; done) | (rcases this with h | h | h <;> simp [h]; done)
    have hall : ([35].all fun u => !Tryd.prog.wantsStandIn u) = true := by kernel_rfl
    exact (show Tryd.prog.wantsStandIn t = false by simpa using List.all_eq_true.1 hall t hm)⟩)
  (by kernel_rfl)
#print axioms fnNoLoopCard_holds
end Go.Proofs.YtkopimbbgckcnaaDoor
