/- Joined by a program (wip/shake.py): the declarations that 'YtkopimbbgckcnaaDoorCardFnMoveTwo' reaches. -/
import Derived.Test.YtkopimbbgckcnaaDoorZEb5
set_option linter.unusedVariables false
set_option linter.unusedSimpArgs false
set_option linter.unusedSectionVars false
namespace Go.Proofs.YtkopimbbgckcnaaDoor.PL
open Go.RowKit Go.Proofs.YtkopimbbgckcnaaDoor.P Go.Proofs.YtkopimbbgckcnaaDoorW.PrintWords Go.Proofs.YtkopimbbgckcnaaDoorW.PrintLast Go.Proofs.YtkopimbbgckcnaaDoor.FP
theorem drawOpDo_f (code : List Int) (h : ∀ x ∈ code, (Lit.int .u8 x).wf = true) : ∃ (t : List S43) (k i u a : Int) (s : ByteArray), Ev (fun n => spec_DrawOpDo.f n code) (t, k, i, u, a, s) ∧ Dr t k i u a s := by
 obtain ⟨b, hb, hB⟩ := open_f code (fun x hx => byte_of (h x hx))
 obtain ⟨t, k, i, u, a, s, p', h1, h2, _⟩ := fits71_f b hB 0 0 ⟨by omega, by omega⟩
 refine ⟨t, k, i, u, a, s, ?_, h2⟩
 unfold spec_DrawOpDo.f
 rw [hb]
 simp only [Option.bind_some]
 exact Ev.bind h1 (evnow _)
theorem Dr.sop {t : List S43} {k i u a : Int} {s : ByteArray} (d : Dr t k i u a s) : Ev (fun n => spec_OpDo.f n t k i u a s) (opDoR t k i u a s) :=
 sopDo_f t k i u a s (by have := d.few; omega) d.wfR d.op.2.1 d.op.2.2.1 d.op.2.2.2.1 d.size
theorem Dr.same {t : List S43} {k i u a : Int} {s : ByteArray} (d : Dr t k i u a s) {f : Nat → Option Bool} (hf : ∀ n, f n = ((spec_OpDo.f n t k i u a s).bind fun y => ((laws_lpRows.f n (opDoR t k i u a s) y).bind fun z => (some z)))) : Ev f true :=
 Ev.congr hf (Ev.bind d.sop (Ev.bind (lpR_do t k i u a s) (evnow _)))
theorem opB_move {i u a r : Int} {s : ByteArray} (ho : opB 3 i u a s = true) (h1 : 1 ≤ r) (h3 : r ≤ 3) : opB 3 i r 0 ⟨#[]⟩ = true := by
 have hm := opB_made _ _ _ _ _ ho
 have hr : rootB r = true := by unfold rootB; simp; omega
 unfold opB placeB idB
 rw [hm, hr, if_neg (by decide), if_neg (by decide), if_pos rfl]; simp
theorem move_eq {l : List S43} {i u a r : Int} {s : ByteArray} (ho : opB 3 i u a s = true) (ht : treeB l = true) (h1 : 1 ≤ r) (h3 : r ≤ 3) : opDoR (opDoR l 3 i u a s) 3 i r 0 ⟨#[]⟩ = opDoR l 3 i r 0 ⟨#[]⟩ := by
 have ho2 := opB_move ho h1 h3
 obtain ⟨m, rfl, h4, h37, hm⟩ := made_nat ho
 have v := val_of ht
 obtain ⟨x, rfl⟩ : ∃ x : Nat, r = x := ⟨r.toNat, by omega⟩
 have hx : x ∈ (toFo l).tops := by rw [v.tops]; simp; omega
 have hf : fndF (toFo l) (x : Int) = x := fnd_nat (tops_ids hx)
 have := move_two (G := toFo l) v.nd v.ne0 v.three (i := m) (by omega) (v.top hm) (up := u) (at_ := a) (s := s) (root := (x : Int)) (by rw [hf]; exact hx) (by rw [hf]; omega) (fun y hy => tops_not_under v.nd v.ne0 (v.top hm) hy)
 rw [opDoR_two ho ho2 ht, opDoR_val ho2 ht]
 have e : ∀ (G : Fo) (e1 e2 : ByteArray) (k : Int), FP.doF G 3 m k 0 e1 = FP.doF G 3 m k 0 e2 := fun G e1 e2 k => by unfold FP.doF; simp
 rw [e _ _ s, e (toFo l) _ s, this]
theorem moveTwo_j1 {l1 : List Int} {t : List S43} {k i u a : Int} {s : ByteArray} (d : Dr t k i u a s) (f : Bool) (hf : f = false → treeB t = true ∧ opB k i u a s = true ∧ k = 3) : Ev (fun n => laws_FnMoveTwo.j1 n l1 t (opDoR t k i u a s) f k i u a s) true := by
 cases f with
 | true =>
  refine Ev.step (fun n => by simp only [laws_FnMoveTwo.j1]; rfl) ?_
  exact ev_pos (by simp) (d.same fun n => rfl)
 | false =>
  obtain ⟨ht, ho, rfl⟩ := hf rfl
  refine Ev.step (fun n => by simp only [laws_FnMoveTwo.j1]; rfl) ?_
  have hr1 : (1 : Int) ≤ 1 + ((l1.length : Int) % 3) := by omega
  have hr3 : 1 + ((l1.length : Int) % 3) ≤ 3 := by omega
  exact ev_neg (by decide) (Ev.bind (iopDo_f _ _ _ _ _ _ (by decide)) (Ev.bind (iopDo_f _ _ _ _ _ _ (by decide)) (Ev.bind (lpR_eq (move_eq ho ht hr1 hr3) (le40 ..)) (evnow _))))
theorem moveTwo_j0 (l0 l1 : List Int) (f : Bool) (h0 : ∀ x ∈ l0, (Lit.int .u8 x).wf = true) : Ev (fun k => laws_FnMoveTwo.j0 k l0 l1 f) true := by
 cases f with
 | true =>
  refine Ev.step (fun k => by simp only [laws_FnMoveTwo.j0]; rfl) ?_
  exact ev_pos (by simp) (evnow _)
 | false =>
  obtain ⟨t, k, i, u, a, s, hd, d⟩ := drawOpDo_f l0 h0
  refine Ev.step (fun k => by simp only [laws_FnMoveTwo.j0]; rfl) ?_
  refine ev_neg (by decide) (Ev.bind hd (Ev.bind d.iop (Ev.bind d.sop (Ev.bind (lpR_do t k i u a s) (ev_pos rfl (Ev.bind d.tree ?_))))))
  cases ht : treeB t with
  | false => exact ev_neg (by simp) (moveTwo_j1 d true fun h => by cases h)
  | true =>
   refine ev_pos rfl (Ev.bind d.opOk ?_)
   cases ho : opB k i u a s with
   | false => exact ev_neg (by simp) (moveTwo_j1 d true fun h => by cases h)
   | true => exact ev_pos rfl (moveTwo_j1 d _ fun h => ⟨ht, ho, by simpa using h⟩)
theorem FnMoveTwo : laws_FnMoveTwo.Pure := by
 intro l0 l1 _ _ h0 _ _ h1
 refine pure_of ?_
 unfold laws_FnMoveTwo.f
 by_cases h : (l0.length : Int) > 1048576
 ·exact ev_pos h (moveTwo_j0 l0 l1 true h0)
 ·exact ev_neg h (moveTwo_j0 l0 l1 _ h0)
end Go.Proofs.YtkopimbbgckcnaaDoor.PL
namespace Go.Proofs.YtkopimbbgckcnaaDoor.P
open Go.ChangeShapes Go.WideShapes Go.ChangeAt Go.RowKit
theorem tOwners : (Tryd.prog.globals[0]?).map (·.type) = some 73 := by kernel_rfl
theorem cOwners : Tryd.prog.cellsOf 73 = 37 := by kernel_rfl
theorem cInt : Tryd.prog.cellsOf 3 = 1 := by kernel_rfl
abbrev ownCells : Array Value := (owners.map fun z => Value.int .i64 z).toArray
theorem glob_of_laid {W : World} (h : laidMet Tryd.prog [("loop.example/plashet/impl.rowOwners", Rows.laid_loop_example_plashet_impl_rowOwners)] W) : Glob W :=
 Lib.tabIs_of_head gOwners tOwners Tryd.underlying73 Tryd.underlying3 cInt cOwners h
theorem door_met (os : Os) (args : Array Value) : laidMet Tryd.prog [("loop.example/plashet/impl.rowOwners", Rows.laid_loop_example_plashet_impl_rowOwners)] ((World.doorLaid Tryd.prog 400 os).forCall (fun _ _ => 0) ⟨#[], args, []⟩).memory :=
 laidMet_of_run' 8 (by kernel_rfl) (by kernel_rfl)
abbrev tableH {H : Type} : DataW H := .agg (owners.map fun z => .lit (.int .i64 z))
theorem reads_table {H : Type} (enc : TypeId × Value → H) (W : World) (sp : Nat → Bool) : DataW.trod enc Tryd.prog W 0 sp true 3 73 ownCells.toList = some (tableH, []) := by kernel_rfl
theorem tab_vars {H : Type} (enc : TypeId × Value → H) {W : World} (h : Glob W) {sp : Nat → Bool} : DataW.TrodVars enc Tryd.prog W sp ["loop.example/plashet/impl.rowOwners"] [tableH] (MemPlace.row ⟨0, 0, none⟩ ownCells.size ++ [] ++ []) :=
 ⟨0, 73, ownCells, 3, [], [], gOwners, tOwners, h, reads_table enc W sp, rfl, rfl⟩
end Go.Proofs.YtkopimbbgckcnaaDoor.P
namespace Go.Proofs.YtkopimbbgckcnaaDoor.fnMoveTwo
open Go.ChangeMaps (open_string shut_string)
open Go.ChangeShapes Go.WideShapes Go.ChangeAt Go.RowKit
theorem own : ownKnob Tryd.prog.godebug = none := by kernel_rfl
theorem laidOut : laidOutB Tryd.prog = true := by kernel_rfl
def IsRow (k : IntKind) (w : World) (a : Option Addr) (len cap : Nat) (zs : List Int) : Prop :=
 (a = none ∧ len = 0 ∧ cap = 0 ∧ zs = []) ∨
 ∃ x, a = some x ∧ len ≤ cap ∧ cap ≤ maxLen ∧ zs.length = cap ∧ (∀ i, i < zs.length → w.cell? (x.add i) = some (.int k (zs.getD i 0))) ∧ ∀ n ∈ zs, (Lit.int k n).wf = true
set_option maxRecDepth 100000 in
theorem lifted (os : Os) (started : os.Started) (H : Type) (enc : TypeId × Value → H) :
  ReturnsInHanded {} Tryd.checked os 5 .any (fun w args => (Rows.fnMoveTwoSpec.pre enc Tryd.prog Tryd.f5 [] false w args ∧ laidMet Tryd.prog [("loop.example/plashet/impl.rowOwners", Rows.laid_loop_example_plashet_impl_rowOwners)] w) ∧ sizedMet enc Tryd.prog Tryd.f5 (OpenSpec.ofChange Rows.fnMoveTwoSpec) false w args) (Rows.fnMoveTwoSpec.post enc Tryd.prog Tryd.f5 false true false false) := by
 refine returnsInHanded_of_change_and (C := Tryd.checked) (X := fun w _ => laidMet Tryd.prog [("loop.example/plashet/impl.rowOwners", Rows.laid_loop_example_plashet_impl_rowOwners)] w) (fun _ _ _ hh h => h.of_heap hh) own started (by kernel_rfl) Tryd.func5
  (ChangeSpec.witness_shaped (enc := enc) (C := Tryd.checked) (os := os) (X := fun w _ => laidMet Tryd.prog [("loop.example/plashet/impl.rowOwners", Rows.laid_loop_example_plashet_impl_rowOwners)] w) false (World.doorLaid Tryd.prog 400 os) #[.slice none 0 0, .slice none 0 0] 8 rfl (World.shaped_of_RefB (by kernel_rfl) (by kernel_rfl)) (by kernel_rfl) (by kernel_rfl) (by kernel_rfl) (P.door_met os _)) ?_
 intro W base args ds gs before hval0 hW _ hsz0 hL _
 have hsz : (DataW.weightsEach Tryd.prog (Tryd.f5.params.toList ++ Rows.fnMoveTwoSpec.plain.varTypes Tryd.prog) (ds ++ gs)).all (· ≤ reachBytes) = true := hsz0
 have hval : ∀ (j : Nat) t v, Tryd.f5.params[j]? = some t → args[j]? = some v → Value.okWide Tryd.prog W .any base t v := hval0
 have hW' := hW
 obtain ⟨p, q, hA0, hV, rfl, hfz, hnd⟩ := hW
 have hA : DataW.TrodAll enc Tryd.prog W 0 (fun _ => true) true Tryd.f5.params.toList args.toList ds p := hA0
 rw [Tryd.params5] at hA hval hsz
 obtain ⟨v0, vs0, d0, ds0, p0, q0, hargs, rfl, rfl, h0, r0⟩ := trodAll_cons hA
 obtain ⟨v1, vs1, d1, ds1, p1, q1, rfl, rfl, rfl, h1, r1⟩ := trodAll_cons r0
 obtain ⟨rfl, rfl, rfl⟩ := trodAll_nil r1
 obtain rfl : args = #[v0, v1] := by cases args; simp_all
 have hG : P.Glob W := P.glob_of_laid hL
 obtain ⟨gv, tv, csv, fuelv, dv, pv, rfl, hgv, htv, hvarv, hdv, rfl⟩ := trodVars_one hV
 obtain rfl : csv = P.ownCells := Option.some.inj (hvarv.symm.trans hG)
 obtain rfl := Option.some.inj (P.tOwners.symm.trans (by rw [Option.some.inj (P.gOwners.symm.trans hgv)]; exact htv))
 obtain ⟨rfl, rfl⟩ := DataW.Trod.unique (v := .agg P.ownCells) ⟨fuelv, hdv⟩ ⟨3, P.reads_table enc W _⟩
 obtain ⟨a0, len0, cap0, rfl⟩ := okWide_slice Tryd.underlying35 (hval 0 35 v0 rfl rfl)
 have k0 := h0
 have lt0 : ∀ x ∈ p0, x.block < W.heap.size := by obtain ⟨m, hm⟩ := k0; exact DataW.trod_lt m _ _ _ hm
 obtain ⟨z0, w0⟩ : ∃ zs, IsRow .u8 W a0 len0 cap0 zs := by
  obtain ⟨fuel, hf⟩ := h0
  rcases open_ints Tryd.underlying35 Tryd.underlying5 (by kernel_rfl) hf with ⟨hcs, _⟩ | ⟨x, l, c, zs, hcs, _, hl, hm, hz, _, hcell, hwz⟩
  ·simp [Value.cells] at hcs
   obtain ⟨rfl, rfl, rfl⟩ := hcs
   exact ⟨[], .inl ⟨rfl, rfl, rfl, rfl⟩⟩
  ·simp [Value.cells] at hcs
   obtain ⟨rfl, rfl, rfl⟩ := hcs
   exact ⟨zs, .inr ⟨_, rfl, hl, hm, by simpa using hz, hcell, hwz⟩⟩
 have y0 : len0 * 1 ≤ 140737488351232 := Go.Proofs.YtkopimbbgckcnaaDoorW.PrintWords.sized_ints hsz (j := 0) (t := 35) rfl rfl Tryd.underlying35 Tryd.underlying5 (by kernel_rfl) (by kernel_rfl) h0
 obtain ⟨a1, len1, cap1, rfl⟩ := okWide_slice Tryd.underlying35 (hval 1 35 v1 rfl rfl)
 have k1 := h1
 have lt1 : ∀ x ∈ p1, x.block < W.heap.size := by obtain ⟨m, hm⟩ := k1; exact DataW.trod_lt m _ _ _ hm
 obtain ⟨z1, w1⟩ : ∃ zs, IsRow .u8 W a1 len1 cap1 zs := by
  obtain ⟨fuel, hf⟩ := h1
  rcases open_ints Tryd.underlying35 Tryd.underlying5 (by kernel_rfl) hf with ⟨hcs, _⟩ | ⟨x, l, c, zs, hcs, _, hl, hm, hz, _, hcell, hwz⟩
  ·simp [Value.cells] at hcs
   obtain ⟨rfl, rfl, rfl⟩ := hcs
   exact ⟨[], .inl ⟨rfl, rfl, rfl, rfl⟩⟩
  ·simp [Value.cells] at hcs
   obtain ⟨rfl, rfl, rfl⟩ := hcs
   exact ⟨zs, .inr ⟨_, rfl, hl, hm, by simpa using hz, hcell, hwz⟩⟩
 have y1 : len1 * 1 ≤ 140737488351232 := Go.Proofs.YtkopimbbgckcnaaDoorW.PrintWords.sized_ints hsz (j := 1) (t := 35) rfl rfl Tryd.underlying35 Tryd.underlying5 (by kernel_rfl) (by kernel_rfl) h1
 clear hA0 hval0 hsz0 hsz
 refine (P.laws_FnMoveTwo.walk PL.FnMoveTwo a0 len0 cap0 z0 a1 len1 cap1 z1 W w0 y0 w1 y1 hG).mono fun e W' ⟨he, bel⟩ => ?_
 subst he
 exact ⟨_, rfl, _, _, _, _, _, _, hW', trodAll_mk1 (shut_bool Tryd.underlying4 _), (trodAll_cons_mk (Below.trod laidOut (by kernel_rfl) (of_decide_eq_true (by kernel_rfl)) k0 bel lt0) (trodAll_cons_mk (Below.trod laidOut (by kernel_rfl) (of_decide_eq_true (by kernel_rfl)) k1 bel lt1) trodAll_mk0)), P.tab_vars enc (hG.below bel), bel.frame _, fun h => by cases h⟩
theorem over : Rows.fnMoveTwoRow.holds Tryd.pinned (OpenSpec.ofChange Rows.fnMoveTwoSpec) :=
 OpenClaim.holds_of_wide 5 Tryd.f5 rfl rfl rfl rfl rfl rfl rfl ⟨rfl, rfl, rfl, rfl, rfl⟩ rfl rfl rfl rfl rfl (by kernel_rfl) Tryd.func5 (by kernel_rfl)
  (of_decide_eq_true (by kernel_rfl)) (by unfold Func.isWrapper; first | (rw [if_pos (by decide +kernel)]; kernel_rfl) | (rw [if_neg (by decide +kernel)]; exact ⟨rfl, rfl⟩))
  (fun os started H enc _ => lifted os started H enc)
theorem proved : Rows.FnMoveTwoSaid := over
#print axioms proved
end Go.Proofs.YtkopimbbgckcnaaDoor.fnMoveTwo
namespace Go.Proofs.YtkopimbbgckcnaaDoor
theorem fnMoveTwo_holds : Rows.FnMoveTwoSaid := fnMoveTwo.proved
end Go.Proofs.YtkopimbbgckcnaaDoor
namespace Go.Proofs.YtkopimbbgckcnaaDoor
open Go
theorem fnMoveTwoCard_holds : Rows.FnMoveTwoCardSaid :=
 Claim7.holds_tied_plain_at .later [] [.data] true (true, "05e51009c0bec8d8d35deb79e81af090818f8d02cc4b5bce3a1d080efdde1e4f") true
  fnMoveTwo_holds (fun _ h => by cases h) (by kernel_rfl) (fun _ h => by cases h) fnMoveTwo_row_tie rfl ⟨rfl, rfl⟩ (by kernel_rfl) rfl
  (fun f fn hf hfn => by
   obtain rfl : f = 5 := Option.some.inj ((show Tryd.prog.funcNamed "loop.example/plashet/laws.FnMoveTwo" = some 5 by kernel_rfl).symm.trans hf) |>.symm
   obtain rfl : fn = Tryd.f5 := (Option.some.inj (Tryd.func5.symm.trans hfn)).symm
   exact ⟨by kernel_rfl, fun j t ht => by
    rw [Tryd.params5] at ht
    have hm : t ∈ [35] := by have := Array.mem_of_getElem? ht; simp at this; first | (subst this; simp; done) | (rcases this with h | h <;> simp [h]; done) | (rcases this with h | h | h <;> simp [h]; done)
    have hall : ([35].all fun u => !Tryd.prog.wantsStandIn u) = true := by kernel_rfl
    exact (show Tryd.prog.wantsStandIn t = false by simpa using List.all_eq_true.1 hall t hm)⟩)
  (by kernel_rfl)
#print axioms fnMoveTwoCard_holds
end Go.Proofs.YtkopimbbgckcnaaDoor
