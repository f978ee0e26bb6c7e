/- Joined by a program (wip/shake.py): the declarations that 'YtkopimbbgckcnaaDoorCardFnExactOpDo' reaches. -/
import Derived.Test.YtkopimbbgckcnaaDoorZXo3
namespace Go.Proofs.YtkopimbbgckcnaaDoor.P
open Go.RowKit Go.Proofs.YtkopimbbgckcnaaDoorW.PrintWords Go.Proofs.YtkopimbbgckcnaaDoorW.PrintLast
set_option linter.unusedVariables false
set_option linter.unusedSimpArgs false
set_option maxHeartbeats 8000000 in
set_option maxRecDepth 100000 in
theorem laws_FnExactOpDo.calls (k : Nat) (A0 : Option Addr) (c0 : Nat) (l0 : List (S54)) (a1_0 : Int) (a1_1 : Int) (a1_2 : Int) (a1_3 : Int) (a1_4 : ByteArray) (r : Bool) (w : World) (hr0 : Kd.C k54 w A0 l0.length l0) (hc0 : l0.length ≤ c0) (h : laws_FnExactOpDo.f k l0 a1_0 a1_1 a1_2 a1_3 a1_4 = some r) (hG : Glob w) :
  Calls Tryd.prog 3 #[.slice A0 l0.length c0, .agg #[.int .i64 a1_0, .int .i64 a1_1, .int .i64 a1_2, .int .i64 a1_3, .string a1_4]] w fun e w' => e = .returned (.bool r) ∧ Below w.heap.size w w' := by
 have hu24 := Tryd.underlying24
 have HR0 := Aside0.mk hr0
 have HC0 := Aside0.mk hc0
 clear hr0 hc0
 have HB := Aside0.mk (Below.refl w.heap.size w)
 have HG := Aside0.mk hG
 clear hG
 have H : ((laws_szRowS.f k l0 1048576).bind fun t296 => (if t296 < 0 then (some true) else ((laws_szOp.f a1_0 a1_1 a1_2 a1_3 a1_4 t296).bind fun t297 => (if t297 < 0 then (some true) else ((laws_toRowS.f k l0).bind fun t298 => ((laws_toOp.f a1_0 a1_1 a1_2 a1_3 a1_4).bind fun bt301 => ((spec_OpDo.f k t298 bt301.1 bt301.2.1 bt301.2.2.1 bt301.2.2.2.1 bt301.2.2.2.2).bind fun t306 => ((laws_toRowS.f k l0).bind fun t309 => ((laws_toOp.f a1_0 a1_1 a1_2 a1_3 a1_4).bind fun bt312 => ((impl_OpDo.f k t309 bt312.1 bt312.2.1 bt312.2.2.1 bt312.2.2.2.1 bt312.2.2.2.2).bind fun t317 => ((laws_eqRowS.f k t317 t306).bind fun t320 => (if t320 = true then ((laws_toRowS.f k l0).bind fun t321 => ((laws_eqRowS.f k t309 t321).bind fun t324 => (if t324 = true then ((laws_markRowS.f k t309 1).bind fun bt325 => (if bt325.1 < 0 then (none) else ((laws_eqRowS.f k t317 t306).bind fun t327 => (if t327 = true then ((laws_markRowS.f k t317 1).bind fun bt328 => ((laws_heldRowS.f k bt328.2 1).bind fun t330 => (if t330 < 0 then (none) else (if t330 = bt328.1 then ((laws_toRowS.f k l0).bind fun t331 => ((laws_toOp.f a1_0 a1_1 a1_2 a1_3 a1_4).bind fun bt334 => ((impl_OpDo.f k t331 bt334.1 bt334.2.1 bt334.2.2.1 bt334.2.2.2.1 bt334.2.2.2.2).bind fun t339 => ((laws_eqRowS.f k t339 t306).bind fun t342 => (if t342 = true then ((laws_heldRowS.f k bt328.2 1).bind fun t343 => (if t343 < 0 then (none) else (if t343 = bt328.1 then (some true) else (none)))) else (none)))))) else (none))))) else (none))))) else (none)))) else (none))))))))))))) = some r := h
 clear h
 replace H := Option.bind_eq_some_iff.mp H
 obtain ⟨t296, A30, H⟩ := H
 replace H : (if t296 < 0 then (some true) else ((laws_szOp.f a1_0 a1_1 a1_2 a1_3 a1_4 t296).bind fun t297 => (if t297 < 0 then (some true) else ((laws_toRowS.f k l0).bind fun t298 => ((laws_toOp.f a1_0 a1_1 a1_2 a1_3 a1_4).bind fun bt301 => ((spec_OpDo.f k t298 bt301.1 bt301.2.1 bt301.2.2.1 bt301.2.2.2.1 bt301.2.2.2.2).bind fun t306 => ((laws_toRowS.f k l0).bind fun t309 => ((laws_toOp.f a1_0 a1_1 a1_2 a1_3 a1_4).bind fun bt312 => ((impl_OpDo.f k t309 bt312.1 bt312.2.1 bt312.2.2.1 bt312.2.2.2.1 bt312.2.2.2.2).bind fun t317 => ((laws_eqRowS.f k t317 t306).bind fun t320 => (if t320 = true then ((laws_toRowS.f k l0).bind fun t321 => ((laws_eqRowS.f k t309 t321).bind fun t324 => (if t324 = true then ((laws_markRowS.f k t309 1).bind fun bt325 => (if bt325.1 < 0 then (none) else ((laws_eqRowS.f k t317 t306).bind fun t327 => (if t327 = true then ((laws_markRowS.f k t317 1).bind fun bt328 => ((laws_heldRowS.f k bt328.2 1).bind fun t330 => (if t330 < 0 then (none) else (if t330 = bt328.1 then ((laws_toRowS.f k l0).bind fun t331 => ((laws_toOp.f a1_0 a1_1 a1_2 a1_3 a1_4).bind fun bt334 => ((impl_OpDo.f k t331 bt334.1 bt334.2.1 bt334.2.2.1 bt334.2.2.2.1 bt334.2.2.2.2).bind fun t339 => ((laws_eqRowS.f k t339 t306).bind fun t342 => (if t342 = true then ((laws_heldRowS.f k bt328.2 1).bind fun t343 => (if t343 < 0 then (none) else (if t343 = bt328.1 then (some true) else (none)))) else (none)))))) else (none))))) else (none))))) else (none)))) else (none)))))))))))) = some r := H
 have A3 := Aside0.mk A30
 clear A30
 by_cases c4 : t296 < 0
 ·rw [if_pos c4] at H
  have c4b0 : decide (t296 < 0) = true := decide_eq_true c4
  clear c4
  obtain rfl := Option.some.inj H
  go_enter Tryd.func3, Tryd.ntmps3
  go_wp2_with (first | ((with_reducible refine gate_dst (N := 3) rfl ?_); refine box_event ?hg (N := 3) ?hd (cs := #[.int .i64 a1_0, .int .i64 a1_1, .int .i64 a1_2, .int .i64 a1_3, .string a1_4]) (t := 24) ?hr ?_; (case hd => rfl); (case hg => rfl); (case hr => first | (go_simp; done) | (go_simp; rfl)); intro gb295 hg w5 hbox hb; have n0_ := Aside0.mk (below_step (bel_) hb); have n1_ := Aside0.mk (hbox); have n2_ := Aside0.mk ((by rw [hg]; exact (below_size (bel_)) : w.heap.size ≤ gb295)); have n3_ := Aside0.mk ((by rw [hg]; exact (below_size (bel_)) : w.heap.size ≤ gb295)); clear HB; have HB := n0_; have BK295 := n1_; have GW295 := n2_; have GE295 := n3_; clear n0_ n1_ n2_ n3_; clear hb hbox hg) | ((with_reducible refine gate_callee (f := 15) rfl ?_); refine gl_ 15 Tryd.func15 #[.slice A0 l0.length c0, .int .i64 1048576] ?_; (with_reducible refine (laws_szRowS.calls k _ _ l0 1048576 t296 _ ?side1 ?side2 A3.out).mono ?_); (case side1 => exact cp_ HR0.out); (case side2 => exact HC0.out); rintro e w6 ⟨rfl, hb⟩; refine ⟨_, rfl, ?_⟩; replace HB := Aside0.mk (below_step (bel_) hb); replace BK295 := Aside0.mk (blk_below (g := gb295) (o := .cells #[.int .i64 a1_0, .int .i64 a1_1, .int .i64 a1_2, .int .i64 a1_3, .string a1_4] 24 (0, 0)) (bp_ BK295.out) hb); (try clear hb); (try clear hb2); (try clear hk); (try clear hi)))
  go_ret
  exact ⟨fi_, bel_⟩
 ·rw [if_neg c4] at H
  have c4b0 : decide (t296 < 0) = false := decide_eq_false c4
  clear c4
  replace H := Option.bind_eq_some_iff.mp H
  obtain ⟨t297, A70, H⟩ := H
  replace H : (if t297 < 0 then (some true) else ((laws_toRowS.f k l0).bind fun t298 => ((laws_toOp.f a1_0 a1_1 a1_2 a1_3 a1_4).bind fun bt301 => ((spec_OpDo.f k t298 bt301.1 bt301.2.1 bt301.2.2.1 bt301.2.2.2.1 bt301.2.2.2.2).bind fun t306 => ((laws_toRowS.f k l0).bind fun t309 => ((laws_toOp.f a1_0 a1_1 a1_2 a1_3 a1_4).bind fun bt312 => ((impl_OpDo.f k t309 bt312.1 bt312.2.1 bt312.2.2.1 bt312.2.2.2.1 bt312.2.2.2.2).bind fun t317 => ((laws_eqRowS.f k t317 t306).bind fun t320 => (if t320 = true then ((laws_toRowS.f k l0).bind fun t321 => ((laws_eqRowS.f k t309 t321).bind fun t324 => (if t324 = true then ((laws_markRowS.f k t309 1).bind fun bt325 => (if bt325.1 < 0 then (none) else ((laws_eqRowS.f k t317 t306).bind fun t327 => (if t327 = true then ((laws_markRowS.f k t317 1).bind fun bt328 => ((laws_heldRowS.f k bt328.2 1).bind fun t330 => (if t330 < 0 then (none) else (if t330 = bt328.1 then ((laws_toRowS.f k l0).bind fun t331 => ((laws_toOp.f a1_0 a1_1 a1_2 a1_3 a1_4).bind fun bt334 => ((impl_OpDo.f k t331 bt334.1 bt334.2.1 bt334.2.2.1 bt334.2.2.2.1 bt334.2.2.2.2).bind fun t339 => ((laws_eqRowS.f k t339 t306).bind fun t342 => (if t342 = true then ((laws_heldRowS.f k bt328.2 1).bind fun t343 => (if t343 < 0 then (none) else (if t343 = bt328.1 then (some true) else (none)))) else (none)))))) else (none))))) else (none))))) else (none)))) else (none)))))))))) = some r := H
  have A7 := Aside0.mk A70
  clear A70
  by_cases c8 : t297 < 0
  ·rw [if_pos c8] at H
   have c8b0 : decide (t297 < 0) = true := decide_eq_true c8
   clear c8
   obtain rfl := Option.some.inj H
   go_enter Tryd.func3, Tryd.ntmps3
   go_wp2_with (first | ((with_reducible refine gate_dst (N := 3) rfl ?_); refine box_event ?hg (N := 3) ?hd (cs := #[.int .i64 a1_0, .int .i64 a1_1, .int .i64 a1_2, .int .i64 a1_3, .string a1_4]) (t := 24) ?hr ?_; (case hd => rfl); (case hg => rfl); (case hr => first | (go_simp; done) | (go_simp; rfl)); intro gb295 hg w9 hbox hb; have n0_ := Aside0.mk (below_step (bel_) hb); have n1_ := Aside0.mk (hbox); have n2_ := Aside0.mk ((by rw [hg]; exact (below_size (bel_)) : w.heap.size ≤ gb295)); have n3_ := Aside0.mk ((by rw [hg]; exact (below_size (bel_)) : w.heap.size ≤ gb295)); clear HB; have HB := n0_; have BK295 := n1_; have GW295 := n2_; have GE295 := n3_; clear n0_ n1_ n2_ n3_; clear hb hbox hg) | ((with_reducible refine gate_callee (f := 15) rfl ?_); refine gl_ 15 Tryd.func15 #[.slice A0 l0.length c0, .int .i64 1048576] ?_; (with_reducible refine (laws_szRowS.calls k _ _ l0 1048576 t296 _ ?side1 ?side2 A3.out).mono ?_); (case side1 => exact cp_ HR0.out); (case side2 => exact HC0.out); rintro e w10 ⟨rfl, hb⟩; refine ⟨_, rfl, ?_⟩; replace HB := Aside0.mk (below_step (bel_) hb); replace BK295 := Aside0.mk (blk_below (g := gb295) (o := .cells #[.int .i64 a1_0, .int .i64 a1_1, .int .i64 a1_2, .int .i64 a1_3, .string a1_4] 24 (0, 0)) (bp_ BK295.out) hb); (try clear hb); (try clear hb2); (try clear hk); (try clear hi); have hcz11_0 : w10.cell? ⟨gb295, 0, none⟩ = some (.int .i64 a1_0) := (blk_cell BK295.out 0).trans rfl; have hcz11_1 : w10.cell? ⟨gb295, 1, none⟩ = some (.int .i64 a1_1) := (blk_cell BK295.out 1).trans rfl; have hcz11_2 : w10.cell? ⟨gb295, 2, none⟩ = some (.int .i64 a1_2) := (blk_cell BK295.out 2).trans rfl; have hcz11_3 : w10.cell? ⟨gb295, 3, none⟩ = some (.int .i64 a1_3) := (blk_cell BK295.out 3).trans rfl; have hcz11_4 : w10.cell? ⟨gb295, 4, none⟩ = some (.string a1_4) := (blk_cell BK295.out 4).trans rfl; have hfz11_0 := blk_frozen BK295.out 0; have hfz11_1 := blk_frozen BK295.out 1; have hfz11_2 := blk_frozen BK295.out 2; have hfz11_3 := blk_frozen BK295.out 3; have hfz11_4 := blk_frozen BK295.out 4) | ((with_reducible refine gate_callee (f := 16) rfl ?_); refine gl_ 20 Tryd.func16 #[.agg #[.int .i64 a1_0, .int .i64 a1_1, .int .i64 a1_2, .int .i64 a1_3, .string a1_4], .int .i64 t296] ?_; (with_reducible refine (laws_szOp.calls a1_0 a1_1 a1_2 a1_3 a1_4 t296 t297 _ A7.out).mono ?_); rintro e w12 ⟨rfl, hb⟩; refine ⟨_, rfl, ?_⟩; replace HB := Aside0.mk (below_step (bel_) hb); replace BK295 := Aside0.mk (blk_below (g := gb295) (o := .cells #[.int .i64 a1_0, .int .i64 a1_1, .int .i64 a1_2, .int .i64 a1_3, .string a1_4] 24 (0, 0)) (bp_ BK295.out) hb); (try clear hb); (try clear hb2); (try clear hk); (try clear hi)))
   go_ret
   exact ⟨fi_, bel_⟩
  ·rw [if_neg c8] at H
   have c8b0 : decide (t297 < 0) = false := decide_eq_false c8
   clear c8
   replace H := Option.bind_eq_some_iff.mp H
   obtain ⟨t298, A130, H⟩ := H
   replace H : ((laws_toOp.f a1_0 a1_1 a1_2 a1_3 a1_4).bind fun bt301 => ((spec_OpDo.f k t298 bt301.1 bt301.2.1 bt301.2.2.1 bt301.2.2.2.1 bt301.2.2.2.2).bind fun t306 => ((laws_toRowS.f k l0).bind fun t309 => ((laws_toOp.f a1_0 a1_1 a1_2 a1_3 a1_4).bind fun bt312 => ((impl_OpDo.f k t309 bt312.1 bt312.2.1 bt312.2.2.1 bt312.2.2.2.1 bt312.2.2.2.2).bind fun t317 => ((laws_eqRowS.f k t317 t306).bind fun t320 => (if t320 = true then ((laws_toRowS.f k l0).bind fun t321 => ((laws_eqRowS.f k t309 t321).bind fun t324 => (if t324 = true then ((laws_markRowS.f k t309 1).bind fun bt325 => (if bt325.1 < 0 then (none) else ((laws_eqRowS.f k t317 t306).bind fun t327 => (if t327 = true then ((laws_markRowS.f k t317 1).bind fun bt328 => ((laws_heldRowS.f k bt328.2 1).bind fun t330 => (if t330 < 0 then (none) else (if t330 = bt328.1 then ((laws_toRowS.f k l0).bind fun t331 => ((laws_toOp.f a1_0 a1_1 a1_2 a1_3 a1_4).bind fun bt334 => ((impl_OpDo.f k t331 bt334.1 bt334.2.1 bt334.2.2.1 bt334.2.2.2.1 bt334.2.2.2.2).bind fun t339 => ((laws_eqRowS.f k t339 t306).bind fun t342 => (if t342 = true then ((laws_heldRowS.f k bt328.2 1).bind fun t343 => (if t343 < 0 then (none) else (if t343 = bt328.1 then (some true) else (none)))) else (none)))))) else (none))))) else (none))))) else (none)))) else (none)))))))) = some r := H
   have A13 := Aside0.mk A130
   clear A130
   replace H := Option.bind_eq_some_iff.mp H
   obtain ⟨⟨t301, t302, t303, t304, t305⟩, A140, H⟩ := H
   replace H : ((spec_OpDo.f k t298 t301 t302 t303 t304 t305).bind fun t306 => ((laws_toRowS.f k l0).bind fun t309 => ((laws_toOp.f a1_0 a1_1 a1_2 a1_3 a1_4).bind fun bt312 => ((impl_OpDo.f k t309 bt312.1 bt312.2.1 bt312.2.2.1 bt312.2.2.2.1 bt312.2.2.2.2).bind fun t317 => ((laws_eqRowS.f k t317 t306).bind fun t320 => (if t320 = true then ((laws_toRowS.f k l0).bind fun t321 => ((laws_eqRowS.f k t309 t321).bind fun t324 => (if t324 = true then ((laws_markRowS.f k t309 1).bind fun bt325 => (if bt325.1 < 0 then (none) else ((laws_eqRowS.f k t317 t306).bind fun t327 => (if t327 = true then ((laws_markRowS.f k t317 1).bind fun bt328 => ((laws_heldRowS.f k bt328.2 1).bind fun t330 => (if t330 < 0 then (none) else (if t330 = bt328.1 then ((laws_toRowS.f k l0).bind fun t331 => ((laws_toOp.f a1_0 a1_1 a1_2 a1_3 a1_4).bind fun bt334 => ((impl_OpDo.f k t331 bt334.1 bt334.2.1 bt334.2.2.1 bt334.2.2.2.1 bt334.2.2.2.2).bind fun t339 => ((laws_eqRowS.f k t339 t306).bind fun t342 => (if t342 = true then ((laws_heldRowS.f k bt328.2 1).bind fun t343 => (if t343 < 0 then (none) else (if t343 = bt328.1 then (some true) else (none)))) else (none)))))) else (none))))) else (none))))) else (none)))) else (none))))))) = some r := H
   have A14 := Aside0.mk A140
   clear A140
   replace H := Option.bind_eq_some_iff.mp H
   obtain ⟨t306, A150, H⟩ := H
   replace H : ((laws_toRowS.f k l0).bind fun t309 => ((laws_toOp.f a1_0 a1_1 a1_2 a1_3 a1_4).bind fun bt312 => ((impl_OpDo.f k t309 bt312.1 bt312.2.1 bt312.2.2.1 bt312.2.2.2.1 bt312.2.2.2.2).bind fun t317 => ((laws_eqRowS.f k t317 t306).bind fun t320 => (if t320 = true then ((laws_toRowS.f k l0).bind fun t321 => ((laws_eqRowS.f k t309 t321).bind fun t324 => (if t324 = true then ((laws_markRowS.f k t309 1).bind fun bt325 => (if bt325.1 < 0 then (none) else ((laws_eqRowS.f k t317 t306).bind fun t327 => (if t327 = true then ((laws_markRowS.f k t317 1).bind fun bt328 => ((laws_heldRowS.f k bt328.2 1).bind fun t330 => (if t330 < 0 then (none) else (if t330 = bt328.1 then ((laws_toRowS.f k l0).bind fun t331 => ((laws_toOp.f a1_0 a1_1 a1_2 a1_3 a1_4).bind fun bt334 => ((impl_OpDo.f k t331 bt334.1 bt334.2.1 bt334.2.2.1 bt334.2.2.2.1 bt334.2.2.2.2).bind fun t339 => ((laws_eqRowS.f k t339 t306).bind fun t342 => (if t342 = true then ((laws_heldRowS.f k bt328.2 1).bind fun t343 => (if t343 < 0 then (none) else (if t343 = bt328.1 then (some true) else (none)))) else (none)))))) else (none))))) else (none))))) else (none)))) else (none)))))) = some r := H
   have A15 := Aside0.mk A150
   clear A150
   replace H := Option.bind_eq_some_iff.mp H
   obtain ⟨t309, A160, H⟩ := H
   replace H : ((laws_toOp.f a1_0 a1_1 a1_2 a1_3 a1_4).bind fun bt312 => ((impl_OpDo.f k t309 bt312.1 bt312.2.1 bt312.2.2.1 bt312.2.2.2.1 bt312.2.2.2.2).bind fun t317 => ((laws_eqRowS.f k t317 t306).bind fun t320 => (if t320 = true then ((laws_toRowS.f k l0).bind fun t321 => ((laws_eqRowS.f k t309 t321).bind fun t324 => (if t324 = true then ((laws_markRowS.f k t309 1).bind fun bt325 => (if bt325.1 < 0 then (none) else ((laws_eqRowS.f k t317 t306).bind fun t327 => (if t327 = true then ((laws_markRowS.f k t317 1).bind fun bt328 => ((laws_heldRowS.f k bt328.2 1).bind fun t330 => (if t330 < 0 then (none) else (if t330 = bt328.1 then ((laws_toRowS.f k l0).bind fun t331 => ((laws_toOp.f a1_0 a1_1 a1_2 a1_3 a1_4).bind fun bt334 => ((impl_OpDo.f k t331 bt334.1 bt334.2.1 bt334.2.2.1 bt334.2.2.2.1 bt334.2.2.2.2).bind fun t339 => ((laws_eqRowS.f k t339 t306).bind fun t342 => (if t342 = true then ((laws_heldRowS.f k bt328.2 1).bind fun t343 => (if t343 < 0 then (none) else (if t343 = bt328.1 then (some true) else (none)))) else (none)))))) else (none))))) else (none))))) else (none)))) else (none))))) = some r := H
   have A16 := Aside0.mk A160
   clear A160
   replace H := Option.bind_eq_some_iff.mp H
   obtain ⟨⟨t312, t313, t314, t315, t316⟩, A170, H⟩ := H
   replace H : ((impl_OpDo.f k t309 t312 t313 t314 t315 t316).bind fun t317 => ((laws_eqRowS.f k t317 t306).bind fun t320 => (if t320 = true then ((laws_toRowS.f k l0).bind fun t321 => ((laws_eqRowS.f k t309 t321).bind fun t324 => (if t324 = true then ((laws_markRowS.f k t309 1).bind fun bt325 => (if bt325.1 < 0 then (none) else ((laws_eqRowS.f k t317 t306).bind fun t327 => (if t327 = true then ((laws_markRowS.f k t317 1).bind fun bt328 => ((laws_heldRowS.f k bt328.2 1).bind fun t330 => (if t330 < 0 then (none) else (if t330 = bt328.1 then ((laws_toRowS.f k l0).bind fun t331 => ((laws_toOp.f a1_0 a1_1 a1_2 a1_3 a1_4).bind fun bt334 => ((impl_OpDo.f k t331 bt334.1 bt334.2.1 bt334.2.2.1 bt334.2.2.2.1 bt334.2.2.2.2).bind fun t339 => ((laws_eqRowS.f k t339 t306).bind fun t342 => (if t342 = true then ((laws_heldRowS.f k bt328.2 1).bind fun t343 => (if t343 < 0 then (none) else (if t343 = bt328.1 then (some true) else (none)))) else (none)))))) else (none))))) else (none))))) else (none)))) else (none)))) = some r := H
   have A17 := Aside0.mk A170
   clear A170
   replace H := Option.bind_eq_some_iff.mp H
   obtain ⟨t317, A180, H⟩ := H
   replace H : ((laws_eqRowS.f k t317 t306).bind fun t320 => (if t320 = true then ((laws_toRowS.f k l0).bind fun t321 => ((laws_eqRowS.f k t309 t321).bind fun t324 => (if t324 = true then ((laws_markRowS.f k t309 1).bind fun bt325 => (if bt325.1 < 0 then (none) else ((laws_eqRowS.f k t317 t306).bind fun t327 => (if t327 = true then ((laws_markRowS.f k t317 1).bind fun bt328 => ((laws_heldRowS.f k bt328.2 1).bind fun t330 => (if t330 < 0 then (none) else (if t330 = bt328.1 then ((laws_toRowS.f k l0).bind fun t331 => ((laws_toOp.f a1_0 a1_1 a1_2 a1_3 a1_4).bind fun bt334 => ((impl_OpDo.f k t331 bt334.1 bt334.2.1 bt334.2.2.1 bt334.2.2.2.1 bt334.2.2.2.2).bind fun t339 => ((laws_eqRowS.f k t339 t306).bind fun t342 => (if t342 = true then ((laws_heldRowS.f k bt328.2 1).bind fun t343 => (if t343 < 0 then (none) else (if t343 = bt328.1 then (some true) else (none)))) else (none)))))) else (none))))) else (none))))) else (none)))) else (none))) = some r := H
   have A18 := Aside0.mk A180
   clear A180
   replace H := Option.bind_eq_some_iff.mp H
   obtain ⟨t320, A190, H⟩ := H
   replace H : (if t320 = true then ((laws_toRowS.f k l0).bind fun t321 => ((laws_eqRowS.f k t309 t321).bind fun t324 => (if t324 = true then ((laws_markRowS.f k t309 1).bind fun bt325 => (if bt325.1 < 0 then (none) else ((laws_eqRowS.f k t317 t306).bind fun t327 => (if t327 = true then ((laws_markRowS.f k t317 1).bind fun bt328 => ((laws_heldRowS.f k bt328.2 1).bind fun t330 => (if t330 < 0 then (none) else (if t330 = bt328.1 then ((laws_toRowS.f k l0).bind fun t331 => ((laws_toOp.f a1_0 a1_1 a1_2 a1_3 a1_4).bind fun bt334 => ((impl_OpDo.f k t331 bt334.1 bt334.2.1 bt334.2.2.1 bt334.2.2.2.1 bt334.2.2.2.2).bind fun t339 => ((laws_eqRowS.f k t339 t306).bind fun t342 => (if t342 = true then ((laws_heldRowS.f k bt328.2 1).bind fun t343 => (if t343 < 0 then (none) else (if t343 = bt328.1 then (some true) else (none)))) else (none)))))) else (none))))) else (none))))) else (none)))) else (none)) = some r := H
   have A19 := Aside0.mk A190
   clear A190
   by_cases c20 : t320 = true
   ·subst c20
    have H1 : ((laws_toRowS.f k l0).bind fun t321 => ((laws_eqRowS.f k t309 t321).bind fun t324 => (if t324 = true then ((laws_markRowS.f k t309 1).bind fun bt325 => (if bt325.1 < 0 then (none) else ((laws_eqRowS.f k t317 t306).bind fun t327 => (if t327 = true then ((laws_markRowS.f k t317 1).bind fun bt328 => ((laws_heldRowS.f k bt328.2 1).bind fun t330 => (if t330 < 0 then (none) else (if t330 = bt328.1 then ((laws_toRowS.f k l0).bind fun t331 => ((laws_toOp.f a1_0 a1_1 a1_2 a1_3 a1_4).bind fun bt334 => ((impl_OpDo.f k t331 bt334.1 bt334.2.1 bt334.2.2.1 bt334.2.2.2.1 bt334.2.2.2.2).bind fun t339 => ((laws_eqRowS.f k t339 t306).bind fun t342 => (if t342 = true then ((laws_heldRowS.f k bt328.2 1).bind fun t343 => (if t343 < 0 then (none) else (if t343 = bt328.1 then (some true) else (none)))) else (none)))))) else (none))))) else (none))))) else (none)))) = some r := by rw [if_pos rfl] at H; exact H
    clear H
    have H := H1
    clear H1
    replace H := Option.bind_eq_some_iff.mp H
    obtain ⟨t321, A210, H⟩ := H
    replace H : ((laws_eqRowS.f k t309 t321).bind fun t324 => (if t324 = true then ((laws_markRowS.f k t309 1).bind fun bt325 => (if bt325.1 < 0 then (none) else ((laws_eqRowS.f k t317 t306).bind fun t327 => (if t327 = true then ((laws_markRowS.f k t317 1).bind fun bt328 => ((laws_heldRowS.f k bt328.2 1).bind fun t330 => (if t330 < 0 then (none) else (if t330 = bt328.1 then ((laws_toRowS.f k l0).bind fun t331 => ((laws_toOp.f a1_0 a1_1 a1_2 a1_3 a1_4).bind fun bt334 => ((impl_OpDo.f k t331 bt334.1 bt334.2.1 bt334.2.2.1 bt334.2.2.2.1 bt334.2.2.2.2).bind fun t339 => ((laws_eqRowS.f k t339 t306).bind fun t342 => (if t342 = true then ((laws_heldRowS.f k bt328.2 1).bind fun t343 => (if t343 < 0 then (none) else (if t343 = bt328.1 then (some true) else (none)))) else (none)))))) else (none))))) else (none))))) else (none))) = some r := H
    have A21 := Aside0.mk A210
    clear A210
    replace H := Option.bind_eq_some_iff.mp H
    obtain ⟨t324, A220, H⟩ := H
    replace H : (if t324 = true then ((laws_markRowS.f k t309 1).bind fun bt325 => (if bt325.1 < 0 then (none) else ((laws_eqRowS.f k t317 t306).bind fun t327 => (if t327 = true then ((laws_markRowS.f k t317 1).bind fun bt328 => ((laws_heldRowS.f k bt328.2 1).bind fun t330 => (if t330 < 0 then (none) else (if t330 = bt328.1 then ((laws_toRowS.f k l0).bind fun t331 => ((laws_toOp.f a1_0 a1_1 a1_2 a1_3 a1_4).bind fun bt334 => ((impl_OpDo.f k t331 bt334.1 bt334.2.1 bt334.2.2.1 bt334.2.2.2.1 bt334.2.2.2.2).bind fun t339 => ((laws_eqRowS.f k t339 t306).bind fun t342 => (if t342 = true then ((laws_heldRowS.f k bt328.2 1).bind fun t343 => (if t343 < 0 then (none) else (if t343 = bt328.1 then (some true) else (none)))) else (none)))))) else (none))))) else (none))))) else (none)) = some r := H
    have A22 := Aside0.mk A220
    clear A220
    by_cases c23 : t324 = true
    ·subst c23
     have H1 : ((laws_markRowS.f k t309 1).bind fun bt325 => (if bt325.1 < 0 then (none) else ((laws_eqRowS.f k t317 t306).bind fun t327 => (if t327 = true then ((laws_markRowS.f k t317 1).bind fun bt328 => ((laws_heldRowS.f k bt328.2 1).bind fun t330 => (if t330 < 0 then (none) else (if t330 = bt328.1 then ((laws_toRowS.f k l0).bind fun t331 => ((laws_toOp.f a1_0 a1_1 a1_2 a1_3 a1_4).bind fun bt334 => ((impl_OpDo.f k t331 bt334.1 bt334.2.1 bt334.2.2.1 bt334.2.2.2.1 bt334.2.2.2.2).bind fun t339 => ((laws_eqRowS.f k t339 t306).bind fun t342 => (if t342 = true then ((laws_heldRowS.f k bt328.2 1).bind fun t343 => (if t343 < 0 then (none) else (if t343 = bt328.1 then (some true) else (none)))) else (none)))))) else (none))))) else (none))))) = some r := by rw [if_pos rfl] at H; exact H
     clear H
     have H := H1
     clear H1
     replace H := Option.bind_eq_some_iff.mp H
     obtain ⟨⟨t325, t326⟩, A240, H⟩ := H
     replace H : (if t325 < 0 then (none) else ((laws_eqRowS.f k t317 t306).bind fun t327 => (if t327 = true then ((laws_markRowS.f k t317 1).bind fun bt328 => ((laws_heldRowS.f k bt328.2 1).bind fun t330 => (if t330 < 0 then (none) else (if t330 = bt328.1 then ((laws_toRowS.f k l0).bind fun t331 => ((laws_toOp.f a1_0 a1_1 a1_2 a1_3 a1_4).bind fun bt334 => ((impl_OpDo.f k t331 bt334.1 bt334.2.1 bt334.2.2.1 bt334.2.2.2.1 bt334.2.2.2.2).bind fun t339 => ((laws_eqRowS.f k t339 t306).bind fun t342 => (if t342 = true then ((laws_heldRowS.f k bt328.2 1).bind fun t343 => (if t343 < 0 then (none) else (if t343 = bt328.1 then (some true) else (none)))) else (none)))))) else (none))))) else (none)))) = some r := H
     have A24 := Aside0.mk A240
     clear A240
     by_cases c25 : t325 < 0
     ·rw [if_pos c25] at H
      exact absurd H (by simp)
     ·rw [if_neg c25] at H
      have c25b0 : decide (t325 < 0) = false := decide_eq_false c25
      clear c25
      replace H := Option.bind_eq_some_iff.mp H
      obtain ⟨t327, A260, H⟩ := H
      replace H : (if t327 = true then ((laws_markRowS.f k t317 1).bind fun bt328 => ((laws_heldRowS.f k bt328.2 1).bind fun t330 => (if t330 < 0 then (none) else (if t330 = bt328.1 then ((laws_toRowS.f k l0).bind fun t331 => ((laws_toOp.f a1_0 a1_1 a1_2 a1_3 a1_4).bind fun bt334 => ((impl_OpDo.f k t331 bt334.1 bt334.2.1 bt334.2.2.1 bt334.2.2.2.1 bt334.2.2.2.2).bind fun t339 => ((laws_eqRowS.f k t339 t306).bind fun t342 => (if t342 = true then ((laws_heldRowS.f k bt328.2 1).bind fun t343 => (if t343 < 0 then (none) else (if t343 = bt328.1 then (some true) else (none)))) else (none)))))) else (none))))) else (none)) = some r := H
      have A26 := Aside0.mk A260
      clear A260
      by_cases c27 : t327 = true
      ·subst c27
       have H1 : ((laws_markRowS.f k t317 1).bind fun bt328 => ((laws_heldRowS.f k bt328.2 1).bind fun t330 => (if t330 < 0 then (none) else (if t330 = bt328.1 then ((laws_toRowS.f k l0).bind fun t331 => ((laws_toOp.f a1_0 a1_1 a1_2 a1_3 a1_4).bind fun bt334 => ((impl_OpDo.f k t331 bt334.1 bt334.2.1 bt334.2.2.1 bt334.2.2.2.1 bt334.2.2.2.2).bind fun t339 => ((laws_eqRowS.f k t339 t306).bind fun t342 => (if t342 = true then ((laws_heldRowS.f k bt328.2 1).bind fun t343 => (if t343 < 0 then (none) else (if t343 = bt328.1 then (some true) else (none)))) else (none)))))) else (none))))) = some r := by rw [if_pos rfl] at H; exact H
       clear H
       have H := H1
       clear H1
       replace H := Option.bind_eq_some_iff.mp H
       obtain ⟨⟨t328, t329⟩, A280, H⟩ := H
       replace H : ((laws_heldRowS.f k t329 1).bind fun t330 => (if t330 < 0 then (none) else (if t330 = t328 then ((laws_toRowS.f k l0).bind fun t331 => ((laws_toOp.f a1_0 a1_1 a1_2 a1_3 a1_4).bind fun bt334 => ((impl_OpDo.f k t331 bt334.1 bt334.2.1 bt334.2.2.1 bt334.2.2.2.1 bt334.2.2.2.2).bind fun t339 => ((laws_eqRowS.f k t339 t306).bind fun t342 => (if t342 = true then ((laws_heldRowS.f k t329 1).bind fun t343 => (if t343 < 0 then (none) else (if t343 = t328 then (some true) else (none)))) else (none)))))) else (none)))) = some r := H
       have A28 := Aside0.mk A280
       clear A280
       replace H := Option.bind_eq_some_iff.mp H
       obtain ⟨t330, A290, H⟩ := H
       replace H : (if t330 < 0 then (none) else (if t330 = t328 then ((laws_toRowS.f k l0).bind fun t331 => ((laws_toOp.f a1_0 a1_1 a1_2 a1_3 a1_4).bind fun bt334 => ((impl_OpDo.f k t331 bt334.1 bt334.2.1 bt334.2.2.1 bt334.2.2.2.1 bt334.2.2.2.2).bind fun t339 => ((laws_eqRowS.f k t339 t306).bind fun t342 => (if t342 = true then ((laws_heldRowS.f k t329 1).bind fun t343 => (if t343 < 0 then (none) else (if t343 = t328 then (some true) else (none)))) else (none)))))) else (none))) = some r := H
       have A29 := Aside0.mk A290
       clear A290
       by_cases c30 : t330 < 0
       ·rw [if_pos c30] at H
        exact absurd H (by simp)
       ·rw [if_neg c30] at H
        have c30b0 : decide (t330 < 0) = false := decide_eq_false c30
        clear c30
        by_cases c31 : t330 = t328
        ·rw [if_pos c31] at H
         have c31b0 : (t330 == t328) = true := beq_iff_eq.mpr c31
         have c31b1 : (t330 != t328) = false := bne_eq_false_iff_eq.mpr c31
         clear c31
         replace H := Option.bind_eq_some_iff.mp H
         obtain ⟨t331, A320, H⟩ := H
         replace H : ((laws_toOp.f a1_0 a1_1 a1_2 a1_3 a1_4).bind fun bt334 => ((impl_OpDo.f k t331 bt334.1 bt334.2.1 bt334.2.2.1 bt334.2.2.2.1 bt334.2.2.2.2).bind fun t339 => ((laws_eqRowS.f k t339 t306).bind fun t342 => (if t342 = true then ((laws_heldRowS.f k t329 1).bind fun t343 => (if t343 < 0 then (none) else (if t343 = t328 then (some true) else (none)))) else (none))))) = some r := H
         have A32 := Aside0.mk A320
         clear A320
         replace H := Option.bind_eq_some_iff.mp H
         obtain ⟨⟨t334, t335, t336, t337, t338⟩, A330, H⟩ := H
         replace H : ((impl_OpDo.f k t331 t334 t335 t336 t337 t338).bind fun t339 => ((laws_eqRowS.f k t339 t306).bind fun t342 => (if t342 = true then ((laws_heldRowS.f k t329 1).bind fun t343 => (if t343 < 0 then (none) else (if t343 = t328 then (some true) else (none)))) else (none)))) = some r := H
         have A33 := Aside0.mk A330
         clear A330
         replace H := Option.bind_eq_some_iff.mp H
         obtain ⟨t339, A340, H⟩ := H
         replace H : ((laws_eqRowS.f k t339 t306).bind fun t342 => (if t342 = true then ((laws_heldRowS.f k t329 1).bind fun t343 => (if t343 < 0 then (none) else (if t343 = t328 then (some true) else (none)))) else (none))) = some r := H
         have A34 := Aside0.mk A340
         clear A340
         replace H := Option.bind_eq_some_iff.mp H
         obtain ⟨t342, A350, H⟩ := H
         replace H : (if t342 = true then ((laws_heldRowS.f k t329 1).bind fun t343 => (if t343 < 0 then (none) else (if t343 = t328 then (some true) else (none)))) else (none)) = some r := H
         have A35 := Aside0.mk A350
         clear A350
         by_cases c36 : t342 = true
         ·subst c36
          have H1 : ((laws_heldRowS.f k t329 1).bind fun t343 => (if t343 < 0 then (none) else (if t343 = t328 then (some true) else (none)))) = some r := by rw [if_pos rfl] at H; exact H
          clear H
          have H := H1
          clear H1
          replace H := Option.bind_eq_some_iff.mp H
          obtain ⟨t343, A370, H⟩ := H
          replace H : (if t343 < 0 then (none) else (if t343 = t328 then (some true) else (none))) = some r := H
          have A37 := Aside0.mk A370
          clear A370
          by_cases c38 : t343 < 0
          ·rw [if_pos c38] at H
           exact absurd H (by simp)
          ·rw [if_neg c38] at H
           have c38b0 : decide (t343 < 0) = false := decide_eq_false c38
           clear c38
           by_cases c39 : t343 = t328
           ·rw [if_pos c39] at H
            have c39b0 : (t343 == t328) = true := beq_iff_eq.mpr c39
            have c39b1 : (t343 != t328) = false := bne_eq_false_iff_eq.mpr c39
            clear c39
            obtain rfl := Option.some.inj H
            go_enter Tryd.func3, Tryd.ntmps3
            try go_wp2_with (first | ((with_reducible refine gate_dst (N := 3) rfl ?_); refine box_event ?hg (N := 3) ?hd (cs := #[.int .i64 a1_0, .int .i64 a1_1, .int .i64 a1_2, .int .i64 a1_3, .string a1_4]) (t := 24) ?hr ?_; (case hd => rfl); (case hg => rfl); (case hr => first | (go_simp; done) | (go_simp; rfl)); intro gb295 hg w40 hbox hb; have n0_ := Aside0.mk (below_step (bel_) hb); have n1_ := Aside0.mk (hbox); have n2_ := Aside0.mk ((by rw [hg]; exact (below_size (bel_)) : w.heap.size ≤ gb295)); have n3_ := Aside0.mk ((by rw [hg]; exact (below_size (bel_)) : w.heap.size ≤ gb295)); clear HB; have HB := n0_; have BK295 := n1_; have GW295 := n2_; have GE295 := n3_; clear n0_ n1_ n2_ n3_; clear hb hbox hg) | ((with_reducible refine gate_callee (f := 15) rfl ?_); refine gl_ 15 Tryd.func15 #[.slice A0 l0.length c0, .int .i64 1048576] ?_; (with_reducible refine (laws_szRowS.calls k _ _ l0 1048576 t296 _ ?side1 ?side2 A3.out).mono ?_); (case side1 => exact cp_ HR0.out); (case side2 => exact HC0.out); rintro e w41 ⟨rfl, hb⟩; refine ⟨_, rfl, ?_⟩; replace HB := Aside0.mk (below_step (bel_) hb); replace BK295 := Aside0.mk (blk_below (g := gb295) (o := .cells #[.int .i64 a1_0, .int .i64 a1_1, .int .i64 a1_2, .int .i64 a1_3, .string a1_4] 24 (0, 0)) (bp_ BK295.out) hb); (try clear hb); (try clear hb2); (try clear hk); (try clear hi); have hcz42_0 : w41.cell? ⟨gb295, 0, none⟩ = some (.int .i64 a1_0) := (blk_cell BK295.out 0).trans rfl; have hcz42_1 : w41.cell? ⟨gb295, 1, none⟩ = some (.int .i64 a1_1) := (blk_cell BK295.out 1).trans rfl; have hcz42_2 : w41.cell? ⟨gb295, 2, none⟩ = some (.int .i64 a1_2) := (blk_cell BK295.out 2).trans rfl; have hcz42_3 : w41.cell? ⟨gb295, 3, none⟩ = some (.int .i64 a1_3) := (blk_cell BK295.out 3).trans rfl; have hcz42_4 : w41.cell? ⟨gb295, 4, none⟩ = some (.string a1_4) := (blk_cell BK295.out 4).trans rfl; have hfz42_0 := blk_frozen BK295.out 0; have hfz42_1 := blk_frozen BK295.out 1; have hfz42_2 := blk_frozen BK295.out 2; have hfz42_3 := blk_frozen BK295.out 3; have hfz42_4 := blk_frozen BK295.out 4) | ((with_reducible refine gate_callee (f := 16) rfl ?_); refine gl_ 20 Tryd.func16 #[.agg #[.int .i64 a1_0, .int .i64 a1_1, .int .i64 a1_2, .int .i64 a1_3, .string a1_4], .int .i64 t296] ?_; (with_reducible refine (laws_szOp.calls a1_0 a1_1 a1_2 a1_3 a1_4 t296 t297 _ A7.out).mono ?_); rintro e w43 ⟨rfl, hb⟩; refine ⟨_, rfl, ?_⟩; replace HB := Aside0.mk (below_step (bel_) hb); replace BK295 := Aside0.mk (blk_below (g := gb295) (o := .cells #[.int .i64 a1_0, .int .i64 a1_1, .int .i64 a1_2, .int .i64 a1_3, .string a1_4] 24 (0, 0)) (bp_ BK295.out) hb); (try clear hb); (try clear hb2); (try clear hk); (try clear hi)))
            have n0_ := Aside0.mk (blk_drew BK295.out)
            have n1_ := Aside0.mk (below_drew1 HB.out)
            clear BK295
            clear HB
            have BK295 := n0_
            have HB := n1_
            clear n0_ n1_
            refine start_ (n := 6) (S := fun w' => w'.cell? ⟨gb295, 0, none⟩ = some (.int .i64 a1_0) ∧ w'.cell? ⟨gb295, 1, none⟩ = some (.int .i64 a1_1) ∧ w'.cell? ⟨gb295, 2, none⟩ = some (.int .i64 a1_2) ∧ w'.cell? ⟨gb295, 3, none⟩ = some (.int .i64 a1_3) ∧ w'.cell? ⟨gb295, 4, none⟩ = some (.string a1_4)) (ds := []) #[false, false, false, false, false, false] (by kernel_rfl) rfl rfl ⟨(blk_cell BK295.out 0).trans rfl, (blk_cell BK295.out 1).trans rfl, (blk_cell BK295.out 2).trans rfl, (blk_cell BK295.out 3).trans rfl, (blk_cell BK295.out 4).trans rfl⟩ (fun hHeld => ?_)
            generalize w43.drew = w44 at BK295 HB hHeld ⊢
            refine pure_ (i := 0) (N := some 23) (v := ?_) (a' := ?_) #[true, false, false, false, false, false] rfl rfl (by kernel_rfl) (fun _ _ _ h => h) (Or.inl ⟨by rfl, ?_⟩) ?_ ?_
            rotate_left
            ·intro w'
             go_simp
             with_reducible rfl
            rotate_left
            ·simp only [Act.put, List.setIfInBounds_toArray, List.set_cons_zero, List.set_cons_succ, i64_w, i32_w]
             rfl
            refine take_ (i := 2) (N := some 25) (v := ?_) (a' := ?_) #[true, false, true, false, false, false] rfl rfl (by kernel_rfl) (fun _ _ _ h => h) (Or.inl ⟨by rfl, ?_⟩) hHeld ?_ ?_
            rotate_left
            ·rintro w' ⟨s0, s1, s2, s3, s4⟩
             go_simp
             with_reducible rfl
            rotate_left
            ·simp only [Act.put, List.setIfInBounds_toArray, List.set_cons_zero, List.set_cons_succ, i64_w, i32_w]
             rfl
            refine one_ (i := 1) (N := some 24) #[true, true, true, false, false, false] rfl rfl (by kernel_rfl) (by decide) (fun K hK => ?_)
            refine goes_ Tryd.func18 (by kernel_rfl) rfl #[.slice A0 l0.length c0] (by rfl) rfl rfl ar_ ?_
            with_reducible refine (laws_toRowS.calls k _ _ l0 t298 _ ?side1 ?side2 A13.out).mono ?_
            (case side1 => exact cp_ HR0.out)
            (case side2 => exact HC0.out)
            rintro e w45 ⟨v299, rfl, ho0, hb⟩
            refine ⟨_, rfl, ?_⟩
            have n0_ := Aside0.mk (Kd.R_lower ho0 (below_size (bel_)))
            have n1_ := Aside0.mk (blk_below (g := gb295) (o := .cells #[.int .i64 a1_0, .int .i64 a1_1, .int .i64 a1_2, .int .i64 a1_3, .string a1_4] 24 (0, 0)) (bp_ BK295.out) hb)
            have n2_ := Aside0.mk (below_step (bel_) hb)
            clear BK295
            clear HB
            have HO300 := n0_
            have BK295 := n1_
            have HB := n2_
            clear n0_ n1_ n2_
            (try clear hb)
            (try clear hb2)
            (try clear hk)
            (try clear hi)
            (try clear ho0)
            refine hK.out _ _ ⟨(blk_cell BK295.out 0).trans rfl, (blk_cell BK295.out 1).trans rfl, (blk_cell BK295.out 2).trans rfl, (blk_cell BK295.out 3).trans rfl, (blk_cell BK295.out 4).trans rfl⟩ (fun hHeld => ?_)
            clear hK K
            refine no_ ?_
            refine one_ (i := 3) (N := some 26) #[true, true, true, true, false, false] rfl rfl (by kernel_rfl) (by decide) (fun K hK => ?_)
            refine goes_ Tryd.func19 (by kernel_rfl) rfl #[.agg #[.int .i64 a1_0, .int .i64 a1_1, .int .i64 a1_2, .int .i64 a1_3, .string a1_4]] (by rfl) rfl rfl ar_ ?_
            with_reducible refine (laws_toOp.calls a1_0 a1_1 a1_2 a1_3 a1_4 t301 t302 t303 t304 t305 _ A14.out).mono ?_
            rintro e w46 ⟨rfl, hb⟩
            refine ⟨_, rfl, ?_⟩
            have n0_ := Aside0.mk (Kd.R_below (rp_ HO300.out) hb)
            have n1_ := Aside0.mk (blk_below (g := gb295) (o := .cells #[.int .i64 a1_0, .int .i64 a1_1, .int .i64 a1_2, .int .i64 a1_3, .string a1_4] 24 (0, 0)) (bp_ BK295.out) hb)
            have n2_ := Aside0.mk (below_step (bel_) hb)
            clear HO300
            clear BK295
            clear HB
            have HO300 := n0_
            have BK295 := n1_
            have HB := n2_
            clear n0_ n1_ n2_
            (try clear hb)
            (try clear hb2)
            (try clear hk)
            (try clear hi)
            obtain ⟨Ao47, co47, eo47⟩ := Kd.R_slice HO300.out
            (first | subst eo47 | (injection eo47 with f1_ f2_ f3_; have f4_ := f1_.symm; have f5_ := f3_.symm; clear f1_ f2_ f3_; subst f4_; subst f5_))
            refine hK.out _ _ ⟨(blk_cell BK295.out 0).trans rfl, (blk_cell BK295.out 1).trans rfl, (blk_cell BK295.out 2).trans rfl, (blk_cell BK295.out 3).trans rfl, (blk_cell BK295.out 4).trans rfl⟩ (fun hHeld => ?_)
            clear hK K
            refine no_ ?_
            refine one_ (i := 4) (N := some 27) #[true, true, true, true, true, false] rfl rfl (by kernel_rfl) (by decide) (fun K hK => ?_)
            refine goes_ Tryd.func17 (by kernel_rfl) rfl #[.slice Ao47 t298.length co47, .agg #[.int .i64 t301, .int .i64 t302, .int .i64 t303, .int .i64 t304, .string t305]] (by rfl) rfl rfl ar_ ?_
            with_reducible refine (spec_OpDo.calls k _ _ t298 t301 t302 t303 t304 t305 t306 _ ?side1 ?side2 A15.out).mono ?_
            (case side1 => repeat (first | exact (Kd.R_reads' HO300.out).2.2 | (with_reducible refine Kd.C_alloc ?_ _) | (with_reducible refine Kd.C_drewN ?_ _) | (with_reducible refine Kd.C_drew ?_)))
            (case side2 => exact (Kd.R_reads' HO300.out).2.1)
            rintro e w48 ⟨v307, rfl, ho0, hb⟩
            refine ⟨_, rfl, ?_⟩
            have n0_ := Aside0.mk (Kd.R_elder' (rp_ HO300.out) (Kd.R_base ho0) hb)
            have n1_ := Aside0.mk (Kd.R_lower (Kd.R_new' ho0 (Kd.R_lt (rp_ HO300.out))) (below_size (bel_)))
            have n2_ := Aside0.mk (blk_below (g := gb295) (o := .cells #[.int .i64 a1_0, .int .i64 a1_1, .int .i64 a1_2, .int .i64 a1_3, .string a1_4] 24 (0, 0)) (bp_ BK295.out) hb)
            have n3_ := Aside0.mk (below_step (bel_) hb)
            clear HO300
            clear BK295
            clear HB
            have HO300 := n0_
            have HO308 := n1_
            have BK295 := n2_
            have HB := n3_
            clear n0_ n1_ n2_ n3_
            (try clear hb)
            (try clear hb2)
            (try clear hk)
            (try clear hi)
            (try clear ho0)
            refine hK.out _ _ ⟨(blk_cell BK295.out 0).trans rfl, (blk_cell BK295.out 1).trans rfl, (blk_cell BK295.out 2).trans rfl, (blk_cell BK295.out 3).trans rfl, (blk_cell BK295.out 4).trans rfl⟩ (fun hHeld => ?_)
            clear hK K
            refine no_ ?_
            refine pure_ (i := 5) (N := some 6) (v := ?_) (a' := ?_) #[true, true, true, true, true, true] rfl rfl (by kernel_rfl) (fun _ _ _ h => h) (Or.inl ⟨by rfl, ?_⟩) ?_ ?_
            rotate_left
            ·intro w'
             go_simp
             with_reducible rfl
            rotate_left
            ·simp only [Act.put, List.setIfInBounds_toArray, List.set_cons_zero, List.set_cons_succ, i64_w, i32_w]
             rfl
            refine done_ (by kernel_rfl) ?_
            try go_wp2_with (first | ((with_reducible refine gate_callee (f := 18) rfl ?_); refine gl_ 29 Tryd.func18 #[.slice A0 l0.length c0] ?_; (with_reducible refine (laws_toRowS.calls k _ _ l0 t309 _ ?side1 ?side2 A16.out).mono ?_); (case side1 => exact cp_ HR0.out); (case side2 => exact HC0.out); rintro e w49 ⟨v310, rfl, ho0, hb⟩; refine ⟨_, rfl, ?_⟩; have HO311 := Aside0.mk (Kd.R_lower (Kd.R_new' (Kd.R_new' ho0 (Kd.R_lt (rp_ HO300.out))) (Kd.R_lt (rp_ HO308.out))) (below_size (bel_))); replace HO300 := Aside0.mk (Kd.R_elder' (rp_ HO300.out) (Kd.R_base ho0) hb); replace HO308 := Aside0.mk (Kd.R_elder' (rp_ HO308.out) (Kd.R_base ho0) hb); replace HB := Aside0.mk (below_step (bel_) hb); replace BK295 := Aside0.mk (blk_below (g := gb295) (o := .cells #[.int .i64 a1_0, .int .i64 a1_1, .int .i64 a1_2, .int .i64 a1_3, .string a1_4] 24 (0, 0)) (bp_ BK295.out) hb); (try clear hb); (try clear hb2); (try clear hk); (try clear hi); (try clear ho0); have hcz50_0 : w49.cell? ⟨gb295, 0, none⟩ = some (.int .i64 a1_0) := (blk_cell BK295.out 0).trans rfl; have hcz50_1 : w49.cell? ⟨gb295, 1, none⟩ = some (.int .i64 a1_1) := (blk_cell BK295.out 1).trans rfl; have hcz50_2 : w49.cell? ⟨gb295, 2, none⟩ = some (.int .i64 a1_2) := (blk_cell BK295.out 2).trans rfl; have hcz50_3 : w49.cell? ⟨gb295, 3, none⟩ = some (.int .i64 a1_3) := (blk_cell BK295.out 3).trans rfl; have hcz50_4 : w49.cell? ⟨gb295, 4, none⟩ = some (.string a1_4) := (blk_cell BK295.out 4).trans rfl; have hfz50_0 := blk_frozen BK295.out 0; have hfz50_1 := blk_frozen BK295.out 1; have hfz50_2 := blk_frozen BK295.out 2; have hfz50_3 := blk_frozen BK295.out 3; have hfz50_4 := blk_frozen BK295.out 4) | ((with_reducible refine gate_callee (f := 19) rfl ?_); refine gl_ 32 Tryd.func19 #[.agg #[.int .i64 a1_0, .int .i64 a1_1, .int .i64 a1_2, .int .i64 a1_3, .string a1_4]] ?_; (with_reducible refine (laws_toOp.calls a1_0 a1_1 a1_2 a1_3 a1_4 t312 t313 t314 t315 t316 _ A17.out).mono ?_); rintro e w51 ⟨rfl, hb⟩; refine ⟨_, rfl, ?_⟩; replace HO300 := Aside0.mk (Kd.R_below (rp_ HO300.out) hb); replace HO308 := Aside0.mk (Kd.R_below (rp_ HO308.out) hb); replace HO311 := Aside0.mk (Kd.R_below (rp_ HO311.out) hb); replace HB := Aside0.mk (below_step (bel_) hb); replace BK295 := Aside0.mk (blk_below (g := gb295) (o := .cells #[.int .i64 a1_0, .int .i64 a1_1, .int .i64 a1_2, .int .i64 a1_3, .string a1_4] 24 (0, 0)) (bp_ BK295.out) hb); (try clear hb); (try clear hb2); (try clear hk); (try clear hi); obtain ⟨Ao52, co52, eo52⟩ := Kd.R_slice HO311.out; subst eo52) | ((with_reducible refine gate_callee (f := 20) rfl ?_); refine gl_ 33 Tryd.func20 #[.slice Ao52 t309.length co52, .agg #[.int .i64 t312, .int .i64 t313, .int .i64 t314, .int .i64 t315, .string t316]] ?_; (with_reducible refine (impl_OpDo.calls k _ _ t309 t312 t313 t314 t315 t316 t317 _ ?side1 ?side2 A18.out ?side3).mono ?_); (case side1 => repeat (first | exact (Kd.R_reads' HO311.out).2.2 | (with_reducible refine Kd.C_alloc ?_ _) | (with_reducible refine Kd.C_drewN ?_ _) | (with_reducible refine Kd.C_drew ?_))); (case side2 => exact (Kd.R_reads' HO311.out).2.1); (case side3 => exact Glob.below HG.out (bel_)); rintro e w53 ⟨v318, rfl, ho0, hb⟩; refine ⟨_, rfl, ?_⟩; have HO319 := Aside0.mk (Kd.R_lower (Kd.R_new' (Kd.R_new' (Kd.R_new' ho0 (Kd.R_lt (rp_ HO300.out))) (Kd.R_lt (rp_ HO308.out))) (Kd.R_lt (rp_ HO311.out))) (below_size (bel_))); replace HO300 := Aside0.mk (Kd.R_elder' (rp_ HO300.out) (Kd.R_base ho0) hb); replace HO308 := Aside0.mk (Kd.R_elder' (rp_ HO308.out) (Kd.R_base ho0) hb); replace HO311 := Aside0.mk (Kd.R_elder' (rp_ HO311.out) (Kd.R_base ho0) hb); replace HB := Aside0.mk (below_step (bel_) hb); replace BK295 := Aside0.mk (blk_below (g := gb295) (o := .cells #[.int .i64 a1_0, .int .i64 a1_1, .int .i64 a1_2, .int .i64 a1_3, .string a1_4] 24 (0, 0)) (bp_ BK295.out) hb); (try clear hb); (try clear hb2); (try clear hk); (try clear hi); (try clear ho0); obtain ⟨Ao54, co54, eo54⟩ := Kd.R_slice HO319.out; subst eo54; obtain ⟨Ao55, co55, eo55⟩ := Kd.R_slice HO308.out; subst eo55) | ((with_reducible refine gate_callee (f := 21) rfl ?_); refine gl_ 36 Tryd.func21 #[.slice Ao54 t317.length co54, .slice Ao55 t306.length co55] ?_; (with_reducible refine (laws_eqRowS.calls k _ _ t317 _ _ t306 true _ ?side1 ?side2 ?side3 ?side4 A19.out).mono ?_); (case side1 => repeat (first | exact (Kd.R_reads' HO319.out).2.2 | (with_reducible refine Kd.C_alloc ?_ _) | (with_reducible refine Kd.C_drewN ?_ _) | (with_reducible refine Kd.C_drew ?_))); (case side2 => exact (Kd.R_reads' HO319.out).2.1); (case side3 => repeat (first | exact (Kd.R_reads' HO308.out).2.2 | (with_reducible refine Kd.C_alloc ?_ _) | (with_reducible refine Kd.C_drewN ?_ _) | (with_reducible refine Kd.C_drew ?_))); (case side4 => exact (Kd.R_reads' HO308.out).2.1); rintro e w56 ⟨rfl, hb⟩; refine ⟨_, rfl, ?_⟩; replace HO300 := Aside0.mk (Kd.R_below (rp_ HO300.out) hb); replace HO308 := Aside0.mk (Kd.R_below (rp_ HO308.out) hb); replace HO311 := Aside0.mk (Kd.R_below (rp_ HO311.out) hb); replace HO319 := Aside0.mk (Kd.R_below (rp_ HO319.out) hb); replace HB := Aside0.mk (below_step (bel_) hb); replace BK295 := Aside0.mk (blk_below (g := gb295) (o := .cells #[.int .i64 a1_0, .int .i64 a1_1, .int .i64 a1_2, .int .i64 a1_3, .string a1_4] 24 (0, 0)) (bp_ BK295.out) hb); (try clear hb); (try clear hb2); (try clear hk); (try clear hi)) | ((with_reducible refine gate_callee (f := 18) rfl ?_); refine gl_ 40 Tryd.func18 #[.slice A0 l0.length c0] ?_; (with_reducible refine (laws_toRowS.calls k _ _ l0 t321 _ ?side1 ?side2 A21.out).mono ?_); (case side1 => exact cp_ HR0.out); (case side2 => exact HC0.out); rintro e w57 ⟨v322, rfl, ho0, hb⟩; refine ⟨_, rfl, ?_⟩; have HO323 := Aside0.mk (Kd.R_lower (Kd.R_new' (Kd.R_new' (Kd.R_new' (Kd.R_new' ho0 (Kd.R_lt (rp_ HO300.out))) (Kd.R_lt (rp_ HO308.out))) (Kd.R_lt (rp_ HO311.out))) (Kd.R_lt (rp_ HO319.out))) (below_size (bel_))); replace HO300 := Aside0.mk (Kd.R_elder' (rp_ HO300.out) (Kd.R_base ho0) hb); replace HO308 := Aside0.mk (Kd.R_elder' (rp_ HO308.out) (Kd.R_base ho0) hb); replace HO311 := Aside0.mk (Kd.R_elder' (rp_ HO311.out) (Kd.R_base ho0) hb); replace HO319 := Aside0.mk (Kd.R_elder' (rp_ HO319.out) (Kd.R_base ho0) hb); replace HB := Aside0.mk (below_step (bel_) hb); replace BK295 := Aside0.mk (blk_below (g := gb295) (o := .cells #[.int .i64 a1_0, .int .i64 a1_1, .int .i64 a1_2, .int .i64 a1_3, .string a1_4] 24 (0, 0)) (bp_ BK295.out) hb); (try clear hb); (try clear hb2); (try clear hk); (try clear hi); (try clear ho0); obtain ⟨Ao58, co58, eo58⟩ := Kd.R_slice HO323.out; subst eo58) | ((with_reducible refine gate_callee (f := 21) rfl ?_); refine gl_ 41 Tryd.func21 #[.slice Ao52 t309.length co52, .slice Ao58 t321.length co58] ?_; (with_reducible refine (laws_eqRowS.calls k _ _ t309 _ _ t321 true _ ?side1 ?side2 ?side3 ?side4 A22.out).mono ?_); (case side1 => repeat (first | exact (Kd.R_reads' HO311.out).2.2 | (with_reducible refine Kd.C_alloc ?_ _) | (with_reducible refine Kd.C_drewN ?_ _) | (with_reducible refine Kd.C_drew ?_))); (case side2 => exact (Kd.R_reads' HO311.out).2.1); (case side3 => repeat (first | exact (Kd.R_reads' HO323.out).2.2 | (with_reducible refine Kd.C_alloc ?_ _) | (with_reducible refine Kd.C_drewN ?_ _) | (with_reducible refine Kd.C_drew ?_))); (case side4 => exact (Kd.R_reads' HO323.out).2.1); rintro e w59 ⟨rfl, hb⟩; refine ⟨_, rfl, ?_⟩; replace HO300 := Aside0.mk (Kd.R_below (rp_ HO300.out) hb); replace HO308 := Aside0.mk (Kd.R_below (rp_ HO308.out) hb); replace HO311 := Aside0.mk (Kd.R_below (rp_ HO311.out) hb); replace HO319 := Aside0.mk (Kd.R_below (rp_ HO319.out) hb); replace HO323 := Aside0.mk (Kd.R_below (rp_ HO323.out) hb); replace HB := Aside0.mk (below_step (bel_) hb); replace BK295 := Aside0.mk (blk_below (g := gb295) (o := .cells #[.int .i64 a1_0, .int .i64 a1_1, .int .i64 a1_2, .int .i64 a1_3, .string a1_4] 24 (0, 0)) (bp_ BK295.out) hb); (try clear hb); (try clear hb2); (try clear hk); (try clear hi)) | ((with_reducible refine gate_callee (f := 22) rfl ?_); refine gl_ 45 Tryd.func22 #[.slice Ao52 t309.length co52, .int .i64 1] ?_; (with_reducible refine (laws_markRowS.calls k (fun k_ => some k_ = (.slice Ao52 t309.length co52 : Value).ownBlock) (.slice Ao52 t309.length co52) t309 1 t325 t326 w _ ?side1 ?side2 A24.out).mono ?_); (case side1 => exact bel_); (case side2 => exact Kd.R_tight rfl HO311.out); rintro e w60 ⟨rfl, hy0, hb, hkp⟩; refine ⟨_, rfl, ?_⟩; replace BK295 := Aside0.mk (blk_kept (bp_ BK295.out) hkp (fun hs_ => (fun e_ => (Kd.R_ne HO311.out BK295.out (by decide)) e_) hs_)); replace HO300 := Aside0.mk (Kd.R_mono (ok' := fun k_ => some k_ ≠ (.slice Ao55 t306.length co55 : Value).ownBlock ∧ some k_ ≠ (.slice Ao52 t309.length co52 : Value).ownBlock ∧ some k_ ≠ (.slice Ao54 t317.length co54 : Value).ownBlock ∧ some k_ ≠ (.slice Ao58 t321.length co58 : Value).ownBlock) (Kd.R_keptB (HO300.out) hkp (fun k_ hk_ hs_ => (hk_.1.1.2) hs_)) (fun k_ hk_ => ⟨hk_.1.1.1.1.2, hk_.1.1.1.2, hk_.1.1.2, hk_.1.2⟩)); replace HO308 := Aside0.mk (Kd.R_mono (ok' := fun k_ => some k_ ≠ (.slice Ao47 t298.length co47 : Value).ownBlock ∧ some k_ ≠ (.slice Ao52 t309.length co52 : Value).ownBlock ∧ some k_ ≠ (.slice Ao54 t317.length co54 : Value).ownBlock ∧ some k_ ≠ (.slice Ao58 t321.length co58 : Value).ownBlock) (Kd.R_keptB (HO308.out) hkp (fun k_ hk_ hs_ => (hk_.1.1.2) hs_)) (fun k_ hk_ => ⟨hk_.1.1.1.1.2, hk_.1.1.1.2, hk_.1.1.2, hk_.1.2⟩)); replace HO311 := Aside0.mk (Kd.R_reok rfl hy0 (fun k_ e_ => HO311.out.1 k_ e_)); replace HO319 := Aside0.mk (Kd.R_mono (ok' := fun k_ => some k_ ≠ (.slice Ao47 t298.length co47 : Value).ownBlock ∧ some k_ ≠ (.slice Ao55 t306.length co55 : Value).ownBlock ∧ some k_ ≠ (.slice Ao52 t309.length co52 : Value).ownBlock ∧ some k_ ≠ (.slice Ao58 t321.length co58 : Value).ownBlock) (Kd.R_keptB (HO319.out) hkp (fun k_ hk_ hs_ => (hk_.1.2) hs_)) (fun k_ hk_ => ⟨hk_.1.1.1.1.2, hk_.1.1.1.2, hk_.1.1.2, hk_.1.2⟩)); replace HO323 := Aside0.mk (Kd.R_mono (ok' := fun k_ => some k_ ≠ (.slice Ao47 t298.length co47 : Value).ownBlock ∧ some k_ ≠ (.slice Ao55 t306.length co55 : Value).ownBlock ∧ some k_ ≠ (.slice Ao52 t309.length co52 : Value).ownBlock ∧ some k_ ≠ (.slice Ao54 t317.length co54 : Value).ownBlock) (Kd.R_keptB (HO323.out) hkp (fun k_ hk_ hs_ => (hk_.1.2) hs_)) (fun k_ hk_ => ⟨hk_.1.1.1.1.2, hk_.1.1.1.2, hk_.1.1.2, hk_.1.2⟩)); replace HB := Aside0.mk (hb); (try clear hb); (try clear hkp); (try clear hy0)) | (go_at_call 21; (with_reducible refine (laws_eqRowS.calls k _ _ t317 _ _ t306 true _ ?side1 ?side2 ?side3 ?side4 A26.out).mono ?_); (case side1 => repeat (first | exact (Kd.R_reads' HO319.out).2.2 | (with_reducible refine Kd.C_alloc ?_ _) | (with_reducible refine Kd.C_drewN ?_ _) | (with_reducible refine Kd.C_drew ?_))); (case side2 => exact (Kd.R_reads' HO319.out).2.1); (case side3 => repeat (first | exact (Kd.R_reads' HO308.out).2.2 | (with_reducible refine Kd.C_alloc ?_ _) | (with_reducible refine Kd.C_drewN ?_ _) | (with_reducible refine Kd.C_drew ?_))); (case side4 => exact (Kd.R_reads' HO308.out).2.1); rintro e w61 ⟨rfl, hb⟩; replace HO300 := Aside0.mk (Kd.R_below (rp_ HO300.out) hb); replace HO308 := Aside0.mk (Kd.R_below (rp_ HO308.out) hb); replace HO311 := Aside0.mk (Kd.R_below (rp_ HO311.out) hb); replace HO319 := Aside0.mk (Kd.R_below (rp_ HO319.out) hb); replace HO323 := Aside0.mk (Kd.R_below (rp_ HO323.out) hb); replace HB := Aside0.mk (below_step (bel_) hb); replace BK295 := Aside0.mk (blk_below (g := gb295) (o := .cells #[.int .i64 a1_0, .int .i64 a1_1, .int .i64 a1_2, .int .i64 a1_3, .string a1_4] 24 (0, 0)) (bp_ BK295.out) hb); (try clear hb); (try clear hb2); (try clear hk); (try clear hi)) | ((with_reducible refine gate_callee (f := 22) rfl ?_); refine gl_ 56 Tryd.func22 #[.slice Ao54 t317.length co54, .int .i64 1] ?_; (with_reducible refine (laws_markRowS.calls k (fun k_ => some k_ = (.slice Ao54 t317.length co54 : Value).ownBlock) (.slice Ao54 t317.length co54) t317 1 t328 t329 w _ ?side1 ?side2 A28.out).mono ?_); (case side1 => exact bel_); (case side2 => exact Kd.R_tight rfl HO319.out); rintro e w62 ⟨rfl, hy0, hb, hkp⟩; refine ⟨_, rfl, ?_⟩; replace BK295 := Aside0.mk (blk_kept (bp_ BK295.out) hkp (fun hs_ => (fun e_ => (Kd.R_ne HO319.out BK295.out (by decide)) e_) hs_)); replace HO300 := Aside0.mk (Kd.R_mono (ok' := fun k_ => some k_ ≠ (.slice Ao55 t306.length co55 : Value).ownBlock ∧ some k_ ≠ (.slice Ao52 t309.length co52 : Value).ownBlock ∧ some k_ ≠ (.slice Ao54 t317.length co54 : Value).ownBlock ∧ some k_ ≠ (.slice Ao58 t321.length co58 : Value).ownBlock) (Kd.R_keptB (HO300.out) hkp (fun k_ hk_ hs_ => (hk_.2.2.1) hs_)) (fun k_ hk_ => ⟨hk_.1.1, hk_.1.2.1, hk_.1.2.2.1, hk_.1.2.2.2⟩)); replace HO308 := Aside0.mk (Kd.R_mono (ok' := fun k_ => some k_ ≠ (.slice Ao47 t298.length co47 : Value).ownBlock ∧ some k_ ≠ (.slice Ao52 t309.length co52 : Value).ownBlock ∧ some k_ ≠ (.slice Ao54 t317.length co54 : Value).ownBlock ∧ some k_ ≠ (.slice Ao58 t321.length co58 : Value).ownBlock) (Kd.R_keptB (HO308.out) hkp (fun k_ hk_ hs_ => (hk_.2.2.1) hs_)) (fun k_ hk_ => ⟨hk_.1.1, hk_.1.2.1, hk_.1.2.2.1, hk_.1.2.2.2⟩)); replace HO311 := Aside0.mk (Kd.R_mono (ok' := fun k_ => some k_ ≠ (.slice Ao47 t298.length co47 : Value).ownBlock ∧ some k_ ≠ (.slice Ao55 t306.length co55 : Value).ownBlock ∧ some k_ ≠ (.slice Ao54 t317.length co54 : Value).ownBlock ∧ some k_ ≠ (.slice Ao58 t321.length co58 : Value).ownBlock) (Kd.R_keptB (HO311.out) hkp (fun k_ hk_ hs_ => (hk_.1.2) hs_)) (fun k_ hk_ => ⟨hk_.1.1.1.1.2, hk_.1.1.1.2, hk_.1.1.2, hk_.1.2⟩)); replace HO319 := Aside0.mk (Kd.R_reok rfl hy0 (fun k_ e_ => HO319.out.1 k_ e_)); replace HO323 := Aside0.mk (Kd.R_mono (ok' := fun k_ => some k_ ≠ (.slice Ao47 t298.length co47 : Value).ownBlock ∧ some k_ ≠ (.slice Ao55 t306.length co55 : Value).ownBlock ∧ some k_ ≠ (.slice Ao52 t309.length co52 : Value).ownBlock ∧ some k_ ≠ (.slice Ao54 t317.length co54 : Value).ownBlock) (Kd.R_keptB (HO323.out) hkp (fun k_ hk_ hs_ => (hk_.2.2.2) hs_)) (fun k_ hk_ => ⟨hk_.1.1, hk_.1.2.1, hk_.1.2.2.1, hk_.1.2.2.2⟩)); replace HB := Aside0.mk (hb); (try clear hb); (try clear hkp); (try clear hy0)) | ((with_reducible refine gate_callee (f := 23) rfl ?_); refine goesL_ (some 59) rfl rfl Tryd.func23 (by kernel_rfl) rfl #[.slice Ao54 t329.length co54, .int .i64 1] rfl (by (try simp only [List.map_toArray, List.map_cons, List.map_nil]); first | done | (rw [show t329.length = t317.length from (Kd.R_reads' HO319.out).1.symm] <;> rfl) | rfl | (simp only [List.length_drop, List.length_take]; rfl)) ?_; (with_reducible refine (laws_heldRowS.calls k _ _ t329 1 t330 _ ?side1 ?side2 A29.out).mono ?_); (case side1 => repeat (first | exact (Kd.R_reads' HO319.out).2.2 | (with_reducible refine Kd.C_alloc ?_ _) | (with_reducible refine Kd.C_drewN ?_ _) | (with_reducible refine Kd.C_drew ?_))); (case side2 => rw [show t329.length = t317.length from (Kd.R_reads' HO319.out).1.symm]; exact (Kd.R_reads' HO319.out).2.1); rintro e w63 ⟨rfl, hb⟩; refine ⟨_, rfl, ?_⟩; replace HO300 := Aside0.mk (Kd.R_below (rp_ HO300.out) hb); replace HO308 := Aside0.mk (Kd.R_below (rp_ HO308.out) hb); replace HO311 := Aside0.mk (Kd.R_below (rp_ HO311.out) hb); replace HO319 := Aside0.mk (Kd.R_below (rp_ HO319.out) hb); replace HO323 := Aside0.mk (Kd.R_below (rp_ HO323.out) hb); replace HB := Aside0.mk (below_step (bel_) hb); replace BK295 := Aside0.mk (blk_below (g := gb295) (o := .cells #[.int .i64 a1_0, .int .i64 a1_1, .int .i64 a1_2, .int .i64 a1_3, .string a1_4] 24 (0, 0)) (bp_ BK295.out) hb); (try clear hb); (try clear hb2); (try clear hk); (try clear hi)))
            have n0_ := Aside0.mk (Kd.R_drew HO300.out)
            have n1_ := Aside0.mk (Kd.R_drew HO308.out)
            have n2_ := Aside0.mk (Kd.R_drew HO311.out)
            have n3_ := Aside0.mk (Kd.R_drew HO319.out)
            have n4_ := Aside0.mk (Kd.R_drew HO323.out)
            have n5_ := Aside0.mk (blk_drew BK295.out)
            have n6_ := Aside0.mk (below_drew1 HB.out)
            clear HO300
            clear HO308
            clear HO311
            clear HO319
            clear HO323
            clear BK295
            clear HB
            have HO300 := n0_
            have HO308 := n1_
            have HO311 := n2_
            have HO319 := n3_
            have HO323 := n4_
            have BK295 := n5_
            have HB := n6_
            clear n0_ n1_ n2_ n3_ n4_ n5_ n6_
            refine start_ (n := 6) (S := fun w' => w'.cell? ⟨gb295, 0, none⟩ = some (.int .i64 a1_0) ∧ w'.cell? ⟨gb295, 1, none⟩ = some (.int .i64 a1_1) ∧ w'.cell? ⟨gb295, 2, none⟩ = some (.int .i64 a1_2) ∧ w'.cell? ⟨gb295, 3, none⟩ = some (.int .i64 a1_3) ∧ w'.cell? ⟨gb295, 4, none⟩ = some (.string a1_4)) (ds := []) #[false, false, false, false, false, false] (by kernel_rfl) rfl rfl ⟨(blk_cell BK295.out 0).trans rfl, (blk_cell BK295.out 1).trans rfl, (blk_cell BK295.out 2).trans rfl, (blk_cell BK295.out 3).trans rfl, (blk_cell BK295.out 4).trans rfl⟩ (fun hHeld => ?_)
            generalize w63.drew = w64 at HO300 HO308 HO311 HO319 HO323 BK295 HB hHeld ⊢
            refine pure_ (i := 0) (N := some 65) (v := ?_) (a' := ?_) #[true, false, false, false, false, false] rfl rfl (by kernel_rfl) (fun _ _ _ h => h) (Or.inl ⟨by rfl, ?_⟩) ?_ ?_
            rotate_left
            ·intro w'
             go_simp
             with_reducible rfl
            rotate_left
            ·simp only [Act.put, List.setIfInBounds_toArray, List.set_cons_zero, List.set_cons_succ, i64_w, i32_w]
             rfl
            refine take_ (i := 2) (N := some 67) (v := ?_) (a' := ?_) #[true, false, true, false, false, false] rfl rfl (by kernel_rfl) (fun _ _ _ h => h) (Or.inl ⟨by rfl, ?_⟩) hHeld ?_ ?_
            rotate_left
            ·rintro w' ⟨s0, s1, s2, s3, s4⟩
             go_simp
             with_reducible rfl
            rotate_left
            ·simp only [Act.put, List.setIfInBounds_toArray, List.set_cons_zero, List.set_cons_succ, i64_w, i32_w]
             rfl
            refine one_ (i := 1) (N := some 66) #[true, true, true, false, false, false] rfl rfl (by kernel_rfl) (by decide) (fun K hK => ?_)
            refine goes_ Tryd.func18 (by kernel_rfl) rfl #[.slice A0 l0.length c0] (by rfl) rfl rfl ar_ ?_
            with_reducible refine (laws_toRowS.calls k _ _ l0 t331 _ ?side1 ?side2 A32.out).mono ?_
            (case side1 => exact cp_ HR0.out)
            (case side2 => exact HC0.out)
            rintro e w65 ⟨v332, rfl, ho0, hb⟩
            refine ⟨_, rfl, ?_⟩
            have n0_ := Aside0.mk (Kd.R_elder' (rp_ HO300.out) (Kd.R_base ho0) hb)
            have n1_ := Aside0.mk (Kd.R_elder' (rp_ HO308.out) (Kd.R_base ho0) hb)
            have n2_ := Aside0.mk (Kd.R_elder' (rp_ HO311.out) (Kd.R_base ho0) hb)
            have n3_ := Aside0.mk (Kd.R_elder' (rp_ HO319.out) (Kd.R_base ho0) hb)
            have n4_ := Aside0.mk (Kd.R_elder' (rp_ HO323.out) (Kd.R_base ho0) hb)
            have n5_ := Aside0.mk (Kd.R_lower (Kd.R_new' (Kd.R_new' (Kd.R_new' (Kd.R_new' (Kd.R_new' ho0 (Kd.R_lt (rp_ HO300.out))) (Kd.R_lt (rp_ HO308.out))) (Kd.R_lt (rp_ HO311.out))) (Kd.R_lt (rp_ HO319.out))) (Kd.R_lt (rp_ HO323.out))) (below_size (bel_)))
            have n6_ := Aside0.mk (blk_below (g := gb295) (o := .cells #[.int .i64 a1_0, .int .i64 a1_1, .int .i64 a1_2, .int .i64 a1_3, .string a1_4] 24 (0, 0)) (bp_ BK295.out) hb)
            have n7_ := Aside0.mk (below_step (bel_) hb)
            clear HO300
            clear HO308
            clear HO311
            clear HO319
            clear HO323
            clear BK295
            clear HB
            have HO300 := n0_
            have HO308 := n1_
            have HO311 := n2_
            have HO319 := n3_
            have HO323 := n4_
            have HO333 := n5_
            have BK295 := n6_
            have HB := n7_
            clear n0_ n1_ n2_ n3_ n4_ n5_ n6_ n7_
            (try clear hb)
            (try clear hb2)
            (try clear hk)
            (try clear hi)
            (try clear ho0)
            refine hK.out _ _ ⟨(blk_cell BK295.out 0).trans rfl, (blk_cell BK295.out 1).trans rfl, (blk_cell BK295.out 2).trans rfl, (blk_cell BK295.out 3).trans rfl, (blk_cell BK295.out 4).trans rfl⟩ (fun hHeld => ?_)
            clear hK K
            refine no_ ?_
            refine one_ (i := 3) (N := some 68) #[true, true, true, true, false, false] rfl rfl (by kernel_rfl) (by decide) (fun K hK => ?_)
            refine goes_ Tryd.func19 (by kernel_rfl) rfl #[.agg #[.int .i64 a1_0, .int .i64 a1_1, .int .i64 a1_2, .int .i64 a1_3, .string a1_4]] (by rfl) rfl rfl ar_ ?_
            with_reducible refine (laws_toOp.calls a1_0 a1_1 a1_2 a1_3 a1_4 t334 t335 t336 t337 t338 _ A33.out).mono ?_
            rintro e w66 ⟨rfl, hb⟩
            refine ⟨_, rfl, ?_⟩
            have n0_ := Aside0.mk (Kd.R_below (rp_ HO300.out) hb)
            have n1_ := Aside0.mk (Kd.R_below (rp_ HO308.out) hb)
            have n2_ := Aside0.mk (Kd.R_below (rp_ HO311.out) hb)
            have n3_ := Aside0.mk (Kd.R_below (rp_ HO319.out) hb)
            have n4_ := Aside0.mk (Kd.R_below (rp_ HO323.out) hb)
            have n5_ := Aside0.mk (Kd.R_below (rp_ HO333.out) hb)
            have n6_ := Aside0.mk (blk_below (g := gb295) (o := .cells #[.int .i64 a1_0, .int .i64 a1_1, .int .i64 a1_2, .int .i64 a1_3, .string a1_4] 24 (0, 0)) (bp_ BK295.out) hb)
            have n7_ := Aside0.mk (below_step (bel_) hb)
            clear HO300
            clear HO308
            clear HO311
            clear HO319
            clear HO323
            clear HO333
            clear BK295
            clear HB
            have HO300 := n0_
            have HO308 := n1_
            have HO311 := n2_
            have HO319 := n3_
            have HO323 := n4_
            have HO333 := n5_
            have BK295 := n6_
            have HB := n7_
            clear n0_ n1_ n2_ n3_ n4_ n5_ n6_ n7_
            (try clear hb)
            (try clear hb2)
            (try clear hk)
            (try clear hi)
            obtain ⟨Ao67, co67, eo67⟩ := Kd.R_slice HO333.out
            (first | subst eo67 | (injection eo67 with f1_ f2_ f3_; have f4_ := f1_.symm; have f5_ := f3_.symm; clear f1_ f2_ f3_; subst f4_; subst f5_))
            refine hK.out _ _ ⟨(blk_cell BK295.out 0).trans rfl, (blk_cell BK295.out 1).trans rfl, (blk_cell BK295.out 2).trans rfl, (blk_cell BK295.out 3).trans rfl, (blk_cell BK295.out 4).trans rfl⟩ (fun hHeld => ?_)
            clear hK K
            refine no_ ?_
            refine one_ (i := 4) (N := some 69) #[true, true, true, true, true, false] rfl rfl (by kernel_rfl) (by decide) (fun K hK => ?_)
            refine goes_ Tryd.func20 (by kernel_rfl) rfl #[.slice Ao67 t331.length co67, .agg #[.int .i64 t334, .int .i64 t335, .int .i64 t336, .int .i64 t337, .string t338]] (by rfl) rfl rfl ar_ ?_
            with_reducible refine (impl_OpDo.calls k _ _ t331 t334 t335 t336 t337 t338 t339 _ ?side1 ?side2 A34.out ?side3).mono ?_
            (case side1 => repeat (first | exact (Kd.R_reads' HO333.out).2.2 | (with_reducible refine Kd.C_alloc ?_ _) | (with_reducible refine Kd.C_drewN ?_ _) | (with_reducible refine Kd.C_drew ?_)))
            (case side2 => exact (Kd.R_reads' HO333.out).2.1)
            (case side3 => exact Glob.below HG.out (bel_))
            rintro e w68 ⟨v340, rfl, ho0, hb⟩
            refine ⟨_, rfl, ?_⟩
            have n0_ := Aside0.mk (Kd.R_elder' (rp_ HO300.out) (Kd.R_base ho0) hb)
            have n1_ := Aside0.mk (Kd.R_elder' (rp_ HO308.out) (Kd.R_base ho0) hb)
            have n2_ := Aside0.mk (Kd.R_elder' (rp_ HO311.out) (Kd.R_base ho0) hb)
            have n3_ := Aside0.mk (Kd.R_elder' (rp_ HO319.out) (Kd.R_base ho0) hb)
            have n4_ := Aside0.mk (Kd.R_elder' (rp_ HO323.out) (Kd.R_base ho0) hb)
            have n5_ := Aside0.mk (Kd.R_elder' (rp_ HO333.out) (Kd.R_base ho0) hb)
            have n6_ := Aside0.mk (Kd.R_lower (Kd.R_new' (Kd.R_new' (Kd.R_new' (Kd.R_new' (Kd.R_new' (Kd.R_new' ho0 (Kd.R_lt (rp_ HO300.out))) (Kd.R_lt (rp_ HO308.out))) (Kd.R_lt (rp_ HO311.out))) (Kd.R_lt (rp_ HO319.out))) (Kd.R_lt (rp_ HO323.out))) (Kd.R_lt (rp_ HO333.out))) (below_size (bel_)))
            have n7_ := Aside0.mk (blk_below (g := gb295) (o := .cells #[.int .i64 a1_0, .int .i64 a1_1, .int .i64 a1_2, .int .i64 a1_3, .string a1_4] 24 (0, 0)) (bp_ BK295.out) hb)
            have n8_ := Aside0.mk (below_step (bel_) hb)
            clear HO300
            clear HO308
            clear HO311
            clear HO319
            clear HO323
            clear HO333
            clear BK295
            clear HB
            have HO300 := n0_
            have HO308 := n1_
            have HO311 := n2_
            have HO319 := n3_
            have HO323 := n4_
            have HO333 := n5_
            have HO341 := n6_
            have BK295 := n7_
            have HB := n8_
            clear n0_ n1_ n2_ n3_ n4_ n5_ n6_ n7_ n8_
            (try clear hb)
            (try clear hb2)
            (try clear hk)
            (try clear hi)
            (try clear ho0)
            refine hK.out _ _ ⟨(blk_cell BK295.out 0).trans rfl, (blk_cell BK295.out 1).trans rfl, (blk_cell BK295.out 2).trans rfl, (blk_cell BK295.out 3).trans rfl, (blk_cell BK295.out 4).trans rfl⟩ (fun hHeld => ?_)
            clear hK K
            refine no_ ?_
            refine pure_ (i := 5) (N := some 12) (v := ?_) (a' := ?_) #[true, true, true, true, true, true] rfl rfl (by kernel_rfl) (fun _ _ _ h => h) (Or.inl ⟨by rfl, ?_⟩) ?_ ?_
            rotate_left
            ·intro w'
             go_simp
             with_reducible rfl
            rotate_left
            ·simp only [Act.put, List.setIfInBounds_toArray, List.set_cons_zero, List.set_cons_succ, i64_w, i32_w]
             rfl
            refine done_ (by kernel_rfl) ?_
            obtain ⟨Ao69, co69, eo69⟩ := Kd.R_slice HO341.out
            subst eo69
            try go_wp2_with (first | ((with_reducible refine gate_callee (f := 21) rfl ?_); refine gl_ 72 Tryd.func21 #[.slice Ao69 t339.length co69, .slice Ao55 t306.length co55] ?_; (with_reducible refine (laws_eqRowS.calls k _ _ t339 _ _ t306 true _ ?side1 ?side2 ?side3 ?side4 A35.out).mono ?_); (case side1 => repeat (first | exact (Kd.R_reads' HO341.out).2.2 | (with_reducible refine Kd.C_alloc ?_ _) | (with_reducible refine Kd.C_drewN ?_ _) | (with_reducible refine Kd.C_drew ?_))); (case side2 => exact (Kd.R_reads' HO341.out).2.1); (case side3 => repeat (first | exact (Kd.R_reads' HO308.out).2.2 | (with_reducible refine Kd.C_alloc ?_ _) | (with_reducible refine Kd.C_drewN ?_ _) | (with_reducible refine Kd.C_drew ?_))); (case side4 => exact (Kd.R_reads' HO308.out).2.1); rintro e w70 ⟨rfl, hb⟩; refine ⟨_, rfl, ?_⟩; replace HO300 := Aside0.mk (Kd.R_below (rp_ HO300.out) hb); replace HO308 := Aside0.mk (Kd.R_below (rp_ HO308.out) hb); replace HO311 := Aside0.mk (Kd.R_below (rp_ HO311.out) hb); replace HO319 := Aside0.mk (Kd.R_below (rp_ HO319.out) hb); replace HO323 := Aside0.mk (Kd.R_below (rp_ HO323.out) hb); replace HO333 := Aside0.mk (Kd.R_below (rp_ HO333.out) hb); replace HO341 := Aside0.mk (Kd.R_below (rp_ HO341.out) hb); replace HB := Aside0.mk (below_step (bel_) hb); replace BK295 := Aside0.mk (blk_below (g := gb295) (o := .cells #[.int .i64 a1_0, .int .i64 a1_1, .int .i64 a1_2, .int .i64 a1_3, .string a1_4] 24 (0, 0)) (bp_ BK295.out) hb); (try clear hb); (try clear hb2); (try clear hk); (try clear hi)) | ((with_reducible refine gate_callee (f := 23) rfl ?_); refine goesL_ (some 76) rfl rfl Tryd.func23 (by kernel_rfl) rfl #[.slice Ao54 t329.length co54, .int .i64 1] rfl (by (try simp only [List.map_toArray, List.map_cons, List.map_nil]); first | done | (rw [show t329.length = t317.length from (Kd.R_reads' HO319.out).1.symm] <;> rfl) | rfl | (simp only [List.length_drop, List.length_take]; rfl)) ?_; (with_reducible refine (laws_heldRowS.calls k _ _ t329 1 t343 _ ?side1 ?side2 A37.out).mono ?_); (case side1 => repeat (first | exact (Kd.R_reads' HO319.out).2.2 | (with_reducible refine Kd.C_alloc ?_ _) | (with_reducible refine Kd.C_drewN ?_ _) | (with_reducible refine Kd.C_drew ?_))); (case side2 => rw [show t329.length = t317.length from (Kd.R_reads' HO319.out).1.symm]; exact (Kd.R_reads' HO319.out).2.1); rintro e w71 ⟨rfl, hb⟩; refine ⟨_, rfl, ?_⟩; replace HO300 := Aside0.mk (Kd.R_below (rp_ HO300.out) hb); replace HO308 := Aside0.mk (Kd.R_below (rp_ HO308.out) hb); replace HO311 := Aside0.mk (Kd.R_below (rp_ HO311.out) hb); replace HO319 := Aside0.mk (Kd.R_below (rp_ HO319.out) hb); replace HO323 := Aside0.mk (Kd.R_below (rp_ HO323.out) hb); replace HO333 := Aside0.mk (Kd.R_below (rp_ HO333.out) hb); replace HO341 := Aside0.mk (Kd.R_below (rp_ HO341.out) hb); replace HB := Aside0.mk (below_step (bel_) hb); replace BK295 := Aside0.mk (blk_below (g := gb295) (o := .cells #[.int .i64 a1_0, .int .i64 a1_1, .int .i64 a1_2, .int .i64 a1_3, .string a1_4] 24 (0, 0)) (bp_ BK295.out) hb); (try clear hb); (try clear hb2); (try clear hk); (try clear hi)))
            go_ret
            exact ⟨fi_, bel_⟩
           ·rw [if_neg c39] at H
            exact absurd H (by simp)
         ·replace c36 := Bool.eq_false_iff.mpr c36
          subst c36
          have H1 : (none) = some r := by rw [if_neg (show ¬ (false = true) by decide)] at H; exact H
          clear H
          have H := H1
          clear H1
          exact absurd H (by simp)
        ·rw [if_neg c31] at H
         exact absurd H (by simp)
      ·replace c27 := Bool.eq_false_iff.mpr c27
       subst c27
       have H1 : (none) = some r := by rw [if_neg (show ¬ (false = true) by decide)] at H; exact H
       clear H
       have H := H1
       clear H1
       exact absurd H (by simp)
    ·replace c23 := Bool.eq_false_iff.mpr c23
     subst c23
     have H1 : (none) = some r := by rw [if_neg (show ¬ (false = true) by decide)] at H; exact H
     clear H
     have H := H1
     clear H1
     exact absurd H (by simp)
   ·replace c20 := Bool.eq_false_iff.mpr c20
    subst c20
    have H1 : (none) = some r := by rw [if_neg (show ¬ (false = true) by decide)] at H; exact H
    clear H
    have H := H1
    clear H1
    exact absurd H (by simp)

end Go.Proofs.YtkopimbbgckcnaaDoor.P
set_option linter.unusedVariables false
set_option linter.unusedSimpArgs false
namespace Go.Proofs.YtkopimbbgckcnaaDoor.PL
open Go.RowKit Go.Proofs.YtkopimbbgckcnaaDoor.P Go.Proofs.YtkopimbbgckcnaaDoorW.PrintWords Go.Proofs.YtkopimbbgckcnaaDoorW.PrintLast
theorem one_size (xs : List Int) : (strOfNums xs).size = xs.length := by simp [strOfNums, ByteArray.size]
theorem mtl_ex (m : Nat) : ∀ (x : Int) (s : ByteArray), x < 10 ^ m → x ≤ 9223372036854775807 → s.size + m + 1 ≤ 9223372036854775807 → ∃ r, Ev (fun k => laws_markText.l0 k x s) r := by
  induction m with
  | zero =>
    intro x s hx _ hs
    refine ⟨_, Ev.step (f := fun _ => some ((⟨#[109]⟩ : ByteArray) ++ s)) (fun k => ?_) (evnow _)⟩
    simp only [laws_markText.l0]
    rw [if_neg (by simp at hx; omega), if_pos (by omega)]
  | succ m ih =>
    intro x s hx hb hs
    by_cases h0 : x > 0
    · have e : Int.tdiv x 10 = x / 10 := Int.tdiv_eq_ediv_of_nonneg (by omega)
      have e2 : wrap64 (Int.tdiv x 10) = x / 10 := by rw [e]; unfold wrap64; omega
      have e3 : (10 : Int) ^ (m + 1) = 10 ^ m * 10 := Int.pow_succ 10 m
      obtain ⟨r, hr⟩ := ih (wrap64 (Int.tdiv x 10)) ((strOfNums [(wrap64 (48 + (Int.tmod x 10))) % 256]) ++ s) (by rw [e2]; omega) (by rw [e2]; omega) (by rw [ByteArray.size_append, one_size]; simp; omega)
      refine ⟨r, Ev.step (fun k => ?_) hr⟩
      simp only [laws_markText.l0, Option.bind_some]
      rw [if_pos h0, if_pos (by rw [one_size]; simp; omega)]
    · refine ⟨_, Ev.step (f := fun _ => some ((⟨#[109]⟩ : ByteArray) ++ s)) (fun k => ?_) (evnow _)⟩
      simp only [laws_markText.l0]
      rw [if_neg h0, if_pos (by omega)]
theorem mt_ex (x : Int) (h : x ≤ 4611686018427387904) : ∃ r, Ev (fun k => laws_markText.f k x) r := by
  by_cases h0 : x ≤ 0
  · exact ⟨(⟨#[109, 48]⟩ : ByteArray), Ev.congr (f := fun _ => some (⟨#[109, 48]⟩ : ByteArray)) (fun k => by simp only [laws_markText.f]; rw [if_pos h0]) (evnow _)⟩
  · obtain ⟨r, hr⟩ := mtl_ex 19 x ⟨#[]⟩ (by omega) (by omega) (by decide)
    exact ⟨r, Ev.congr (fun k => by simp only [laws_markText.f]; rw [if_neg h0]) hr⟩
open Classical in
/-- The text of a number. -/
noncomputable def mt (x : Int) : ByteArray := if h : x ≤ 4611686018427387904 then (mt_ex x h).choose else ⟨#[]⟩
theorem mt_ev (x : Int) (h : x ≤ 4611686018427387904) : Ev (fun k => laws_markText.f k x) (mt x) := by
  unfold mt
  rw [dif_pos h]
  exact (mt_ex x h).choose_spec

theorem take_set_next {α : Type} (x : List α) (i : Int) (v : α) (h0 : 0 ≤ i) (h : i < x.length) : (x.set i.toNat v).take (i + 1).toNat = x.take i.toNat ++ [v] := by
  have e : (i + 1).toNat = i.toNat + 1 := by omega
  have hl : i.toNat < (x.set i.toNat v).length := by rw [List.length_set]; omega
  rw [e, List.take_succ_eq_append_getElem hl, List.getElem_set_self]
  congr 1
  rw [List.take_set_of_le (Nat.le_refl _)]
theorem set_set_ {α : Type} (x : List α) (i : Nat) (v u : α) : (x.set i v).set i u = x.set i u := by rw [List.set_set]
end Go.Proofs.YtkopimbbgckcnaaDoor.PL
set_option linter.unusedVariables false
set_option linter.unusedSimpArgs false
namespace Go.Proofs.YtkopimbbgckcnaaDoor.FP
open Go.Proofs.YtkopimbbgckcnaaDoor.P
/-- How deep x stands. -/
def dep (x : Nat) (d : Nat) : Fo → Nat
  | .nil => d
  | .nd j _ k n => if j = x then d else if x ∈ k.ids then dep x (d + 1) k else dep x d n
theorem setF_id (x : Nat) (t : ByteArray) : ∀ {F : Fo}, x ∉ F.ids → setF x t F = F
  | .nil, _ => rfl
  | .nd j u k n, h => by
    simp only [Fo.ids, List.mem_cons, List.mem_append, not_or] at h
    rw [setF, if_neg (fun e => h.1 e.symm), setF_id x t h.2.1, setF_id x t h.2.2]
theorem fl_ids : ∀ (F : Fo) (d : Nat) {r : S43}, r ∈ F.fl d → ∃ i ∈ F.ids, r.f0 = (i : Int)
  | .nil, d, r, h => by simp [Fo.fl] at h
  | .nd j t k n, d, r, h => by
    simp only [Fo.fl, List.mem_cons, List.mem_append] at h
    rcases h with rfl | h | h
    · exact ⟨j, by simp [Fo.ids], rfl⟩
    · obtain ⟨i, hi, e⟩ := fl_ids k (d + 1) h; exact ⟨i, by simp [Fo.ids, hi], e⟩
    · obtain ⟨i, hi, e⟩ := fl_ids n d h; exact ⟨i, by simp [Fo.ids, hi], e⟩
theorem fl_map : ∀ (F : Fo) (d : Nat), (F.fl d).map (·.f0) = F.ids.map Int.ofNat
  | .nil, d => rfl
  | .nd j t k n, d => by simp [Fo.fl, Fo.ids, fl_map k, fl_map n]
theorem fl_len (F : Fo) (d : Nat) : (F.fl d).length = F.ids.length := by
  have := congrArg List.length (fl_map F d)
  simpa using this
/-- The rows around x. -/
structure Spot (x d : Nat) (G : Fo) (pre post : List S43) : Prop where
  all : G.fl d = pre ++ (⟨(x : Int), (dep x d G : Int), txtF x G⟩ :: ((sub x G).fl (dep x d G + 1) ++ post))
  out : ∀ r ∈ pre, r.f0 ≠ (x : Int)
  high : post = [] ∨ ∃ r rest, post = r :: rest ∧ r.f1 ≤ (dep x d G : Int)
  ge : d ≤ dep x d G
  del : (del x G).fl d = pre ++ post
  first : ∀ i t s, (insFirst x i t s G).fl d = pre ++ (⟨(x : Int), (dep x d G : Int), txtF x G⟩ :: (⟨(i : Int), ((dep x d G + 1 : Nat) : Int), t⟩ :: (s.fl (dep x d G + 2) ++ ((sub x G).fl (dep x d G + 1) ++ post))))
  after : ∀ i t s, (insAfter x i t s G).fl d = pre ++ (⟨(x : Int), (dep x d G : Int), txtF x G⟩ :: ((sub x G).fl (dep x d G + 1) ++ (⟨(i : Int), (dep x d G : Int), t⟩ :: (s.fl (dep x d G + 1) ++ post))))
  text : ∀ t', (setF x t' G).fl d = pre ++ (⟨(x : Int), (dep x d G : Int), t'⟩ :: ((sub x G).fl (dep x d G + 1) ++ post))
theorem spot (x : Nat) : ∀ (G : Fo) (d : Nat), G.ids.Nodup → x ∈ G.ids → ∃ pre post, Spot x d G pre post
  | .nil, d, _, hx => by simp [Fo.ids] at hx
  | .nd j u k n, d, hn, hx => by
    obtain ⟨n1, n2, n3, n4, n5⟩ := nodup_nd hn
    simp only [Fo.ids, List.mem_cons, List.mem_append] at hx
    by_cases e : j = x
    · subst e
      refine ⟨[], n.fl d, ?_, by simp, ?_, ?_, ?_, fun i t s => ?_, fun i t s => ?_, fun t' => ?_⟩
      · simp [Fo.fl, dep, txtF, sub]
      · rcases fl_head n d with h | ⟨r, rest, h, h2⟩
        · exact Or.inl h
        · refine Or.inr ⟨r, rest, h, ?_⟩; simp [dep, h2]
      · simp [dep]
      · simp [FP.del]
      · simp [insFirst, Fo.fl, dep, txtF, sub]
      · simp [insAfter, Fo.fl, dep, txtF, sub]
      · simp [setF, Fo.fl, dep, sub, setF_id j t' n1, setF_id j t' n2]
    · have e' : x ≠ j := fun g => e g.symm
      by_cases hk : x ∈ k.ids
      · have hxn : x ∉ n.ids := n5 x hk
        obtain ⟨pre, post, s⟩ := spot x k (d + 1) n3 hk
        have hd : dep x d (.nd j u k n) = dep x (d + 1) k := by rw [dep, if_neg e, if_pos hk]
        have ht : txtF x (.nd j u k n) = txtF x k := by rw [txtF, if_neg e, if_pos hk]
        have hs : sub x (.nd j u k n) = sub x k := by rw [sub, if_neg e, if_pos hk]
        refine ⟨⟨(j : Int), (d : Int), u⟩ :: pre, post ++ n.fl d, ?_, ?_, ?_, ?_, ?_, fun i t s' => ?_, fun i t s' => ?_, fun t' => ?_⟩
        · rw [hd, ht, hs, Fo.fl, s.all]; simp
        · intro r hr
          rcases List.mem_cons.1 hr with rfl | hr
          · show (j : Int) ≠ (x : Int); omega
          · exact s.out r hr
        · rw [hd]
          have hge := s.ge
          rcases s.high with h | ⟨r, rest, h, h2⟩
          · rw [h, List.nil_append]
            rcases fl_head n d with h | ⟨r, rest, h, h2⟩
            · exact Or.inl h
            · exact Or.inr ⟨r, rest, h, by omega⟩
          · exact Or.inr ⟨r, rest ++ n.fl d, by rw [h]; rfl, h2⟩
        · rw [hd]; have := s.ge; omega
        · rw [FP.del, if_neg e, Fo.fl, s.del, del_id x hxn]; simp
        · rw [hd, ht, hs, insFirst, if_neg e, Fo.fl, s.first, insFirst_id x i t s' hxn]; simp
        · rw [hd, ht, hs, insAfter, if_neg e, Fo.fl, s.after, insAfter_id x i t s' hxn]; simp
        · rw [hd, hs, setF, if_neg e, Fo.fl, s.text, setF_id x t' hxn]; simp
      · have hxn : x ∈ n.ids := by rcases hx with g | g | g; exact absurd g e'; exact absurd g hk; exact g
        obtain ⟨pre, post, s⟩ := spot x n d n4 hxn
        have hd : dep x d (.nd j u k n) = dep x d n := by rw [dep, if_neg e, if_neg hk]
        have ht : txtF x (.nd j u k n) = txtF x n := by rw [txtF, if_neg e, if_neg hk]
        have hs : sub x (.nd j u k n) = sub x n := by rw [sub, if_neg e, if_neg hk]
        refine ⟨⟨(j : Int), (d : Int), u⟩ :: (k.fl (d + 1) ++ pre), post, ?_, ?_, ?_, ?_, ?_, fun i t s' => ?_, fun i t s' => ?_, fun t' => ?_⟩
        · rw [hd, ht, hs, Fo.fl, s.all]; simp
        · intro r hr
          rcases List.mem_cons.1 hr with rfl | hr
          · show (j : Int) ≠ (x : Int); omega
          · rcases List.mem_append.1 hr with hr | hr
            · obtain ⟨i, hi, e2⟩ := fl_ids k (d + 1) hr
              rw [e2]
              intro e3
              exact hk ((show i = x by omega) ▸ hi)
            · exact s.out r hr
        · rw [hd]; exact s.high
        · rw [hd]; exact s.ge
        · rw [FP.del, if_neg e, Fo.fl, s.del, del_id x hk]; simp
        · rw [hd, ht, hs, insFirst, if_neg e, Fo.fl, s.first, insFirst_id x i t s' hk]; simp
        · rw [hd, ht, hs, insAfter, if_neg e, Fo.fl, s.after, insAfter_id x i t s' hk]; simp
        · rw [hd, hs, setF, if_neg e, Fo.fl, s.text, setF_id x t' hk]; simp
/-- One deeper than the row under which it stands. -/
theorem dep_par (x : Nat) : ∀ (G : Fo) (d up : Nat), G.ids.Nodup → x ∈ G.ids → (x ∈ G.tops ∧ dep x d G = d ∧ par x up G = up) ∨ (par x up G ∈ G.ids ∧ dep x d G = dep (par x up G) d G + 1)
  | .nil, d, up, _, hx => by simp [Fo.ids] at hx
  | .nd j u k n, d, up, hn, hx => by
    obtain ⟨n1, n2, n3, n4, n5⟩ := nodup_nd hn
    simp only [Fo.ids, List.mem_cons, List.mem_append] at hx
    by_cases e : j = x
    · left
      exact ⟨by simp [Fo.tops, e], by rw [dep, if_pos e], by rw [par, if_pos e]⟩
    · by_cases hk : x ∈ k.ids
      · right
        have hp : par x up (.nd j u k n) = par x j k := by rw [par, if_neg e, if_pos hk]
        have hd : dep x d (.nd j u k n) = dep x (d + 1) k := by rw [dep, if_neg e, if_pos hk]
        rw [hp, hd]
        rcases dep_par x k (d + 1) j n3 hk with ⟨_, h2, h3⟩ | ⟨h2, h3⟩
        · rw [h3, h2]
          refine ⟨by simp [Fo.ids], ?_⟩
          rw [dep, if_pos rfl]
        · refine ⟨by simp [Fo.ids, h2], ?_⟩
          rw [h3, dep, if_neg (fun (g : j = par x j k) => n1 (by rw [g]; exact h2)), if_pos h2]
      · have hxn : x ∈ n.ids := by rcases hx with g | g | g; exact absurd g.symm e; exact absurd g hk; exact g
        have hp : par x up (.nd j u k n) = par x up n := by rw [par, if_neg e, if_neg hk]
        have hd : dep x d (.nd j u k n) = dep x d n := by rw [dep, if_neg e, if_neg hk]
        rw [hp, hd]
        rcases dep_par x n d up n4 hxn with ⟨h1, h2, h3⟩ | ⟨h2, h3⟩
        · exact Or.inl ⟨by simp [Fo.tops, h1], h2, h3⟩
        · refine Or.inr ⟨by simp [Fo.ids, h2], ?_⟩
          rw [h3, dep, if_neg (fun (g : j = par x up n) => n2 (by rw [g]; exact h2)), if_neg (fun g => n5 _ g h2)]
theorem del_ids_sub (i : Nat) : ∀ {F : Fo} {y : Nat}, y ∈ (del i F).ids → y ∈ F.ids
  | .nil, y, h => h
  | .nd j t k n, y, h => by
    rw [FP.del] at h
    split at h
    · simp [Fo.ids, h]
    · simp only [Fo.ids, List.mem_cons, List.mem_append] at h ⊢
      exact h.imp id (Or.imp (del_ids_sub i) (del_ids_sub i))
theorem par_del (i a : Nat) : ∀ (G : Fo) (up : Nat), G.ids.Nodup → a ∈ (del i G).ids → par a up (del i G) = par a up G
  | .nil, up, _, h => rfl
  | .nd j u k n, up, hn, h => by
    obtain ⟨n1, n2, n3, n4, n5⟩ := nodup_nd hn
    rw [FP.del] at h ⊢
    by_cases e : j = i
    · rw [if_pos e] at h ⊢
      rw [par, if_neg (fun (g : j = a) => n2 (by rw [g]; exact h)), if_neg (fun g => n5 a g h)]
    · rw [if_neg e] at h ⊢
      simp only [Fo.ids, List.mem_cons, List.mem_append] at h
      rw [par, par]
      by_cases e2 : j = a
      · rw [if_pos e2, if_pos e2]
      · rw [if_neg e2, if_neg e2]
        by_cases hk : a ∈ (FP.del i k).ids
        · rw [if_pos hk, if_pos (del_ids_sub i hk)]; exact par_del i a k j n3 hk
        · have hn' : a ∈ (FP.del i n).ids := by rcases h with g | g | g; exact absurd g.symm e2; exact absurd g hk; exact g
          rw [if_neg hk, if_neg (fun g => n5 a g (del_ids_sub i hn'))]; exact par_del i a n up n4 hn'
theorem rep_ex : ∀ (G : Fo) (up : Nat), G.ids.Nodup → (∀ x ∈ G.ids, x ≠ 0) → ∃ h, Rep h up G
  | .nil, up, _, _ => ⟨fun _ => ⟨ByteArray.empty, 0, 0, 0⟩, trivial⟩
  | .nd j u k n, up, hn, h0 => by
    obtain ⟨n1, n2, n3, n4, n5⟩ := nodup_nd hn
    obtain ⟨hk, rk⟩ := rep_ex k j n3 fun x hx => h0 x (by simp [Fo.ids, hx])
    obtain ⟨hm, rm⟩ := rep_ex n up n4 fun x hx => h0 x (by simp [Fo.ids, hx])
    refine ⟨fun x => if x = j then ⟨u, up, k.hd, n.hd⟩ else if x ∈ k.ids then hk x else hm x, h0 j (by simp [Fo.ids]), if_pos rfl, rk.ext fun x hx => ?_, rm.ext fun x hx => ?_⟩
    · rw [if_neg (fun (e : x = j) => n1 (e ▸ hx)), if_pos hx]
    · rw [if_neg (fun (e : x = j) => n2 (e ▸ hx)), if_neg (fun g => n5 x g hx)]
theorem reptop_ex : ∀ (G : Fo), G.ids.Nodup → (∀ x ∈ G.ids, x ≠ 0) → ∃ h, RepTop h G
  | .nil, _, _ => ⟨fun _ => ⟨ByteArray.empty, 0, 0, 0⟩, trivial⟩
  | .nd j u k n, hn, h0 => by
    obtain ⟨n1, n2, n3, n4, n5⟩ := nodup_nd hn
    obtain ⟨hk, rk⟩ := rep_ex k j n3 fun x hx => h0 x (by simp [Fo.ids, hx])
    obtain ⟨hm, rm⟩ := reptop_ex n n4 fun x hx => h0 x (by simp [Fo.ids, hx])
    refine ⟨fun x => if x = j then ⟨u, 0, k.hd, 0⟩ else if x ∈ k.ids then hk x else hm x, h0 j (by simp [Fo.ids]), if_pos rfl, rk.ext fun x hx => ?_, rm.ext fun x hx => ?_⟩
    · rw [if_neg (fun (e : x = j) => n1 (e ▸ hx)), if_pos hx]
    · rw [if_neg (fun (e : x = j) => n2 (e ▸ hx)), if_neg (fun g => n5 x g hx)]
/-- The rows right under u. -/
theorem kids_par {G : Fo} (hn : G.ids.Nodup) (h0 : ∀ x ∈ G.ids, x ≠ 0) {u x : Nat} (hu : u ∈ G.ids) : x ∈ (sub u G).tops ↔ x ∈ G.ids ∧ par x 0 G = u := by
  obtain ⟨h, hr⟩ := reptop_ex G hn h0
  obtain ⟨r1, _⟩ := reptop_sub hr hn hu
  constructor
  · intro hx
    have hxs := tops_ids hx
    have hxG := sub_ids u hxs
    refine ⟨hxG, ?_⟩
    rw [← reptop_par hr hn hxG]
    rcases rep_at r1 (sub_nodup u hn) hxs with ⟨_, g⟩ | ⟨g, _⟩
    · exact g
    · exact absurd hx g
  · rintro ⟨hxG, hp⟩
    have ht := par_top h hr hn hxG (by rw [hp]; exact h0 u hu)
    have := (sibT_pv hr hn hxG ht).2
    rwa [reptop_par hr hn hxG, hp] at this
end Go.Proofs.YtkopimbbgckcnaaDoor.FP
set_option linter.unusedVariables false
set_option linter.unusedSimpArgs false
namespace Go.Proofs.YtkopimbbgckcnaaDoor.PL
open Go.RowKit Go.Proofs.YtkopimbbgckcnaaDoor.P Go.Proofs.YtkopimbbgckcnaaDoorW.PrintWords Go.Proofs.YtkopimbbgckcnaaDoorW.PrintLast
theorem wrap_id (x : Int) (h0 : -9223372036854775808 ≤ x) (h1 : x ≤ 9223372036854775807) : wrap64 x = x := by unfold wrap64; omega
end Go.Proofs.YtkopimbbgckcnaaDoor.PL
set_option linter.unusedVariables false
set_option linter.unusedSimpArgs false
namespace Go.Proofs.YtkopimbbgckcnaaDoor.PL
open Go.RowKit Go.Proofs.YtkopimbbgckcnaaDoor.P Go.Proofs.YtkopimbbgckcnaaDoorW.PrintWords Go.Proofs.YtkopimbbgckcnaaDoorW.PrintLast
theorem rdR_get (t : List S43) (i : Nat) (h : i < t.length) : rd_T43 t i = t[i] := by
  unfold rd_T43
  rw [List.getD_eq_getElem?_getD, show ((i : Int)).toNat = i from rfl, List.getElem?_eq_getElem h]
  rfl
def atFrom (id : Int) : List S43 → Nat → Int
  | [], _ => -1
  | r :: rest, i => if r.f0 = id then (i : Int) else atFrom id rest (i + 1)
def atI (t : List S43) (id : Int) : Int := atFrom id t 0
theorem at_l0 (t : List S43) (id : Int) (hl : t.length ≤ 1099511627776) : ∀ (n i : Nat), i + n = t.length → Ev (fun k => spec_l2At.l0 k t id i) (atFrom id (t.drop i) i)
  | 0, i, h => by
    rw [List.drop_eq_nil_of_le (by omega)]
    refine Ev.step (f := fun _ => some (-1)) (fun k => ?_) (evnow _)
    simp only [spec_l2At.l0]; rw [if_neg (by omega)]
  | n + 1, i, h => by
    have hi : i < t.length := by omega
    rw [List.drop_eq_getElem_cons hi]
    unfold atFrom
    by_cases hq : t[i].f0 = id
    · rw [if_pos hq]
      refine Ev.step (f := fun _ => some (i : Int)) (fun k => ?_) (evnow _)
      simp only [spec_l2At.l0]
      rw [if_pos (by omega), if_pos (by omega), rdR_get t i hi, if_pos hq]
    · rw [if_neg hq]
      refine Ev.step (fun k => ?_) (at_l0 t id hl n (i + 1) (by omega))
      simp only [spec_l2At.l0]
      rw [if_pos (by omega), if_pos (by omega), rdR_get t i hi, if_neg hq, wrapS i (by omega) (by omega)]
      rfl
theorem at_f (t : List S43) (id : Int) (hl : t.length ≤ 1099511627776) : Ev (fun k => spec_l2At.f k t id) (atI t id) := at_l0 t id hl t.length 0 (by omega)
theorem atFrom_spec (id : Int) : ∀ (t : List S43) (i : Nat), (atFrom id t i = -1 ∧ ∀ x ∈ t, x.f0 ≠ id) ∨ ∃ (j : Nat) (h : j < t.length), atFrom id t i = ((i + j : Nat) : Int) ∧ t[j].f0 = id
  | [], i => Or.inl ⟨rfl, fun x hx => by cases hx⟩
  | r :: rest, i => by
    unfold atFrom
    by_cases hq : r.f0 = id
    · rw [if_pos hq]
      exact Or.inr ⟨0, by simp, by simp, hq⟩
    · rw [if_neg hq]
      rcases atFrom_spec id rest (i + 1) with ⟨h1, h2⟩ | ⟨j, h, h1, h2⟩
      · refine Or.inl ⟨h1, fun x hx => ?_⟩
        rcases List.mem_cons.1 hx with rfl | hx
        · exact hq
        · exact h2 x hx
      · exact Or.inr ⟨j + 1, by simp; omega, by rw [h1]; congr 1; omega, by simpa using h2⟩
theorem atI_spec (t : List S43) (id : Int) : (atI t id = -1 ∧ ∀ x ∈ t, x.f0 ≠ id) ∨ ∃ (j : Nat) (h : j < t.length), atI t id = (j : Int) ∧ t[j].f0 = id := by
  rcases atFrom_spec id t 0 with h | ⟨j, h, h1, h2⟩
  · exact Or.inl h
  · exact Or.inr ⟨j, h, by rw [atI, h1]; congr 1; omega, h2⟩
def endFrom (d : Int) : List S43 → Nat → Nat
  | [], e => e
  | r :: rest, e => if r.f1 > d then endFrom d rest (e + 1) else e
def endI (t : List S43) (i : Nat) : Nat := endFrom (t.getD i z43).f1 (t.drop (i + 1)) (i + 1)
theorem getD_get (t : List S43) (i : Nat) (h : i < t.length) : t.getD i z43 = t[i] := by
  rw [List.getD_eq_getElem?_getD, List.getElem?_eq_getElem h]
  rfl
theorem end_l0 (t : List S43) (a : Nat) (ha : a < t.length) (hl : t.length ≤ 1099511627776) : ∀ (n i : Nat), i + n = t.length → Ev (fun k => spec_l2End.l0 k t a i) (endFrom t[a].f1 (t.drop i) i : Int)
  | 0, i, h => by
    rw [List.drop_eq_nil_of_le (by omega)]
    refine Ev.step (f := fun _ => some (i : Int)) (fun k => ?_) (evnow _)
    simp only [spec_l2End.l0]; rw [if_neg (by omega)]
  | n + 1, i, h => by
    have hi : i < t.length := by omega
    rw [List.drop_eq_getElem_cons hi]
    unfold endFrom
    by_cases hq : t[i].f1 > t[a].f1
    · rw [if_pos hq]
      refine Ev.step (fun k => ?_) (end_l0 t a ha hl n (i + 1) (by omega))
      simp only [spec_l2End.l0]
      rw [if_pos (by omega), if_pos (by omega), if_pos (by omega), if_pos (by omega), rdR_get t i hi, rdR_get t a ha, if_pos hq, wrapS i (by omega) (by omega)]
      rfl
    · rw [if_neg hq]
      refine Ev.step (f := fun _ => some (i : Int)) (fun k => ?_) (evnow _)
      simp only [spec_l2End.l0]
      rw [if_pos (by omega), if_pos (by omega), if_pos (by omega), if_pos (by omega), rdR_get t i hi, rdR_get t a ha, if_neg hq]
theorem end_f (t : List S43) (a : Nat) (ha : a < t.length) (hl : t.length ≤ 1099511627776) : Ev (fun k => spec_l2End.f k t a) (endI t a : Int) := by
  have := end_l0 t a ha hl (t.length - (a + 1)) (a + 1) (by omega)
  unfold endI
  rw [getD_get t a ha]
  refine Ev.congr (fun k => ?_) this
  unfold spec_l2End.f
  rw [wrapS a (by omega) (by omega)]
  rfl
theorem endFrom_spec (d : Int) : ∀ (t : List S43) (e : Nat), e ≤ endFrom d t e ∧ endFrom d t e ≤ e + t.length ∧ (∀ (j : Nat) (hj : j < t.length), e + j < endFrom d t e → d < t[j].f1) ∧ (∀ (hj : endFrom d t e - e < t.length), t[endFrom d t e - e].f1 ≤ d)
  | [], e => ⟨Nat.le_refl _, by simp [endFrom], fun j hj => by simp at hj, fun hj => by simp at hj⟩
  | r :: rest, e => by
    by_cases hq : r.f1 > d
    · have he : endFrom d (r :: rest) e = endFrom d rest (e + 1) := if_pos hq
      obtain ⟨h1, h2, h3, h4⟩ := endFrom_spec d rest (e + 1)
      refine ⟨by rw [he]; omega, by rw [he]; simp; omega, fun j hj hlt => ?_, fun hj => ?_⟩
      · rw [he] at hlt
        cases j with
        | zero => exact hq
        | succ j => exact h3 j (by simpa using hj) (by omega)
      · have e1 : endFrom d (r :: rest) e - e = (endFrom d rest (e + 1) - (e + 1)) + 1 := by rw [he]; omega
        have hj' : endFrom d rest (e + 1) - (e + 1) < rest.length := by rw [e1] at hj; simpa using hj
        have := h4 hj'
        simp only [e1, List.getElem_cons_succ]
        exact this
    · have he : endFrom d (r :: rest) e = e := if_neg hq
      refine ⟨by rw [he]; exact Nat.le_refl _, by rw [he]; omega, fun j hj hlt => by rw [he] at hlt; omega, fun hj => ?_⟩
      have e1 : endFrom d (r :: rest) e - e = 0 := by rw [he]; omega
      simp only [e1, List.getElem_cons_zero]
      omega
/-- The end of what is under row a: behind it, at most the end; all between stand deeper; the row there (if any) does not. -/
theorem endI_spec (t : List S43) (a : Nat) (ha : a < t.length) : a < endI t a ∧ endI t a ≤ t.length ∧ (∀ (j : Nat) (hj : j < t.length), a < j → j < endI t a → t[a].f1 < t[j].f1) ∧ (∀ (hj : endI t a < t.length), t[endI t a].f1 ≤ t[a].f1) := by
  unfold endI
  rw [getD_get t a ha]
  obtain ⟨h1, h2, h3, h4⟩ := endFrom_spec t[a].f1 (t.drop (a + 1)) (a + 1)
  rw [List.length_drop] at h2
  refine ⟨by omega, by omega, fun j hj h5 h6 => ?_, fun hj => ?_⟩
  · have := h3 (j - (a + 1)) (by rw [List.length_drop]; omega) (by omega)
    rw [List.getElem_drop] at this
    simpa [show a + 1 + (j - (a + 1)) = j by omega] using this
  · have := h4 (by rw [List.length_drop]; omega)
    rw [List.getElem_drop] at this
    simpa [show a + 1 + (endFrom t[a].f1 (t.drop (a + 1)) (a + 1) - (a + 1)) = endFrom t[a].f1 (t.drop (a + 1)) (a + 1) by omega] using this
end Go.Proofs.YtkopimbbgckcnaaDoor.PL
set_option linter.unusedVariables false
set_option linter.unusedSimpArgs false
namespace Go.Proofs.YtkopimbbgckcnaaDoor.PL
open Go.RowKit Go.Proofs.YtkopimbbgckcnaaDoor.P Go.Proofs.YtkopimbbgckcnaaDoorW.PrintWords Go.Proofs.YtkopimbbgckcnaaDoorW.PrintLast
def shift (d : Int) (r : S43) : S43 := ⟨r.f0, wrap64 (r.f1 + d), r.f2⟩
theorem put_l0 (t rows : List S43) (d : Int) (p : Nat) (hp : p ≤ t.length) (hl : t.length ≤ 1000000) (hr : rows.length ≤ 1000000) : ∀ (n i : Nat) (acc : List S43), i + n = rows.length → acc.length + n ≤ 3000000 →
    Ev (fun k => spec_l3Put.l0 k t rows d p acc i) (acc ++ (rows.drop i).map (shift d) ++ t.drop p)
  | 0, i, acc, h, ha => by
    rw [List.drop_eq_nil_of_le (show rows.length ≤ i by omega), List.map_nil, List.append_nil]
    refine Ev.step (fun k => by simp only [spec_l3Put.l0]; rfl) ?_
    refine ev_neg (by omega) (ev_pos (by omega) (ev_pos (by omega) ?_))
    simp only [Option.bind_some]
    refine ev_pos (by rw [List.length_drop]; omega) ?_
    exact evnow _
  | n + 1, i, acc, h, ha => by
    have hi : i < rows.length := by omega
    rw [List.drop_eq_getElem_cons hi, List.map_cons]
    have ih := put_l0 t rows d p hp hl hr n (i + 1) (acc ++ [shift d rows[i]]) (by omega) (by simp; omega)
    rw [List.append_assoc acc] at ih
    refine Ev.step (fun k => by simp only [spec_l3Put.l0]; rfl) ?_
    refine ev_pos (by omega) (ev_pos (by omega) (ev_pos (by omega) ?_))
    rw [rdR_get rows i hi, wrapS i (by omega) (by omega)]
    exact ih
theorem under_f (t : List S43) (u id : Int) (k : Nat) (hk : k < t.length) (hi : atI t id = (k : Int)) (hl : t.length ≤ 1000000) :
    Ev (fun n => spec_l2Under.f n t u id) (decide (0 ≤ atI t u) && (decide ((k : Int) ≤ atI t u) && decide (atI t u ≤ (endI t k : Int) - 1))) := by
  obtain ⟨e1, e2, _, _⟩ := endI_spec t k hk
  unfold spec_l2Under.f
  refine Ev.bind (at_f t u (by omega)) ?_
  refine Ev.bind (at_f t id (by omega)) ?_
  rw [hi]
  by_cases h : atI t u ≥ 0
  · refine ev_pos h (ev_pos (by omega) ?_)
    refine Ev.bind (end_f t k hk (by omega)) ?_
    have hw : wrap64 ((endI t k : Int) - 1) = (endI t k : Int) - 1 := by unfold wrap64; omega
    rw [hw, in_f, decide_eq_true (show 0 ≤ atI t u from h), Bool.true_and]
    simp only [Option.bind_some]
    exact evnow _
  · rw [decide_eq_false (show ¬ 0 ≤ atI t u from h), Bool.false_and]
    exact ev_neg h (evnow _)
end Go.Proofs.YtkopimbbgckcnaaDoor.PL
set_option linter.unusedVariables false
set_option linter.unusedSimpArgs false
namespace Go.Proofs.YtkopimbbgckcnaaDoor.PL
open Go.RowKit Go.Proofs.YtkopimbbgckcnaaDoor.P Go.Proofs.YtkopimbbgckcnaaDoorW.PrintWords Go.Proofs.YtkopimbbgckcnaaDoorW.PrintLast Go.Proofs.YtkopimbbgckcnaaDoor.FP
structure Good (G : Fo) : Prop where
  nd : G.ids.Nodup
  ne0 : ∀ x ∈ G.ids, x ≠ 0
  tops : G.tops = [1, 2, 3]
  len : G.ids.length ≤ 1000
theorem Good.three {G : Fo} (g : Good G) : 3 ∈ G.tops := by rw [g.tops]; simp
theorem fl_le : ∀ (F : Fo) (d : Nat) {r : S43}, r ∈ F.fl d → r.f1 < (d : Int) + F.ids.length
  | .nil, d, r, h => by simp [Fo.fl] at h
  | .nd j t k n, d, r, h => by
    simp only [Fo.fl, List.mem_cons, List.mem_append] at h
    simp only [Fo.ids, List.length_cons, List.length_append]
    rcases h with rfl | h | h
    · show (d : Int) < _; omega
    · have := fl_le k (d + 1) h; omega
    · have := fl_le n d h; omega
theorem dep_le (x : Nat) (F : Fo) (d : Nat) (hn : F.ids.Nodup) (hx : x ∈ F.ids) : dep x d F < d + F.ids.length := by
  obtain ⟨pre, post, s⟩ := spot x F d hn hx
  have := fl_le F d (r := ⟨(x : Int), (dep x d F : Int), txtF x F⟩) (by rw [s.all]; simp)
  simp only at this
  omega
theorem atFrom_pre {r : S43} {rest : List S43} {id : Int} (hr : r.f0 = id) : ∀ (pre : List S43) (i : Nat), (∀ q ∈ pre, q.f0 ≠ id) → atFrom id (pre ++ r :: rest) i = ((i + pre.length : Nat) : Int)
  | [], i, _ => by simp [atFrom, hr]
  | q :: pre, i, h => by
    rw [List.cons_append, atFrom, if_neg (h q List.mem_cons_self), atFrom_pre hr pre (i + 1) fun x hx => h x (List.mem_cons_of_mem _ hx), List.length_cons]
    congr 1; omega
theorem at_pre {r : S43} {pre rest : List S43} {id : Int} (hr : r.f0 = id) (h : ∀ q ∈ pre, q.f0 ≠ id) : atI (pre ++ r :: rest) id = (pre.length : Int) := by
  rw [atI, atFrom_pre hr pre 0 h, Nat.zero_add]
theorem at_none {t : List S43} {id : Int} (h : ∀ q ∈ t, q.f0 ≠ id) : atI t id = -1 := by
  rcases atI_spec t id with ⟨e, _⟩ | ⟨j, hj, _, e⟩
  · exact e
  · exact absurd e (h _ (List.getElem_mem hj))
theorem endFrom_mid {d : Int} {post : List S43} (hp : post = [] ∨ ∃ q rest, post = q :: rest ∧ q.f1 ≤ d) : ∀ (mid : List S43) (e : Nat), (∀ q ∈ mid, d < q.f1) → endFrom d (mid ++ post) e = e + mid.length
  | [], e, _ => by
    rcases hp with rfl | ⟨q, rest, rfl, h⟩
    · rfl
    · rw [List.nil_append, endFrom, if_neg (by omega)]; rfl
  | q :: mid, e, h => by
    rw [List.cons_append, endFrom, if_pos (h q List.mem_cons_self), endFrom_mid hp mid (e + 1) fun x hx => h x (List.mem_cons_of_mem _ hx), List.length_cons]
    omega
theorem end_mid {pre mid post : List S43} {r : S43} (hm : ∀ q ∈ mid, r.f1 < q.f1) (hp : post = [] ∨ ∃ q rest, post = q :: rest ∧ q.f1 ≤ r.f1) : endI (pre ++ r :: (mid ++ post)) pre.length = pre.length + 1 + mid.length := by
  have e1 : (pre ++ r :: (mid ++ post)).getD pre.length z43 = r := by simp
  have e2 : (pre ++ r :: (mid ++ post)).drop (pre.length + 1) = mid ++ post := by
    rw [List.drop_append]; simp
  rw [endI, e1, e2, endFrom_mid hp mid _ hm]
theorem spot_end {x d : Nat} {G : Fo} {pre post : List S43} (s : Spot x d G pre post) : endI (G.fl d) pre.length = pre.length + 1 + (sub x G).ids.length := by
  rw [s.all, end_mid (fun q hq => by have := fl_deep _ _ hq; show (dep x d G : Int) < q.f1; omega) s.high, fl_len]
theorem spot_at {x d : Nat} {G : Fo} {pre post : List S43} (s : Spot x d G pre post) : atI (G.fl d) (x : Int) = (pre.length : Int) := by
  rw [s.all]; exact at_pre rfl s.out
theorem spot_len {x d : Nat} {G : Fo} {pre post : List S43} (s : Spot x d G pre post) : (G.fl d).length = pre.length + 1 + (sub x G).ids.length + post.length := by
  have := congrArg List.length s.all
  simp only [List.length_append, List.length_cons, fl_len] at this ⊢
  omega
theorem spot_get {x d : Nat} {G : Fo} {pre post : List S43} (s : Spot x d G pre post) (h : pre.length < (G.fl d).length) : (G.fl d)[pre.length] = ⟨(x : Int), (dep x d G : Int), txtF x G⟩ := by
  simp [s.all]
theorem at_fnd0 {G : Fo} {x : Int} (h : fndF G x = 0) (h0 : ∀ y ∈ G.ids, y ≠ 0) : atI (G.fl 0) x = -1 := at_none fun q hq e => by
  obtain ⟨i, hi, e2⟩ := fl_ids G 0 hq
  have hx : x = (i : Int) := by rw [← e, e2]
  unfold fndF at h
  rw [if_pos ⟨by omega, by rw [hx]; exact hi⟩, hx] at h
  exact h0 i hi h
theorem kids_fl : ∀ (F : Fo) (d : Nat), ((F.fl d).filter fun r => decide (r.f1 = (d : Int))).map (·.f0) = F.tops.map Int.ofNat
  | .nil, d => rfl
  | .nd j t k n, d => by
    have hk : (k.fl (d + 1)).filter (fun r => decide (r.f1 = (d : Int))) = [] := List.filter_eq_nil_iff.2 fun r hr => by
      have := fl_deep k (d + 1) hr
      simp only [decide_eq_true_eq]
      omega
    have ih := kids_fl n d
    simp only [Fo.fl, List.filter_cons, decide_true, if_true, List.map_cons, List.filter_append, hk, List.nil_append, Fo.tops]
    rw [ih]; rfl
theorem kids_l0x (t : List S43) (a : Nat) (ha : a < t.length) (hl : t.length ≤ 1099511627776) : ∀ (n i : Nat) (acc : List Int), i + n = endI t a → acc.length + n ≤ 1099511627776 →
    Ev (fun k => spec_l2Kids.l0 k t acc a i) (acc ++ (((t.drop i).take n).filter fun r => decide (r.f1 = wrap64 (t[a].f1 + 1))).map (·.f0))
  | 0, i, acc, h, hacc => by
    simp only [List.take_zero, List.filter_nil, List.map_nil, List.append_nil]
    refine Ev.step (fun k => by simp only [spec_l2Kids.l0]; rfl) ?_
    refine Ev.bind (end_f t a ha hl) ?_
    refine ev_neg (by omega) ?_
    exact evnow _
  | n + 1, i, acc, h, hacc => by
    obtain ⟨e1, e2, _, _⟩ := endI_spec t a ha
    have hi : i < t.length := by omega
    rw [List.drop_eq_getElem_cons hi, List.take_succ_cons, List.filter_cons]
    refine Ev.step (fun k => by simp only [spec_l2Kids.l0]; rfl) ?_
    refine Ev.bind (end_f t a ha hl) ?_
    refine ev_pos (by omega) (ev_pos (by omega) (ev_pos (by omega) (ev_pos (by omega) (ev_pos (by omega) ?_))))
    rw [rdR_get t i hi, rdR_get t a ha, wrapS i (by omega) (by omega)]
    by_cases hq : t[i].f1 = wrap64 (t[a].f1 + 1)
    · refine ev_pos hq (ev_pos (by omega) ?_)
      have ih := kids_l0x t a ha hl n (i + 1) (acc ++ [t[i].f0]) (by omega) (by simp; omega)
      rw [if_pos (by simpa using hq), List.map_cons]
      simpa using ih
    · refine ev_neg hq ?_
      have ih := kids_l0x t a ha hl n (i + 1) acc (by omega) (by omega)
      rw [if_neg (by simpa using hq)]
      exact ih
theorem kids_x {G : Fo} (g : Good G) {u : Nat} (hu : u ∈ G.ids) : Ev (fun k => spec_l2Kids.f k (G.fl 0) (u : Int)) ((sub u G).tops.map Int.ofNat) := by
  obtain ⟨pre, post, s⟩ := spot u G 0 g.nd hu
  have hl := (spot_len s)
  have hll := fl_len G 0
  have hg := g.len
  have ha : pre.length < (G.fl 0).length := by omega
  unfold spec_l2Kids.f
  simp only [Option.bind_some]
  refine Ev.bind (at_f (G.fl 0) u (by omega)) ?_
  rw [(spot_at s)]
  refine ev_neg (by omega) ?_
  rw [wrapS pre.length (by omega) (by omega)]
  have := kids_l0x (G.fl 0) pre.length ha (by omega) (sub u G).ids.length (pre.length + 1) [] (by rw [(spot_end s)]) (by simp; omega)
  rw [(spot_get s ha)] at this
  have e2 : (G.fl 0).drop (pre.length + 1) = (sub u G).fl (dep u 0 G + 1) ++ post := by
    rw [s.all, List.drop_append]; simp
  have hd := dep_le u G 0 g.nd hu
  have e3 : wrap64 ((dep u 0 G : Int) + 1) = ((dep u 0 G + 1 : Nat) : Int) := by rw [wrap_id _ (by omega) (by omega)]; omega
  rw [e2, show (sub u G).ids.length = ((sub u G).fl (dep u 0 G + 1)).length from (fl_len _ _).symm, List.take_left' rfl, e3, kids_fl, List.nil_append] at this
  exact this
theorem where_l0x (u : Int) (ks : List Int) (kd id up at_ : Int) (s : ByteArray) (hl : ks.length ≤ 1000000) : ∀ (n i : Nat) (a : Int), i + n = ks.length → Ev (fun k => spec_l3Where.l0 k u a ks i kd id up at_ s) (u, if at_ ∈ ks.drop i ∧ at_ ≠ id then at_ else a, true)
  | 0, i, a, h => by
    rw [List.drop_eq_nil_of_le (by omega), if_neg (by simp)]
    refine Ev.step (fun k => by simp only [spec_l3Where.l0]; rfl) ?_
    exact ev_neg (by omega) (evnow _)
  | n + 1, i, a, h => by
    have hi : i < ks.length := by omega
    have hrd : rd ks i = ks[i] := by
      unfold rd
      rw [List.getD_eq_getElem?_getD, show ((i : Int)).toNat = i from rfl, List.getElem?_eq_getElem hi]
      rfl
    have e1 : (at_ ∈ ks.drop i ∧ at_ ≠ id) ↔ ((at_ = ks[i] ∨ at_ ∈ ks.drop (i + 1)) ∧ at_ ≠ id) := by rw [List.drop_eq_getElem_cons hi, List.mem_cons]
    refine Ev.step (fun k => by simp only [spec_l3Where.l0]; rfl) ?_
    rw [hrd, wrapS i (by omega) (by omega)]
    refine ev_pos (by omega) (ev_pos (by omega) ?_)
    by_cases h3 : ks[i] = at_
    · refine ev_pos h3 ?_
      by_cases h4 : at_ = id
      · refine ev_pos h4 ?_
        rw [if_neg (fun q => q.2 h4)]
        have := where_l0x u ks kd id up at_ s hl n (i + 1) a (by omega)
        rwa [if_neg (fun q => q.2 h4)] at this
      · refine ev_neg h4 ?_
        rw [if_pos (e1.2 ⟨Or.inl h3.symm, h4⟩)]
        have := where_l0x u ks kd id up at_ s hl n (i + 1) at_ (by omega)
        rwa [ite_self] at this
    · refine ev_neg h3 ?_
      have := where_l0x u ks kd id up at_ s hl n (i + 1) a (by omega)
      have e2 : (at_ ∈ ks.drop i ∧ at_ ≠ id) ↔ (at_ ∈ ks.drop (i + 1) ∧ at_ ≠ id) := by
        rw [e1]
        exact ⟨fun ⟨q1, q2⟩ => ⟨q1.resolve_left (fun q => h3 q.symm), q2⟩, fun ⟨q1, q2⟩ => ⟨Or.inr q1, q2⟩⟩
      rw [show (if at_ ∈ ks.drop i ∧ at_ ≠ id then at_ else a) = (if at_ ∈ ks.drop (i + 1) ∧ at_ ≠ id then at_ else a) by simp only [e2]]
      exact this
theorem fndF_zero {G : Fo} (h0 : ∀ y ∈ G.ids, y ≠ 0) {x : Int} : fndF G x = 0 ↔ ∀ y ∈ G.ids, (y : Int) ≠ x := by
  constructor
  · intro h y hy e
    unfold fndF at h
    rw [if_pos ⟨by omega, by rw [← e]; exact hy⟩, ← e] at h
    exact h0 y hy h
  · intro h
    unfold fndF
    rw [if_neg]
    rintro ⟨h1, h2⟩
    exact h _ h2 (by omega)
theorem fndF_nat {G : Fo} {y : Nat} (hy : y ∈ G.ids) : fndF G (y : Int) = y := by
  unfold fndF
  rw [if_pos ⟨by omega, show (y : Int).toNat ∈ G.ids from hy⟩]; rfl
theorem near_x {G : Fo} (g : Good G) (kd id up at_ : Int) (s : ByteArray) : Ev (fun n => spec_l3Where.j0 n (G.fl 0) false kd id up at_ s) (((nearF G id up at_).1 : Int), ((nearF G id up at_).2 : Int), true) := by
  have hll := fl_len G 0
  have hg := g.len
  refine Ev.step (fun n => by simp only [spec_l3Where.j0]; rfl) ?_
  refine ev_neg (by decide) ?_
  refine Ev.bind (at_f (G.fl 0) up (by omega)) ?_
  by_cases h1 : fndF G up = 0
  · rw [at_fnd0 h1 g.ne0]
    have : nearF G id up at_ = (3, 0) := by unfold nearF; rw [if_pos h1]
    rw [this]
    exact ev_pos (by omega) (evnow _)
  · obtain ⟨hu, hue⟩ := fndF_mem h1
    obtain ⟨u, rfl⟩ : ∃ u : Nat, up = (u : Int) := ⟨fndF G up, hue.symm⟩
    rw [fndF_nat (by have := hu; rw [show fndF G (u : Int) = u by omega] at this; exact this)] at h1 hu
    obtain ⟨pre, post, sp⟩ := spot u G 0 g.nd hu
    rw [(spot_at sp)]
    refine ev_neg (by omega) ?_
    refine Ev.bind (kids_x g hu) ?_
    have hlen : ((sub u G).tops.map Int.ofNat).length ≤ 1000000 := by
      have := tops_len (sub u G)
      have := (spot_len sp)
      rw [List.length_map]
      omega
    have := where_l0x (u : Int) ((sub u G).tops.map Int.ofNat) kd id u at_ s hlen _ 0 0 (by rw [Nat.zero_add])
    rw [List.drop_zero] at this
    refine Ev.congr (fun k => rfl) ?_
    have e : nearF G id (u : Int) at_ = (u, (if at_ ∈ (sub u G).tops.map Int.ofNat ∧ at_ ≠ id then at_ else 0).toNat) := by
      unfold nearF
      rw [fndF_nat hu, if_neg h1]
      by_cases h2 : fndF G at_ = 0
      · rw [if_pos h2, if_neg]
        · rfl
        · rintro ⟨q1, q2⟩
          obtain ⟨y, hy, rfl⟩ := List.mem_map.1 q1
          exact (fndF_zero g.ne0).1 h2 y (sub_ids u (tops_ids hy)) rfl
      · rw [if_neg h2]
        obtain ⟨ha, hae⟩ := fndF_mem h2
        obtain ⟨a, rfl⟩ : ∃ a : Nat, at_ = (a : Int) := ⟨fndF G at_, hae.symm⟩
        have ha' : a ∈ G.ids := by have := ha; rw [show fndF G (a : Int) = a by omega] at this; exact this
        rw [fndF_nat ha']
        have hk := kids_par g.nd g.ne0 hu (x := a)
        have hm : ((a : Int) ∈ (sub u G).tops.map Int.ofNat) ↔ par a 0 G = u := by
          rw [List.mem_map]
          constructor
          · rintro ⟨y, hy, e⟩
            have e' : y = a := Int.ofNat.inj e
            exact (hk.1 (e' ▸ hy)).2
          · intro h; exact ⟨a, hk.2 ⟨ha', h⟩, rfl⟩
        by_cases h4 : par a 0 G ≠ u
        · rw [if_pos h4, if_neg (fun q => h4 (hm.1 q.1))]; rfl
        · have h4' : par a 0 G = u := Decidable.of_not_not h4
          rw [if_neg h4]
          by_cases h5 : (a : Int) = id
          · rw [if_pos h5, if_neg (fun q => q.2 h5)]; rfl
          · rw [if_neg h5, if_pos ⟨hm.2 h4', h5⟩]; rfl
    rw [e]
    have e2 : (((if at_ ∈ (sub u G).tops.map Int.ofNat ∧ at_ ≠ id then at_ else 0).toNat : Nat) : Int) = (if at_ ∈ (sub u G).tops.map Int.ofNat ∧ at_ ≠ id then at_ else 0) := by
      split
      · rename_i q
        obtain ⟨y, hy, rfl⟩ := List.mem_map.1 q.1
        rfl
      · rfl
    show Ev _ ((u : Int), ((_ : Nat) : Int), true)
    rw [e2]
    exact this
end Go.Proofs.YtkopimbbgckcnaaDoor.PL
set_option linter.unusedVariables false
set_option linter.unusedSimpArgs false
namespace Go.Proofs.YtkopimbbgckcnaaDoor.PL
open Go.RowKit Go.Proofs.YtkopimbbgckcnaaDoor.P Go.Proofs.YtkopimbbgckcnaaDoorW.PrintWords Go.Proofs.YtkopimbbgckcnaaDoorW.PrintLast Go.Proofs.YtkopimbbgckcnaaDoor.FP
theorem at_skip {id : Int} {b : List S43} : ∀ (a : List S43) (i : Nat), (∀ q ∈ a, q.f0 ≠ id) → atFrom id (a ++ b) i = atFrom id b (i + a.length)
  | [], i, _ => rfl
  | q :: a, i, h => by
    rw [List.cons_append, atFrom, if_neg (h q List.mem_cons_self), at_skip a (i + 1) fun x hx => h x (List.mem_cons_of_mem _ hx), List.length_cons]
    congr 1; omega
theorem at_in {id : Int} {b : List S43} : ∀ (a : List S43) (i : Nat), (∃ q ∈ a, q.f0 = id) → ∃ j, j < a.length ∧ atFrom id (a ++ b) i = ((i + j : Nat) : Int)
  | [], i, h => by obtain ⟨q, hq, _⟩ := h; cases hq
  | q :: a, i, h => by
    by_cases hq : q.f0 = id
    · exact ⟨0, by simp, by rw [List.cons_append, atFrom, if_pos hq]; rfl⟩
    · obtain ⟨j, hj, e⟩ := at_in (id := id) (b := b) a (i + 1) (by
        obtain ⟨q', hq', e⟩ := h
        rcases List.mem_cons.1 hq' with rfl | hq'
        · exact absurd e hq
        · exact ⟨q', hq', e⟩)
      exact ⟨j + 1, by simp; omega, by rw [List.cons_append, atFrom, if_neg hq, e]; congr 1; omega⟩
theorem id_fl (F : Fo) (d : Nat) {y : Nat} (hy : y ∈ F.ids) : ∃ q ∈ F.fl d, q.f0 = (y : Int) := by
  have h1 : (y : Int) ∈ (F.fl d).map (·.f0) := by rw [fl_map]; exact List.mem_map.2 ⟨y, hy, rfl⟩
  obtain ⟨q, hq, e⟩ := List.mem_map.1 h1
  exact ⟨q, hq, e⟩
theorem not_fl (F : Fo) (d : Nat) {y : Nat} (hy : y ∉ F.ids) : ∀ q ∈ F.fl d, q.f0 ≠ (y : Int) := fun q hq e => by
  obtain ⟨i, hi, e2⟩ := fl_ids F d hq
  rw [e2] at e
  exact hy ((show i = y by omega) ▸ hi)
theorem under_x {G : Fo} (g : Good G) {i : Nat} (hi : i ∈ G.ids) (up : Int) : Ev (fun n => spec_l2Under.f n (G.fl 0) up (i : Int)) (decide (under i (fndF G up) G)) := by
  obtain ⟨pre, post, s⟩ := spot i G 0 g.nd hi
  have hl := spot_len s
  have hll := fl_len G 0
  have hg := g.len
  have hk : pre.length < (G.fl 0).length := by omega
  have := under_f (G.fl 0) up (i : Int) pre.length hk (spot_at s) (by omega)
  rw [spot_end s] at this
  suffices e : decide (under i (fndF G up) G) = (decide (0 ≤ atI (G.fl 0) up) && (decide ((pre.length : Int) ≤ atI (G.fl 0) up) && decide (atI (G.fl 0) up ≤ ((pre.length + 1 + (sub i G).ids.length : Nat) : Int) - 1))) by
    rw [e]; exact this
  clear this
  by_cases h0 : fndF G up = 0
  · have hu : ¬ under i (fndF G up) G := by
      rw [h0]
      rintro ⟨_, h | h⟩
      · exact g.ne0 i hi h.symm
      · exact g.ne0 0 (sub_ids i h) rfl
    rw [decide_eq_false hu, at_fnd0 h0 g.ne0]
    simp
  · obtain ⟨hu, hue⟩ := fndF_mem h0
    obtain ⟨y, rfl⟩ : ∃ y : Nat, up = (y : Int) := ⟨fndF G up, hue.symm⟩
    have hy : y ∈ G.ids := by have := hu; rw [show fndF G (y : Int) = y by omega] at this; exact this
    rw [fndF_nat hy]
    have hperm := ids_del i G g.nd hi
    have hnd := hperm.nodup_iff.1 g.nd
    obtain ⟨n1, n2⟩ := List.nodup_cons.1 hnd
    obtain ⟨n3, n4, n5⟩ := List.nodup_append.1 n2
    have hal : atI (G.fl 0) (y : Int) = atFrom (y : Int) (pre ++ (⟨(i : Int), (dep i 0 G : Int), txtF i G⟩ :: ((sub i G).fl (dep i 0 G + 1) ++ post))) 0 := by rw [← s.all]; rfl
    by_cases hyi : y = i
    · rw [decide_eq_true (show under i y G from ⟨hi, Or.inl hyi⟩), hyi, spot_at s]
      have : ((pre.length : Int) ≤ ((pre.length + 1 + (sub i G).ids.length : Nat) : Int) - 1) := by omega
      simp only [Int.natCast_nonneg, decide_true, Int.le_refl, this, Bool.and_self]
    · by_cases hys : y ∈ (sub i G).ids
      · rw [decide_eq_true (show under i y G from ⟨hi, Or.inr hys⟩)]
        have hyd : y ∉ (del i G).ids := fun q => n5 y hys y q rfl
        have hout : ∀ q ∈ pre ++ post, q.f0 ≠ (y : Int) := by rw [← s.del]; exact not_fl _ _ hyd
        obtain ⟨j, hj, e⟩ := at_in (id := (y : Int)) (b := post) ((sub i G).fl (dep i 0 G + 1)) (0 + pre.length + 1) (id_fl _ _ hys)
        rw [fl_len] at hj
        rw [hal, at_skip pre 0 (fun q hq => hout q (List.mem_append_left _ hq)), atFrom, if_neg (show (i : Int) ≠ (y : Int) by omega), e]
        have a1 : (0 : Int) ≤ ((0 + pre.length + 1 + j : Nat) : Int) := by omega
        have a2 : (pre.length : Int) ≤ ((0 + pre.length + 1 + j : Nat) : Int) := by omega
        have a3 : ((0 + pre.length + 1 + j : Nat) : Int) ≤ ((pre.length + 1 + (sub i G).ids.length : Nat) : Int) - 1 := by omega
        rw [decide_eq_true a1, decide_eq_true a2, decide_eq_true a3]; rfl
      · have hnu : ¬ under i y G := by
          rintro ⟨_, h | h⟩
          · exact hyi h
          · exact hys h
        rw [decide_eq_false hnu]
        have hyd : y ∈ (del i G).ids := by
          have := hperm.mem_iff.1 hy
          simp only [List.mem_cons, List.mem_append] at this
          rcases this with q | q | q
          · exact absurd q hyi
          · exact absurd q hys
          · exact q
        obtain ⟨q, hq, hqe⟩ := id_fl (del i G) 0 hyd
        rw [s.del] at hq
        by_cases hpre : ∃ q ∈ pre, q.f0 = (y : Int)
        · obtain ⟨j, hj, e⟩ := at_in (id := (y : Int)) (b := (⟨(i : Int), (dep i 0 G : Int), txtF i G⟩ : S43) :: ((sub i G).fl (dep i 0 G + 1) ++ post)) pre 0 hpre
          rw [hal, e, decide_eq_false (show ¬ (pre.length : Int) ≤ ((0 + j : Nat) : Int) by omega)]
          simp
        · have hpre' : ∀ q ∈ pre, q.f0 ≠ (y : Int) := fun q hq e => hpre ⟨q, hq, e⟩
          have hpost : ∃ q ∈ post, q.f0 = (y : Int) := by
            rcases List.mem_append.1 hq with h | h
            · exact absurd hqe (hpre' q h)
            · exact ⟨q, h, hqe⟩
          obtain ⟨j, hj, e⟩ := at_in (id := (y : Int)) (b := []) post (0 + pre.length + 1 + ((sub i G).fl (dep i 0 G + 1)).length) hpost
          rw [List.append_nil] at e
          rw [hal, at_skip pre 0 hpre', atFrom, if_neg (show (i : Int) ≠ (y : Int) by omega), at_skip _ _ (not_fl _ _ hys), e, fl_len]
          rw [decide_eq_false (show ¬ ((0 + pre.length + 1 + (sub i G).ids.length + j : Nat) : Int) ≤ ((pre.length + 1 + (sub i G).ids.length : Nat) : Int) - 1 by omega)]
          simp
theorem fl_shift : ∀ (F : Fo) (d d' : Nat) (δ : Int), (d' : Int) = d + δ → d' + F.ids.length ≤ 1000000 → (F.fl d).map (shift δ) = F.fl d'
  | .nil, _, _, _, _, _ => rfl
  | .nd i t k n, d, d', δ, h, hl => by
    simp only [Fo.ids, List.length_cons, List.length_append] at hl
    simp only [Fo.fl, List.map_cons, List.map_append]
    rw [fl_shift k (d + 1) (d' + 1) δ (by omega) (by omega), fl_shift n d d' δ h (by omega)]
    congr 1
    show (⟨(i : Int), wrap64 ((d : Int) + δ), t⟩ : S43) = _
    rw [wrap_id _ (by omega) (by omega), h]
theorem put_x (t rows : List S43) (u a : Int) (hl : t.length ≤ 1000000) (hr : rows.length ≤ 1000000) (h0 : 0 < rows.length) (j : Nat) (hj : j < t.length) (e1 : atI t u = (j : Int)) (p : Nat)
    (hc : (a > 0 ∧ ∃ i : Nat, i < t.length ∧ atI t a = (i : Int) ∧ p = endI t i) ∨ (¬ a > 0 ∧ p = j + 1)) :
    Ev (fun k => spec_l3Put.f k t rows u a) (t.take p ++ rows.map (shift (wrap64 (wrap64 (t[j].f1 + 1) - rows[0].f1))) ++ t.drop p) := by
  have fin : ∀ (p : Nat), p ≤ t.length → Ev (fun k => spec_l3Put.j0 k t rows (wrap64 (wrap64 (t[j].f1 + 1) - rows[0].f1)) p) (t.take p ++ rows.map (shift (wrap64 (wrap64 (t[j].f1 + 1) - rows[0].f1))) ++ t.drop p) := fun p hp => by
    refine Ev.step (fun k => by simp only [spec_l3Put.j0]; rfl) ?_
    simp only [Option.bind_some]
    refine ev_pos (by omega) (ev_pos (by omega) ?_)
    refine ev_pos (by simp; omega) ?_
    simp only [List.nil_append, Int.toNat_natCast]
    have := put_l0 t rows (wrap64 (wrap64 (t[j].f1 + 1) - rows[0].f1)) p hp hl hr rows.length 0 (t.take p) (by omega) (by rw [List.length_take]; omega)
    simpa using this
  have r0 : rd_T43 rows 0 = rows[0] := rdR_get rows 0 h0
  rcases hc with ⟨h, i, hi, e3, rfl⟩ | ⟨h, rfl⟩
  · obtain ⟨_, e5, _, _⟩ := endI_spec t i hi
    unfold spec_l3Put.f
    refine Ev.bind (at_f t u (by omega)) ?_
    rw [e1]
    refine ev_pos (by omega) (ev_pos (by omega) (ev_pos (by omega) (ev_pos h ?_)))
    refine Ev.bind (at_f t a (by omega)) ?_
    rw [e3]
    refine Ev.bind (end_f t i hi (by omega)) ?_
    rw [rdR_get t j hj, r0]
    exact fin _ e5
  · unfold spec_l3Put.f
    refine Ev.bind (at_f t u (by omega)) ?_
    rw [e1]
    refine ev_pos (by omega) (ev_pos (by omega) (ev_pos (by omega) (ev_neg h ?_)))
    rw [rdR_get t j hj, r0, wrapS j (by omega) (by omega)]
    exact fin (j + 1) (by omega)
theorem put_F {G : Fo} (hn : G.ids.Nodup) (h0 : ∀ x ∈ G.ids, x ≠ 0) (hlen : G.ids.length ≤ 1000) (p : Nat × Nat) (hu : p.1 ∈ G.ids) (ha : p.2 = 0 ∨ (p.2 ∈ G.ids ∧ par p.2 0 G = p.1)) (i di : Nat) (t : ByteArray) (s : Fo) (hd : di ≤ 1000) (hs : s.ids.length ≤ 1000) :
    Ev (fun k => spec_l3Put.f k (G.fl 0) (⟨(i : Int), (di : Int), t⟩ :: s.fl (di + 1)) (p.1 : Int) (p.2 : Int)) ((putF G p i t s).fl 0) := by
  obtain ⟨u, a⟩ := p
  simp only at hu ha ⊢
  obtain ⟨pre, post, sp⟩ := spot u G 0 hn hu
  have hl := spot_len sp
  have hll := fl_len G 0
  have hj : pre.length < (G.fl 0).length := by omega
  have hdu := dep_le u G 0 hn hu
  have hrl : ((⟨(i : Int), (di : Int), t⟩ : S43) :: s.fl (di + 1)).length ≤ 1000000 := by rw [List.length_cons, fl_len]; omega
  have hδ : wrap64 (wrap64 (((G.fl 0)[pre.length]'hj).f1 + 1) - (((⟨(i : Int), (di : Int), t⟩ : S43) :: s.fl (di + 1))[0]'(by simp)).f1) = (dep u 0 G : Int) + 1 - di := by
    rw [spot_get sp hj]
    show wrap64 (wrap64 ((dep u 0 G : Int) + 1) - (di : Int)) = _
    rw [wrap_id ((dep u 0 G : Int) + 1) (by omega) (by omega), wrap_id _ (by omega) (by omega)]
  have hrows : ((⟨(i : Int), (di : Int), t⟩ : S43) :: s.fl (di + 1)).map (shift ((dep u 0 G : Int) + 1 - di)) = ⟨(i : Int), ((dep u 0 G + 1 : Nat) : Int), t⟩ :: s.fl (dep u 0 G + 2) := by
    rw [List.map_cons, fl_shift s (di + 1) (dep u 0 G + 2) _ (by omega) (by omega)]
    congr 1
    show (⟨(i : Int), wrap64 ((di : Int) + ((dep u 0 G : Int) + 1 - di)), t⟩ : S43) = _
    rw [wrap_id _ (by omega) (by omega)]
    congr 1; omega
  unfold putF
  by_cases ha0 : a = 0
  · subst ha0
    rw [if_pos rfl]
    have := put_x (G.fl 0) (⟨(i : Int), (di : Int), t⟩ :: s.fl (di + 1)) (u : Int) ((0 : Nat) : Int) (by omega) hrl (by simp) pre.length hj (spot_at sp) (pre.length + 1) (Or.inr ⟨by omega, rfl⟩)
    rw [hδ, hrows] at this
    have e1 : (G.fl 0).take (pre.length + 1) = pre ++ [⟨(u : Int), (dep u 0 G : Int), txtF u G⟩] := by
      rw [sp.all, show pre ++ (⟨(u : Int), (dep u 0 G : Int), txtF u G⟩ :: ((sub u G).fl (dep u 0 G + 1) ++ post)) = (pre ++ [⟨(u : Int), (dep u 0 G : Int), txtF u G⟩]) ++ ((sub u G).fl (dep u 0 G + 1) ++ post) by simp]
      exact List.take_left' (by simp)
    have e2 : (G.fl 0).drop (pre.length + 1) = (sub u G).fl (dep u 0 G + 1) ++ post := by
      rw [sp.all, List.drop_append]; simp
    rw [e1, e2] at this
    rw [sp.first]
    simpa using this
  · rw [if_neg ha0]
    obtain ⟨haG, hap⟩ := ha.resolve_left ha0
    obtain ⟨pre', post', sa⟩ := spot a G 0 hn haG
    have hl' := spot_len sa
    have hda : dep a 0 G = dep u 0 G + 1 := by
      rcases dep_par a G 0 0 hn haG with ⟨_, _, h⟩ | ⟨_, h⟩
      · rw [hap] at h; exact absurd h (h0 u hu)
      · rw [h, hap]
    have := put_x (G.fl 0) (⟨(i : Int), (di : Int), t⟩ :: s.fl (di + 1)) (u : Int) (a : Int) (by omega) hrl (by simp) pre.length hj (spot_at sp) (pre'.length + 1 + (sub a G).ids.length) (Or.inl ⟨by omega, pre'.length, by omega, spot_at sa, (spot_end sa).symm⟩)
    rw [hδ, hrows] at this
    have e0 : (sub a G).ids.length = ((sub a G).fl (dep a 0 G + 1)).length := (fl_len _ _).symm
    have e1 : (G.fl 0).take (pre'.length + 1 + (sub a G).ids.length) = pre' ++ ⟨(a : Int), (dep a 0 G : Int), txtF a G⟩ :: (sub a G).fl (dep a 0 G + 1) := by
      rw [sa.all, e0, show pre' ++ (⟨(a : Int), (dep a 0 G : Int), txtF a G⟩ :: ((sub a G).fl (dep a 0 G + 1) ++ post')) = (pre' ++ ⟨(a : Int), (dep a 0 G : Int), txtF a G⟩ :: (sub a G).fl (dep a 0 G + 1)) ++ post' by simp]
      exact List.take_left' (by simp; omega)
    have e2 : (G.fl 0).drop (pre'.length + 1 + (sub a G).ids.length) = post' := by
      rw [sa.all, e0, show pre' ++ (⟨(a : Int), (dep a 0 G : Int), txtF a G⟩ :: ((sub a G).fl (dep a 0 G + 1) ++ post')) = (pre' ++ ⟨(a : Int), (dep a 0 G : Int), txtF a G⟩ :: (sub a G).fl (dep a 0 G + 1)) ++ post' by simp]
      exact List.drop_left' (by simp; omega)
    rw [e1, e2] at this
    rw [sa.after, hda, show dep u 0 G + 1 + 1 = dep u 0 G + 2 by omega]
    rw [hda] at this
    simpa using this
theorem set_mid {pre rest : List S43} {r r' : S43} : (pre ++ r :: rest).set pre.length r' = pre ++ r' :: rest := by
  rw [List.set_append_right _ _ (Nat.le_refl _), Nat.sub_self, List.set_cons_zero]
theorem where_x {G : Fo} (g : Good G) (kd : Int) (i : Nat) (hi0 : i ≠ 0) (up at_ : Int) (s : ByteArray) (hk : kd = 1 ∨ kd = 3) :
    Ev (fun n => spec_l3Where.f n (G.fl 0) kd (i : Int) up at_ s) (if (kd = 1 ∧ i ∉ G.ids) ∨ (kd = 3 ∧ i ∈ G.ids ∧ ¬ under i (fndF G up) G) then (((nearF G (i : Int) up at_).1 : Int), ((nearF G (i : Int) up at_).2 : Int), true) else (0, 0, false)) := by
  have none_ : ∀ f : Nat → Option (Int × Int × Bool), (∀ n, f n = spec_l3Where.j0 n (G.fl 0) true kd (i : Int) up at_ s) → Ev f (0, 0, false) := fun f hf =>
    Ev.congr hf (Ev.step (f := fun _ => some (0, 0, false)) (fun n => by simp only [spec_l3Where.j0, if_true]) (evnow _))
  have hll := fl_len G 0
  have hg := g.len
  have h2 : kd ≠ 2 := by rcases hk with rfl | rfl <;> decide
  unfold spec_l3Where.f
  refine Ev.bind (at_f (G.fl 0) i (by omega)) (ev_neg h2 ?_)
  by_cases hi : i ∈ G.ids
  · obtain ⟨pre, post, sp⟩ := spot i G 0 g.nd hi
    rw [spot_at sp]
    have hd : decide ((pre.length : Int) ≥ 0) = true := decide_eq_true (by omega)
    rw [hd]
    rcases hk with rfl | rfl
    · rw [if_neg (show ¬ ((1 : Int) = 1 ∧ i ∉ G.ids ∨ (1 : Int) = 3 ∧ i ∈ G.ids ∧ ¬ under i (fndF G up) G) by simp [hi])]
      exact ev_pos (by decide) (none_ _ fun n => rfl)
    · refine ev_neg (by decide) (ev_pos (by omega) ?_)
      refine Ev.bind (under_x g hi up) ?_
      by_cases hu : under i (fndF G up) G
      · rw [if_neg (by simp [hu])]
        exact none_ _ fun n => by simp only [decide_eq_true hu]
      · rw [if_pos (Or.inr ⟨rfl, hi, hu⟩)]
        exact Ev.congr (fun n => by simp only [decide_eq_false hu]) (near_x g 3 (i : Int) up at_ s)
  · have hf : fndF G (i : Int) = 0 := (fndF_zero g.ne0).2 fun y hy e => hi ((show y = i by omega) ▸ hy)
    rw [at_fnd0 hf g.ne0]
    rcases hk with rfl | rfl
    · rw [if_pos (Or.inl ⟨rfl, hi⟩)]
      refine ev_neg (by decide) (ev_neg (by decide) ?_)
      exact near_x g 1 (i : Int) up at_ s
    · rw [if_neg (by simp [hi])]
      exact ev_pos (by decide) (none_ _ fun n => rfl)
end Go.Proofs.YtkopimbbgckcnaaDoor.PL
set_option linter.unusedVariables false
set_option linter.unusedSimpArgs false
namespace Go.Proofs.YtkopimbbgckcnaaDoor.PL
open Go.RowKit Go.Proofs.YtkopimbbgckcnaaDoor.P Go.Proofs.YtkopimbbgckcnaaDoorW.PrintWords Go.Proofs.YtkopimbbgckcnaaDoorW.PrintLast Go.Proofs.YtkopimbbgckcnaaDoor.FP
theorem fndF_cases {G : Fo} (g : Good G) (i : Nat) : (i ∈ G.ids ∧ fndF G (i : Int) = i) ∨ (i ∉ G.ids ∧ fndF G (i : Int) = 0) := by
  by_cases hi : i ∈ G.ids
  · exact Or.inl ⟨hi, fndF_nat hi⟩
  · exact Or.inr ⟨hi, (fndF_zero g.ne0).2 fun y hy e => hi ((show y = i by omega) ▸ hy)⟩
theorem do_x {G : Fo} (g : Good G) (kd : Int) (i : Nat) (hi0 : i ≠ 0) (hit : i ∉ G.tops) (up at_ : Int) (s : ByteArray) (hk : kd = 1 ∨ kd = 2 ∨ kd = 3) :
    Ev (fun n => spec_l3Do.f n (G.fl 0) kd (i : Int) up at_ s) ((doF G kd (i : Int) up at_ s).fl 0) := by
  have hll := fl_len G 0
  have hg := g.len
  have same : ∀ f : Nat → Option (List S43), (∀ n, f n = ((some (([] : List S43) : List S43)).bind fun y => (if y.length + (G.fl 0).length < 4398046511104 then (some (y ++ G.fl 0)) else none))) → Ev f (G.fl 0) := fun f hf => Ev.congr hf (by
    simp only [Option.bind_some, List.nil_append]
    exact ev_pos (by simp; omega) (evnow _))
  unfold spec_l3Do.f doF
  rcases hk with rfl | rfl | rfl
  · rw [if_neg (by decide), if_pos rfl]
    refine Ev.bind (at_f (G.fl 0) i (by omega)) (ev_neg (by decide) ?_)
    refine Ev.bind (where_x g 1 i hi0 up at_ s (Or.inl rfl)) ?_
    rcases fndF_cases g i with ⟨hi, hf⟩ | ⟨hi, hf⟩
    · rw [hf, if_neg hi0, if_neg (by simp [hi])]
      exact ev_neg (by simp) (same _ fun n => rfl)
    · rw [hf, if_pos rfl, if_pos (Or.inl ⟨rfl, hi⟩)]
      refine ev_pos rfl (ev_pos rfl ?_)
      have hp := near_ok (G := G) (tops_ids g.three) (i : Int) up at_
      have := put_F g.nd g.ne0 hg (nearF G (i : Int) up at_) hp.up (hp.at_.imp id fun ⟨a1, a2, _⟩ => ⟨a1, a2⟩) i 0 s .nil (by omega) (by simp [Fo.ids])
      exact Ev.bind this (evnow _)
  · rw [if_pos rfl]
    refine Ev.bind (at_f (G.fl 0) i (by omega)) (ev_pos rfl ?_)
    simp only [Option.bind_some]
    refine ev_pos (by simp; omega) ?_
    rcases fndF_cases g i with ⟨hi, hf⟩ | ⟨hi, hf⟩
    · rw [hf, if_neg hi0]
      obtain ⟨pre, post, sp⟩ := spot i G 0 g.nd hi
      have hl := spot_len sp
      have hj : pre.length < (G.fl 0).length := by omega
      rw [spot_at sp]
      simp only [List.nil_append, Int.toNat_natCast, rdR_get (G.fl 0) pre.length hj]
      refine ev_pos (by omega) (ev_pos (by omega) (ev_pos (by omega) ?_))
      have : (G.fl 0).set pre.length (⟨((G.fl 0)[pre.length]'hj).f0, ((G.fl 0)[pre.length]'hj).f1, s⟩ : S43) = (setF i s G).fl 0 := by
        rw [spot_get sp hj, sp.text, sp.all]
        exact set_mid
      rw [this]
      exact evnow _
    · rw [hf, if_pos rfl, at_fnd0 hf g.ne0]
      simp only [List.nil_append]
      exact ev_neg (by omega) (evnow _)
  · rw [if_neg (by decide), if_neg (by decide)]
    refine Ev.bind (at_f (G.fl 0) i (by omega)) (ev_neg (by decide) ?_)
    refine Ev.bind (where_x g 3 i hi0 up at_ s (Or.inr rfl)) ?_
    rcases fndF_cases g i with ⟨hi, hf⟩ | ⟨hi, hf⟩
    · rw [hf, if_neg hi0]
      by_cases hu : under i (fndF G up) G
      · rw [if_pos hu, if_neg (by simp [hu])]
        exact ev_neg (by simp) (same _ fun n => rfl)
      · rw [if_neg hu, if_pos (Or.inr ⟨rfl, hi, hu⟩)]
        obtain ⟨pre, post, sp⟩ := spot i G 0 g.nd hi
        have hl := spot_len sp
        have hj : pre.length < (G.fl 0).length := by omega
        rw [spot_at sp]
        refine ev_pos rfl (ev_neg (by decide) ?_)
        refine Ev.bind (end_f (G.fl 0) pre.length hj (by omega)) ?_
        rw [spot_end sp]
        have e0 : (sub i G).ids.length = ((sub i G).fl (dep i 0 G + 1)).length := (fl_len _ _).symm
        have eall : G.fl 0 = (pre ++ ⟨(i : Int), (dep i 0 G : Int), txtF i G⟩ :: (sub i G).fl (dep i 0 G + 1)) ++ post := by rw [sp.all]; simp
        have eT : (G.fl 0).take (pre.length + 1 + (sub i G).ids.length) = pre ++ ⟨(i : Int), (dep i 0 G : Int), txtF i G⟩ :: (sub i G).fl (dep i 0 G + 1) := by
          rw [eall, e0]; exact List.take_left' (by simp; omega)
        have eD : (G.fl 0).drop (pre.length + 1 + (sub i G).ids.length) = post := by
          rw [eall, e0]; exact List.drop_left' (by simp; omega)
        have eP : (G.fl 0).take pre.length = pre := by rw [sp.all]; exact List.take_left' rfl
        have eM : (pre ++ (⟨(i : Int), (dep i 0 G : Int), txtF i G⟩ : S43) :: (sub i G).fl (dep i 0 G + 1)).drop pre.length = ⟨(i : Int), (dep i 0 G : Int), txtF i G⟩ :: (sub i G).fl (dep i 0 G + 1) := List.drop_left' rfl
        simp only [Option.bind_some, Int.toNat_natCast]
        refine ev_pos (by omega) (ev_pos (by omega) (ev_pos (by omega) ?_))
        refine ev_pos (by rw [List.length_drop, List.length_take]; simp; omega) ?_
        refine ev_pos (by omega) ?_
        refine ev_pos (by rw [List.length_take]; simp; omega) ?_
        refine ev_pos (by omega) ?_
        refine ev_pos (by rw [List.length_append, List.length_take, List.length_drop]; simp; omega) ?_
        simp only [List.nil_append]
        rw [eT, eM, eP, eD, ← sp.del]
        obtain ⟨h, hr⟩ := reptop_ex G g.nd g.ne0
        have hp := near_del hr g.nd g.three hi hit (id := (i : Int)) (up := up) (at_ := at_) rfl hu
        have hperm := ids_del i G g.nd hi
        obtain ⟨n1, n2⟩ := List.nodup_cons.1 (hperm.nodup_iff.1 g.nd)
        obtain ⟨n3, n4, n5⟩ := List.nodup_append.1 n2
        have hlens := hperm.length_eq
        simp only [List.length_cons, List.length_append] at hlens
        have hd := dep_le i G 0 g.nd hi
        have := put_F (G := FP.del i G) n4 (fun x hx => g.ne0 x (del_ids_sub i hx)) (by omega) (nearF G (i : Int) up at_) hp.1 (hp.2.imp id fun ⟨a1, a2, _⟩ => ⟨a1, by
          rw [par_del i _ G 0 g.nd a1, ← reptop_par hr g.nd (del_ids_sub i a1)]; exact a2⟩) i (dep i 0 G) (txtF i G) (sub i G) (by omega) (by omega)
        exact Ev.bind this (evnow _)
    · rw [hf, if_pos rfl, if_neg (by simp [hi])]
      exact ev_neg (by simp) (same _ fun n => rfl)
end Go.Proofs.YtkopimbbgckcnaaDoor.PL
set_option linter.unusedVariables false
set_option linter.unusedSimpArgs false
namespace Go.Proofs.YtkopimbbgckcnaaDoor.PL
open Go.RowKit Go.Proofs.YtkopimbbgckcnaaDoor.P Go.Proofs.YtkopimbbgckcnaaDoorW.PrintWords Go.Proofs.YtkopimbbgckcnaaDoorW.PrintLast Go.Proofs.YtkopimbbgckcnaaDoor.FP
def wfR (r : S43) : Prop := I64 r.f0 ∧ r.f2.size ≤ 9223372036854775807
theorem treeGo_congr : ∀ (l : List S43) (s s' : List Int) (roots d : Int), (∀ x, x ∈ s ↔ x ∈ s') → treeGo s roots d l = treeGo s' roots d l
  | [], _, _, _, _, _ => rfl
  | r :: rest, s, s', roots, d, h => by
    have hc : ∀ x, x ∈ r.f0 :: s ↔ x ∈ r.f0 :: s' := fun x => by simp only [List.mem_cons, h x]
    have hd : decide (r.f0 ∉ s) = decide (r.f0 ∉ s') := by simp only [h r.f0]
    unfold treeGo
    rw [hd, treeGo_congr rest _ _ (roots + 1) r.f1 hc, treeGo_congr rest _ _ roots r.f1 hc]
theorem rowB_deep {r : S43} (h : rowB r = true) : 0 ≤ r.f1 ∧ r.f1 ≤ 18 := by
  obtain ⟨_, _, d0, d18⟩ := rowB_id h
  exact ⟨d0, d18⟩
theorem st_l1 (t : List S43) (hl : t.length ≤ 1000000000) (roots : Int) (i : Nat) (hi : i < t.length) (b : Bool) (hnext : Ev (fun k => spec_TreeOk.l0 k t roots ((i : Int) + 1)) b) : ∀ (n j : Nat), j + n = i → Ev (fun k => spec_TreeOk.l1 k t roots i j) (decide (t[i].f0 ∉ ((t.take i).drop j).map (·.f0)) && b)
  | 0, j, h => by
    have hji : j = i := by omega
    subst hji
    rw [List.drop_eq_nil_of_le (by rw [List.length_take]; omega)]
    refine Ev.step (fun k => by simp only [spec_TreeOk.l1]; rfl) ?_
    refine ev_neg (by omega) ?_
    rw [wrapS j (by omega) (by omega)]
    simpa using hnext
  | n + 1, j, h => by
    have hj : j < (t.take i).length := by rw [List.length_take]; omega
    have hjt : j < t.length := by omega
    rw [List.drop_eq_getElem_cons hj, List.map_cons, List.getElem_take]
    refine Ev.step (fun k => by simp only [spec_TreeOk.l1]; rfl) ?_
    refine ev_pos (by omega) (ev_pos (by omega) (ev_pos (by omega) (ev_pos (by omega) (ev_pos (by omega) ?_))))
    rw [rdR_get t j hjt, rdR_get t i hi, wrapS j (by omega) (by omega)]
    by_cases hq : t[j].f0 = t[i].f0
    · refine ev_pos hq ?_
      rw [decide_eq_false (by simp [hq]), Bool.false_and]
      exact evnow _
    · refine ev_neg hq ?_
      have ih := st_l1 t hl roots i hi b hnext n (j + 1) (by omega)
      have e : decide (t[i].f0 ∉ t[j].f0 :: ((t.take i).drop (j + 1)).map (·.f0)) = decide (t[i].f0 ∉ ((t.take i).drop (j + 1)).map (·.f0)) := by
        rw [decide_eq_decide, List.mem_cons, not_or]
        exact ⟨fun q => q.2, fun q => ⟨fun e => hq e.symm, q⟩⟩
      rw [e]
      exact ih
theorem st_l0 (t : List S43) (hl : t.length ≤ 1000000000) (hw : ∀ r ∈ t, wfR r) : ∀ (n i : Nat) (roots : Int) (h : i + n = t.length) (h1 : 0 < i) (h2 : i ≤ t.length), 0 ≤ roots → roots ≤ i → rowB (t[i - 1]'(by omega)) = true →
    Ev (fun k => spec_TreeOk.l0 k t roots i) (treeGo ((t.take i).map (·.f0)) roots (t[i - 1]'(by omega)).f1 (t.drop i) && ((t[0]'(by omega)).f0 == 1))
  | 0, i, roots, h, h1, h2, r0, r1, hp => by
    rw [List.drop_eq_nil_of_le (by omega)]
    refine Ev.step (fun k => by simp only [spec_TreeOk.l0]; rfl) ?_
    refine ev_neg (by omega) ?_
    unfold treeGo
    by_cases hr : roots = 3
    · refine ev_pos hr (ev_pos (by omega) ?_)
      rw [decide_eq_true hr, Bool.true_and, show rd_T43 t 0 = t[0]'(by omega) from rdR_get t 0 (by omega)]
      exact evnow _
    · refine ev_neg hr ?_
      rw [decide_eq_false hr, Bool.false_and]
      exact evnow _
  | n + 1, i, roots, h, h1, h2, r0, r1, hp => by
    have hi : i < t.length := by omega
    have hi1 : i - 1 < t.length := by omega
    obtain ⟨w0, w1⟩ := hw t[i] (List.getElem_mem hi)
    obtain ⟨d0, d18⟩ := rowB_deep hp
    rw [List.drop_eq_getElem_cons hi]
    refine Ev.step (fun k => by simp only [spec_TreeOk.l0]; rfl) ?_
    refine ev_pos (by omega) (ev_pos (by omega) ?_)
    rw [rdR_get t i hi]
    refine Ev.bind (srow_f t[i] w0 w1) ?_
    unfold treeGo
    cases hrow : rowB t[i] with
    | false =>
      simp only [Bool.false_eq_true, if_false, Bool.false_and]
      refine Ev.step (fun k => by simp only [spec_TreeOk.j1]; rfl) ?_
      exact ev_pos trivial (evnow _)
    | true =>
      simp only [if_true, Bool.true_and]
      have hw1 : wrap64 ((i : Int) - 1) = ((i - 1 : Nat) : Int) := by rw [wrap_id _ (by omega) (by omega)]; omega
      rw [hw1]
      refine ev_pos (by omega) (ev_pos (by omega) (ev_pos (by omega) ?_))
      rw [rdR_get t (i - 1) hi1, wrap_id (t[i - 1].f1 + 1) (by omega) (by omega)]
      refine Ev.step (fun k => by simp only [spec_TreeOk.j1]; rfl) ?_
      by_cases hd : t[i].f1 > t[i - 1].f1 + 1
      · refine ev_pos (by simpa using hd) ?_
        rw [decide_eq_false (show ¬ t[i].f1 ≤ t[i - 1].f1 + 1 by omega), Bool.false_and, Bool.and_false, Bool.false_and]
        exact evnow _
      · refine ev_neg (by simpa using hd) (ev_pos (by omega) (ev_pos (by omega) ?_))
        rw [decide_eq_true (show t[i].f1 ≤ t[i - 1].f1 + 1 by omega), Bool.true_and, rdR_get t i hi, root_f]
        simp only [Option.bind_some]
        have hseen : ∀ x, x ∈ (t.take (i + 1)).map (·.f0) ↔ x ∈ t[i].f0 :: (t.take i).map (·.f0) := fun x => by
          rw [List.take_succ_eq_append_getElem hi, List.map_append, List.mem_append, List.mem_cons]
          simp [or_comm]
        have hstep : ∀ (roots' : Int), 0 ≤ roots' → roots' ≤ (i + 1 : Nat) → Ev (fun k => spec_TreeOk.j2 k t roots' i) (decide (t[i].f0 ∉ (t.take i).map (·.f0)) && (treeGo (t[i].f0 :: (t.take i).map (·.f0)) roots' t[i].f1 (t.drop (i + 1)) && ((t[0]'(by omega)).f0 == 1))) := fun roots' q0 q1 => by
          refine Ev.step (fun k => by simp only [spec_TreeOk.j2]; rfl) ?_
          have ih := st_l0 t hl hw n (i + 1) roots' (by omega) (by omega) (by omega) q0 q1 hrow
          have ih2 : Ev (fun k => spec_TreeOk.l0 k t roots' ((i : Int) + 1)) (treeGo (t[i].f0 :: (t.take i).map (·.f0)) roots' t[i].f1 (t.drop (i + 1)) && ((t[0]'(by omega)).f0 == 1)) := by
            rw [← treeGo_congr (t.drop (i + 1)) _ _ roots' t[i].f1 hseen]
            exact ih
          have := st_l1 t hl roots' i hi _ ih2 i 0 (by omega)
          rw [List.drop_zero] at this
          exact this
        cases hroot : rootB t[i].f0 with
        | true =>
          simp only [if_true]
          have hw2 : wrap64 (roots + 1) = roots + 1 := wrap_id _ (by omega) (by omega)
          rw [hw2]
          by_cases he : t[i].f0 = roots + 1
          · refine ev_pos he ?_
            rw [decide_eq_true he, Bool.true_and, Bool.and_assoc]
            exact hstep (roots + 1) (by omega) (by omega)
          · refine ev_neg he ?_
            rw [decide_eq_false he, Bool.false_and, Bool.and_false, Bool.false_and]
            exact evnow _
        | false =>
          simp only [Bool.false_eq_true, if_false]
          rw [Bool.and_assoc]
          exact hstep roots r0 (by omega)
theorem stree_f (t : List S43) (hl : t.length ≤ 1000000000) (hw : ∀ r ∈ t, wfR r) : Ev (fun k => spec_TreeOk.f k t) (treeB t) := by
  unfold spec_TreeOk.f treeB
  cases t with
  | nil =>
    refine Ev.step (fun k => by simp only [spec_TreeOk.l0]; rfl) ?_
    exact ev_neg (by simp) (ev_neg (by decide) (evnow _))
  | cons r rest =>
    obtain ⟨w0, w1⟩ := hw r List.mem_cons_self
    have hr0 : rd_T43 (r :: rest) 0 = r := rdR_get (r :: rest) 0 (by simp)
    refine Ev.step (fun k => by simp only [spec_TreeOk.l0]; rfl) ?_
    refine ev_pos (by simp) (ev_pos (by omega) ?_)
    rw [hr0]
    refine Ev.bind (srow_f r w0 w1) ?_
    unfold treeGo
    cases hrow : rowB r with
    | false =>
      simp only [Bool.false_eq_true, if_false, Bool.false_and]
      refine Ev.step (fun k => by simp only [spec_TreeOk.j1]; rfl) ?_
      exact ev_pos trivial (evnow _)
    | true =>
      simp only [if_true, Bool.true_and]
      refine ev_neg (by omega) ?_
      refine Ev.step (fun k => by simp only [spec_TreeOk.j1]; rfl) ?_
      refine ev_neg (by decide) (ev_pos (by omega) (ev_pos (by simp) ?_))
      rw [hr0, root_f]
      simp only [Option.bind_some]
      have hstep : ∀ (roots' : Int), 0 ≤ roots' → roots' ≤ 1 → Ev (fun k => spec_TreeOk.j2 k (r :: rest) roots' 0) (treeGo [r.f0] roots' r.f1 rest && (r.f0 == 1)) := fun roots' q0 q1 => by
        refine Ev.step (fun k => by simp only [spec_TreeOk.j2]; rfl) ?_
        have ih := st_l0 (r :: rest) hl hw rest.length 1 roots' (by simp; omega) (by omega) (by simp) q0 (by omega) hrow
        have := st_l1 (r :: rest) hl roots' 0 (by simp) _ ih 0 0 rfl
        simpa using this
      have hdp := rowB_deep hrow
      cases hroot : rootB r.f0 with
      | true =>
        simp only [if_true]
        have hd : r.f1 = 0 := by
          unfold rowB at hrow
          rw [if_pos hroot] at hrow
          simp only [Bool.and_eq_true, decide_eq_true_eq] at hrow
          exact hrow.1
        rw [decide_eq_true (show r.f1 ≤ -1 + 1 by omega), Bool.true_and, show wrap64 (0 + 1) = 1 from wrap_id (0 + 1) (by omega) (by omega)]
        by_cases he : r.f0 = 1
        · refine ev_pos he ?_
          have := hstep 1 (by omega) (by omega)
          have e1 : (r.f0 == 1) = true := beq_iff_eq.2 he
          rw [e1, Bool.and_true] at this
          simpa [he] using this
        · refine ev_neg he ?_
          rw [decide_eq_false (show ¬ r.f0 = 0 + 1 by omega), Bool.false_and, Bool.and_false]
          exact evnow _
      | false =>
        simp only [Bool.false_eq_true, if_false]
        have hd : 1 ≤ r.f1 := by
          unfold rowB at hrow
          rw [if_neg (by rw [hroot]; decide)] at hrow
          simp only [Bool.and_eq_true, decide_eq_true_eq] at hrow
          exact hrow.2.1
        have hne : (r.f0 == 1) = false := beq_eq_false_iff_ne.2 fun e => by rw [e] at hroot; exact absurd hroot (by decide)
        rw [decide_eq_false (show ¬ r.f1 ≤ -1 + 1 by omega), Bool.false_and, Bool.and_false]
        have := hstep 0 (by omega) (by omega)
        rwa [hne, Bool.and_false] at this
end Go.Proofs.YtkopimbbgckcnaaDoor.PL
set_option linter.unusedVariables false
set_option linter.unusedSimpArgs false
namespace Go.Proofs.YtkopimbbgckcnaaDoor.PL
open Go.RowKit Go.Proofs.YtkopimbbgckcnaaDoor.P Go.Proofs.YtkopimbbgckcnaaDoorW.PrintWords Go.Proofs.YtkopimbbgckcnaaDoorW.PrintLast Go.Proofs.YtkopimbbgckcnaaDoor.FP
theorem good_fold : ∀ (l : List S43) (G : Fo) (seen : List Int) (roots : Nat), treeGo seen (roots : Int) ((dpth G : Int) - 1) l = true → G.ids.Nodup → (∀ x ∈ G.ids, x ≠ 0 ∧ x < 37 ∧ (x : Int) ∈ seen) → G.tops = List.range' 1 roots →
    (l.foldl (fun G x => snoc x.f0.toNat x.f2 x.f1.toNat G) G).ids.Nodup ∧ (∀ x ∈ (l.foldl (fun G x => snoc x.f0.toNat x.f2 x.f1.toNat G) G).ids, x ≠ 0 ∧ x < 37) ∧ (l.foldl (fun G x => snoc x.f0.toNat x.f2 x.f1.toNat G) G).tops = [1, 2, 3]
  | [], G, seen, roots, h, hn, hs, ht => by
    unfold treeGo at h
    have h3 := of_decide_eq_true h
    refine ⟨hn, fun x hx => ⟨(hs x hx).1, (hs x hx).2.1⟩, ?_⟩
    show G.tops = _
    rw [ht, show roots = 3 by omega]; rfl
  | x :: l, G, seen, roots, h, hn, hs, ht => by
    unfold treeGo at h
    simp only [Bool.and_eq_true, decide_eq_true_eq] at h
    obtain ⟨hrow, hns, hdep, hrest⟩ := h
    obtain ⟨b0, b37, d0, d18⟩ := rowB_id hrow
    have he : x.f1.toNat ≤ dpth G := by omega
    have hd : ((dpth (snoc x.f0.toNat x.f2 x.f1.toNat G) : Int) - 1) = x.f1 := by rw [snoc_dpth _ _ G _ he]; omega
    have hx0 : x.f0.toNat ≠ 0 := by
      intro e
      have e2 : x.f0 = 0 := by omega
      unfold rowB at hrow
      rw [e2] at hrow
      have r0 : rootB (0 : Int) = false := by decide
      have m0 : madeB (0 : Int) = false := by decide
      simp [r0, m0] at hrow
    have hi : x.f0.toNat ∉ G.ids := fun hc => hns (by have := (hs _ hc).2.2; rwa [show ((x.f0.toNat : Nat) : Int) = x.f0 by omega] at this)
    have hn2 : (snoc x.f0.toNat x.f2 x.f1.toNat G).ids.Nodup := by
      rw [snoc_ids]
      exact List.nodup_append.2 ⟨hn, by simp, fun a ha b hb e => by rw [List.mem_singleton.1 hb] at e; exact hi (e ▸ ha)⟩
    have hs2 : ∀ y ∈ (snoc x.f0.toNat x.f2 x.f1.toNat G).ids, y ≠ 0 ∧ y < 37 ∧ (y : Int) ∈ x.f0 :: seen := fun y hy => by
      rw [snoc_ids] at hy
      rcases List.mem_append.1 hy with hy | hy
      · obtain ⟨q1, q2, q3⟩ := hs y hy; exact ⟨q1, q2, List.mem_cons_of_mem _ q3⟩
      · rw [List.mem_singleton.1 hy]
        exact ⟨hx0, by omega, by rw [show ((x.f0.toNat : Nat) : Int) = x.f0 by omega]; exact List.mem_cons_self⟩
    rw [List.foldl_cons]
    by_cases hroot : rootB x.f0 = true
    · rw [if_pos hroot, Bool.and_eq_true, decide_eq_true_eq] at hrest
      have hd0 : x.f1 = 0 := by
        unfold rowB at hrow
        rw [if_pos hroot] at hrow
        simp only [Bool.and_eq_true, decide_eq_true_eq] at hrow
        exact hrow.1
      refine good_fold l _ (x.f0 :: seen) (roots + 1) ?_ hn2 hs2 ?_
      · rw [hd]; exact hrest.2
      · rw [snoc_tops _ _ G _ he, if_pos (by omega), ht, List.range'_concat]
        rw [show x.f0.toNat = 1 + 1 * roots by omega]
    · rw [if_neg hroot] at hrest
      have hd1 : 1 ≤ x.f1 := by
        unfold rowB at hrow
        rw [if_neg hroot] at hrow
        simp only [Bool.and_eq_true, decide_eq_true_eq] at hrow
        exact hrow.2.1
      refine good_fold l _ (x.f0 :: seen) roots ?_ hn2 hs2 ?_
      · rw [hd]; exact hrest
      · rw [snoc_tops _ _ G _ he, if_neg (by omega), ht]
theorem good_of {l : List S43} (h : treeB l = true) : Good (toFo l) := by
  obtain ⟨h1, h2, h3⟩ := good_fold l .nil [] 0 h (by simp [Fo.ids]) (by simp [Fo.ids]) rfl
  exact ⟨h1, fun x hx => (h2 x hx).1, h3, by have := nodup_len 37 _ h1 (fun x hx => (h2 x hx).2); unfold toFo; omega⟩
theorem opB_kind {k i u a : Int} {s : ByteArray} (h : opB k i u a s = true) : k = 1 ∨ k = 2 ∨ k = 3 := by
  unfold opB at h
  by_cases h1 : k = 1
  · exact Or.inl h1
  · by_cases h2 : k = 2
    · exact Or.inr (Or.inl h2)
    · by_cases h3 : k = 3
      · exact Or.inr (Or.inr h3)
      · rw [if_neg h1, if_neg h2, if_neg h3] at h; simp at h
/-- What OpDo tells. -/
def opDoR (l : List S43) (k i u a : Int) (s : ByteArray) : List S43 := if opB k i u a s = true then (if treeB l = true then (doF (toFo l) k i u a s).fl 0 else []) else []
theorem iopDo_f (l : List S43) (k i u a : Int) (s : ByteArray) (hs : s.size ≤ 9223372036854775807) : Ev (fun n => impl_OpDo.f n l k i u a s) (opDoR l k i u a s) := by
  unfold impl_OpDo.f opDoR
  exact Ev.bind (opOk_f k i u a s hs) (evnow _)
theorem sopDo_f (l : List S43) (k i u a : Int) (s : ByteArray) (hl : l.length ≤ 1000000000) (hw : ∀ r ∈ l, wfR r) (hi : I64 i) (hu : I64 u) (ha : I64 a) (hs : s.size ≤ 9223372036854775807) : Ev (fun n => spec_OpDo.f n l k i u a s) (opDoR l k i u a s) := by
  unfold spec_OpDo.f opDoR
  refine Ev.bind (stree_f l hl hw) ?_
  cases ht : treeB l with
  | false =>
    simp only [Bool.false_eq_true, if_false, ite_self]
    exact evnow _
  | true =>
    simp only [if_true]
    refine Ev.bind (sop_f k i u a s hi hu ha hs) ?_
    cases ho : opB k i u a s with
    | false =>
      simp only [Bool.false_eq_true, if_false]
      exact evnow _
    | true =>
      simp only [if_true]
      obtain ⟨m, rfl, h4, h37⟩ := made_num (opB_made k i u a s ho)
      have g := good_of ht
      have := do_x g k m (by omega) (by rw [g.tops]; simp; omega) u a s (opB_kind ho)
      rw [toFo_fl ht] at this
      exact Ev.bind this (evnow _)
end Go.Proofs.YtkopimbbgckcnaaDoor.PL
set_option linter.unusedVariables false
set_option linter.unusedSimpArgs false
namespace Go.Proofs.YtkopimbbgckcnaaDoor.PL
open Go.RowKit Go.Proofs.YtkopimbbgckcnaaDoor.P Go.Proofs.YtkopimbbgckcnaaDoorW.PrintWords Go.Proofs.YtkopimbbgckcnaaDoorW.PrintLast Go.Proofs.YtkopimbbgckcnaaDoor.FP
noncomputable def mkR (a : Int) : S43 := ⟨a, a + 1, mt (a + 2)⟩
noncomputable def marksR : Int → Nat → List S43
  | _, 0 => []
  | a, n + 1 => mkR a :: marksR (a + 3) n
theorem marksR_len : ∀ (n : Nat) (a : Int), (marksR a n).length = n
  | 0, _ => rfl
  | n + 1, a => by rw [marksR, List.length_cons, marksR_len n]
theorem rdRw_set (x : List S43) (i : Int) (v : S43) (h0 : 0 ≤ i) (h : i < x.length) : rd_T43 (x.set i.toNat v) i = v := by
  unfold rd_T43
  rw [List.getD_eq_getElem?_getD, List.getElem?_set_self (by omega)]
  rfl
theorem markR_ev (d : Nat) : ∀ (x : List S43) (a i : Int), 0 ≤ i → (x.length : Int) - i = d → x.length ≤ 1099511627776 → 0 ≤ a → a + 3 * d ≤ 1152921504606846976 →
    Ev (fun k => laws_markRowS.l0 k x a i) (a + 3 * d, x.take i.toNat ++ marksR a d) := by
  induction d with
  | zero =>
    intro x a i h0 hd hl ha hb
    refine Ev.step (f := fun _ => some (a, x)) (fun k => ?_) ?_
    · simp only [laws_markRowS.l0]; rw [if_neg (by omega)]
    · rw [List.take_of_length_le (by omega)]; simp only [marksR, List.append_nil]
      rw [show a + 3 * ((0 : Nat) : Int) = a by omega]; exact evnow _
  | succ d ih =>
    intro x a i h0 hd hl ha hb
    have hi : i < (x.length : Int) := by omega
    have e1 : wrap64 (a + 1) = a + 1 := wrapS a ha (by omega)
    have e2 : wrap64 (a + 1 + 1) = a + 2 := by rw [wrapS _ (by omega) (by omega)]; omega
    have e3 : wrap64 (a + 2 + 1) = a + 3 := by rw [wrapS _ (by omega) (by omega)]; omega
    have ei : wrap64 (i + 1) = i + 1 := wrapS i h0 (by omega)
    have H := ih (x.set i.toNat (mkR a)) (a + 3) (i + 1) (by omega) (by rw [List.length_set]; omega) (by rw [List.length_set]; omega) (by omega) (by omega)
    rw [take_set_next x i _ h0 hi, show a + 3 + 3 * (d : Int) = a + 3 * ((d + 1 : Nat) : Int) by omega, List.append_assoc] at H
    refine Ev.step (f := fun k => (laws_markText.f k (a + 2)).bind fun t => laws_markRowS.l0 k (x.set i.toNat ⟨a, a + 1, t⟩) (a + 3) (i + 1)) (fun k => ?_) (Ev.bind (mt_ev _ (by omega)) H)
    simp only [laws_markRowS.l0, if_pos hi, if_pos h0, Option.bind_some, set_set_, rdRw_set _ _ _ h0 hi, e1, e2, e3, ei]
theorem heldR_ev (d : Nat) : ∀ (x : List S43) (a i : Int), 0 ≤ i → (x.length : Int) - i = d → x.length ≤ 1099511627776 → 0 ≤ a → a + 3 * d ≤ 1152921504606846976 → x.drop i.toNat = marksR a d →
    Ev (fun k => laws_heldRowS.l0 k x a i) (a + 3 * d) := by
  induction d with
  | zero =>
    intro x a i h0 hd hl ha hb he
    refine Ev.step (f := fun _ => some a) (fun k => ?_) ?_
    · simp only [laws_heldRowS.l0]; rw [if_neg (by omega)]
    · rw [show a + 3 * ((0 : Nat) : Int) = a by omega]; exact evnow _
  | succ d ih =>
    intro x a i h0 hd hl ha hb he
    have hi : i < (x.length : Int) := by omega
    have e1 : wrap64 (a + 1) = a + 1 := wrapS a ha (by omega)
    have e2 : wrap64 (a + 1 + 1) = a + 2 := by rw [wrapS _ (by omega) (by omega)]; omega
    have e3 : wrap64 (a + 2 + 1) = a + 3 := by rw [wrapS _ (by omega) (by omega)]; omega
    have ei : wrap64 (i + 1) = i + 1 := wrapS i h0 (by omega)
    have hn : i.toNat < x.length := by omega
    have hc := List.drop_eq_getElem_cons hn
    rw [he, marksR] at hc
    have hx : rd_T43 x i = mkR a := by
      unfold rd_T43
      rw [List.getD_eq_getElem?_getD, List.getElem?_eq_getElem hn]
      exact (List.cons.inj hc).1.symm
    have H := ih x (a + 3) (i + 1) (by omega) (by omega) hl (by omega) (by omega) (by rw [show (i + 1).toNat = i.toNat + 1 by omega]; exact (List.cons.inj hc).2.symm)
    rw [show a + 3 + 3 * (d : Int) = a + 3 * ((d + 1 : Nat) : Int) by omega] at H
    refine Ev.step (f := fun k => (laws_markText.f k (a + 2)).bind fun t => if (mt (a + 2)).toList = t.toList then laws_heldRowS.l0 k x (a + 3) (i + 1) else some (-1)) (fun k => ?_) (Ev.bind (mt_ev _ (by omega)) (Ev.congr (fun k => if_pos rfl) H))
    simp only [laws_heldRowS.l0]
    rw [if_pos hi, if_pos h0, e1, e2, e3, ei, hx]
    simp only [mkR, if_true]
    rfl
theorem markR_f (x : List S43) (a : Int) (hl : x.length ≤ 1099511627776) (ha : 0 ≤ a) (hb : a ≤ 1125899906842624) :
    Ev (fun k => laws_markRowS.f k x a) (a + 3 * x.length, marksR a x.length) := by
  have h := markR_ev x.length x a 0 (by omega) (by omega) hl ha (by omega)
  simp only [Int.toNat_zero, List.take_zero, List.nil_append] at h
  exact h
theorem heldR_f (n : Nat) (a : Int) (hl : n ≤ 1099511627776) (ha : 0 ≤ a) (hb : a ≤ 1125899906842624) :
    Ev (fun k => laws_heldRowS.f k (marksR a n) a) (a + 3 * n) :=
  heldR_ev n (marksR a n) a 0 (by omega) (by rw [marksR_len]; omega) (by rw [marksR_len]; exact hl) ha (by omega) rfl
theorem eqRow_refl (a b : Int) (e : ByteArray) : laws_eqRow.f a b e a b e = some true := by simp [laws_eqRow.f]
theorem eqR_ev (d : Nat) : ∀ (x : List S43) (i : Int), 0 ≤ i → (x.length : Int) - i = d → x.length ≤ 1099511627776 → Ev (fun k => laws_eqRowS.l0 k x x i) true := by
  induction d with
  | zero =>
    intro x i h0 hd hl
    refine Ev.step (f := fun _ => some true) (fun k => ?_) (evnow _)
    simp only [laws_eqRowS.l0]; rw [if_neg (by omega)]
  | succ d ih =>
    intro x i h0 hd hl
    have hi : i < (x.length : Int) := by omega
    refine Ev.step (fun k => ?_) (ih x (i + 1) (by omega) (by omega) hl)
    simp only [laws_eqRowS.l0, if_pos hi, if_pos h0, eqRow_refl, Option.bind_some, if_true, wrapS i h0 (by omega)]
theorem eqR (x : List S43) (hl : x.length ≤ 1099511627776) : Ev (fun k => laws_eqRowS.f k x x) true :=
  Ev.congr (fun k => by simp only [laws_eqRowS.f, if_true]) (eqR_ev x.length x 0 (by omega) (by omega) hl)
def convR (e : S54) : S43 := ⟨e.f0, e.f1, e.f2⟩
def wfXR (e : S54) : Prop := I64 e.f0 ∧ I64 e.f1 ∧ e.f2.size ≤ 9223372036854775807
theorem rdXR_get (l : List S54) (i : Nat) (h : i < l.length) : rd_T54 l i = l[i] := by
  unfold rd_T54
  rw [List.getD_eq_getElem?_getD, show ((i : Int)).toNat = i from rfl, List.getElem?_eq_getElem h]
  rfl
theorem wf_convR {l : List S54} (h : ∀ e ∈ l, wfXR e) : ∀ r ∈ l.map convR, wfR r := by
  intro e he
  obtain ⟨x, hx, rfl⟩ := List.mem_map.1 he
  exact ⟨(h x hx).1, (h x hx).2.2⟩
theorem szR_l0 (l : List S54) (hw : ∀ e ∈ l, wfXR e) (hl : l.length ≤ 1099511627776) : ∀ (n : Nat) (i : Nat) (b : Int), i + n = l.length → 0 ≤ b → b ≤ 1048576 → ∃ r : Int, Ev (fun k => laws_szRowS.l0 k l b i) r ∧ r ≤ 1048576
  | 0, i, b, h, h0, h1 => ⟨b, Ev.step (f := fun _ => some b) (fun k => by simp only [laws_szRowS.l0]; rw [if_neg (by omega)]) (evnow _), h1⟩
  | n + 1, i, b, h, h0, h1 => by
    have hi : i < l.length := by omega
    obtain ⟨_, _, hs⟩ := hw _ (List.getElem_mem hi)
    have hww : wrap64 (b - (l[i].f2.size : Int)) = b - l[i].f2.size := by unfold wrap64; omega
    by_cases hb : b - (l[i].f2.size : Int) < 0
    · refine ⟨-1, Ev.step (f := fun _ => some (-1)) (fun k => ?_) (evnow _), by omega⟩
      simp only [laws_szRowS.l0]
      rw [if_pos (by omega), if_pos (by omega), rdXR_get l i hi]
      simp only [laws_szRow.f, hww]
      rw [if_pos hb]
      rfl
    · obtain ⟨r, hr, hr1⟩ := szR_l0 l hw hl n (i + 1) (b - l[i].f2.size) (by omega) (by omega) (by omega)
      refine ⟨r, Ev.step (fun k => ?_) hr, hr1⟩
      simp only [laws_szRowS.l0]
      rw [if_pos (by omega), if_pos (by omega), rdXR_get l i hi]
      simp only [laws_szRow.f, hww]
      rw [if_neg hb]
      simp only [Option.bind_some]
      rw [if_neg hb, wrapS i (by omega) (by omega)]
      rfl
theorem szR_f (l : List S54) (hw : ∀ e ∈ l, wfXR e) (hl : l.length ≤ 9223372036854775807) : ∃ r : Int, Ev (fun k => laws_szRowS.f k l 1048576) r ∧ r ≤ 1048576 ∧ (¬ r < 0 → l.length ≤ 1048576) := by
  unfold laws_szRowS.f
  have hww : wrap64 (1048576 - (l.length : Int)) = 1048576 - l.length := by unfold wrap64; omega
  rw [hww]
  by_cases hb : 1048576 - (l.length : Int) < 0
  · exact ⟨-1, ev_pos hb (evnow _), by omega, fun h => absurd (by decide) h⟩
  · obtain ⟨r, hr, hr1⟩ := szR_l0 l hw (by omega) l.length 0 (1048576 - l.length) (by omega) (by omega) (by omega)
    exact ⟨r, ev_neg hb hr, hr1, fun _ => by omega⟩
theorem toR_l0 (l : List S54) (hl : l.length ≤ 1099511627776) : ∀ (n : Nat) (i : Nat) (x : List S43), i + n = l.length → x.length = l.length → x.take i = (l.take i).map convR → Ev (fun k => laws_toRowS.l0 k l x i) (l.map convR)
  | 0, i, x, h, hx, ht => by
    refine Ev.step (f := fun _ => some x) (fun k => ?_) ?_
    · simp only [laws_toRowS.l0]; rw [if_neg (by omega)]
    · rw [List.take_of_length_le (by omega), List.take_of_length_le (by omega)] at ht
      rw [ht]; exact evnow _
  | n + 1, i, x, h, hx, ht => by
    have hi : i < l.length := by omega
    refine Ev.step (fun k => ?_) (toR_l0 l hl n (i + 1) (x.set i (convR l[i])) (by omega) (by rw [List.length_set]; exact hx) ?_)
    · simp only [laws_toRowS.l0]
      rw [if_pos (by omega), if_pos (by omega), rdXR_get l i hi]
      simp only [laws_toRow.f, Option.bind_some]
      rw [if_pos (by omega), wrapS i (by omega) (by omega)]
      rfl
    · have := take_set_next x (i : Int) (convR l[i]) (by omega) (by omega)
      simp only [Int.toNat_natCast] at this
      rw [show ((i : Int) + 1).toNat = i + 1 by omega] at this
      rw [this, ht, List.take_succ_eq_append_getElem hi, List.map_append]
      rfl
theorem toR_f (l : List S54) (hl : l.length ≤ 1048576) : Ev (fun k => laws_toRowS.f k l) (l.map convR) := by
  unfold laws_toRowS.f
  refine ev_pos (by omega) (ev_pos (by omega) ?_)
  exact toR_l0 l (by omega) l.length 0 _ (by omega) (by simp) (by simp)
theorem doF_len {G : Fo} (g : Good G) (kd : Int) (i : Nat) (hit : i ∉ G.tops) (up at_ : Int) (s : ByteArray) : (doF G kd (i : Int) up at_ s).ids.length ≤ 2000 := by
  have hg := g.len
  unfold doF
  rcases fndF_cases g i with ⟨hi, hf⟩ | ⟨hi, hf⟩
  · have hi0 := g.ne0 i hi
    rw [hf, if_neg hi0, if_neg hi0, if_neg hi0]
    split
    · rw [setF_ids]; omega
    · split
      · omega
      · split
        · omega
        · rename_i hu
          obtain ⟨h, hr⟩ := reptop_ex G g.nd g.ne0
          have hp := near_del hr g.nd g.three hi hit (id := (i : Int)) (up := up) (at_ := at_) rfl hu
          have hperm := ids_del i G g.nd hi
          obtain ⟨n1, n2⟩ := List.nodup_cons.1 (hperm.nodup_iff.1 g.nd)
          obtain ⟨n3, n4, n5⟩ := List.nodup_append.1 n2
          have e1 := (putF_ids (p := nearF G (i : Int) up at_) (i := i) (t := txtF i G) (s := sub i G) n4 hp.1 (hp.2.imp id And.left)).length_eq
          have e2 := hperm.length_eq
          simp only [List.length_cons, List.length_append] at e1 e2
          omega
  · rw [hf, if_pos rfl, if_pos rfl, if_pos rfl]
    have hp := near_ok (G := G) (tops_ids g.three) (i : Int) up at_
    have e1 := (putF_ids (p := nearF G (i : Int) up at_) (i := (i : Int).toNat) (t := s) (s := .nil) g.nd hp.up (hp.at_.imp id And.left)).length_eq
    simp only [List.length_cons, List.length_append, Fo.ids, List.length_nil] at e1
    split
    · omega
    · split <;> omega
theorem opDoR_len (l : List S43) (k i u a : Int) (s : ByteArray) : (opDoR l k i u a s).length ≤ 2000 := by
  unfold opDoR
  split
  · rename_i ho
    split
    · rename_i ht
      obtain ⟨m, rfl, h4, h37⟩ := made_num (opB_made k i u a s ho)
      have g := good_of ht
      rw [fl_len]
      exact doF_len g k m (by rw [g.tops]; simp; omega) u a s
    · simp
  · simp
end Go.Proofs.YtkopimbbgckcnaaDoor.PL
set_option linter.unusedVariables false
set_option linter.unusedSimpArgs false
namespace Go.Proofs.YtkopimbbgckcnaaDoor.PL
open Go.RowKit Go.Proofs.YtkopimbbgckcnaaDoor.P Go.Proofs.YtkopimbbgckcnaaDoorW.PrintWords Go.Proofs.YtkopimbbgckcnaaDoorW.PrintLast Go.Proofs.YtkopimbbgckcnaaDoor.FP
theorem ev_some {α : Type} {g : Nat → Option α} {r : α} (h : Ev g r) : ∃ k, g k = some r := by
  obtain ⟨K, h⟩ := h
  exact ⟨K, h K (Nat.le_refl K)⟩
theorem FnExactOpDo (l : List S54) (kd i u a : Int) (s : ByteArray) (hw : ∀ e ∈ l, wfXR e) (hl : l.length ≤ 9223372036854775807) (hi : I64 i) (hu : I64 u) (ha : I64 a) (hs : s.size ≤ 9223372036854775807) : ∃ k, laws_FnExactOpDo.f k l kd i u a s = some true := by
  refine ev_some ?_
  obtain ⟨r, hr, hr1, hb⟩ := szR_f l hw hl
  unfold laws_FnExactOpDo.f
  refine Ev.bind hr ?_
  by_cases h0 : r < 0
  · refine ev_pos h0 (evnow _)
  · refine ev_neg h0 ?_
    have hlen := hb h0
    have hww : wrap64 (r - (s.size : Int)) = r - s.size := by unfold wrap64; omega
    by_cases h1 : r - (s.size : Int) < 0
    · refine Ev.bind (a := (-1 : Int)) ?_ (ev_pos (by decide) (evnow _))
      unfold laws_szOp.f
      rw [hww]
      exact ev_pos h1 (evnow _)
    · refine Ev.bind (a := r - (s.size : Int)) ?_ (ev_neg h1 ?_)
      · unfold laws_szOp.f
        rw [hww]
        exact ev_neg h1 (evnow _)
      · have hT := toR_f l hlen
        have hO : Ev (fun _ => laws_toOp.f kd i u a s) (kd, i, u, a, s) := evnow _
        have hcl : (l.map convR).length ≤ 1099511627776 := by rw [List.length_map]; omega
        have hn := opDoR_len (l.map convR) kd i u a s
        have hn1 : (opDoR (l.map convR) kd i u a s).length ≤ 1099511627776 := by omega
        have hn2 : ¬ ((1 : Int) + 3 * ((opDoR (l.map convR) kd i u a s).length : Int) < 0) := by omega
        have hI := iopDo_f (l.map convR) kd i u a s hs
        have hS := sopDo_f (l.map convR) kd i u a s (by rw [List.length_map]; omega) (wf_convR hw) hi hu ha hs
        refine Ev.bind hT (Ev.bind hO (Ev.bind hS (Ev.bind hT (Ev.bind hO (Ev.bind hI ?_)))))
        refine Ev.bind (eqR _ hn1) (ev_pos rfl ?_)
        refine Ev.bind hT (Ev.bind (eqR _ hcl) (ev_pos rfl ?_))
        refine Ev.bind (markR_f _ 1 hcl (by omega) (by omega)) (ev_neg (by omega) ?_)
        refine Ev.bind (eqR _ hn1) (ev_pos rfl ?_)
        refine Ev.bind (markR_f _ 1 hn1 (by omega) (by omega)) ?_
        refine Ev.bind (heldR_f _ 1 hn1 (by omega) (by omega)) (ev_neg hn2 (ev_pos rfl ?_))
        refine Ev.bind hT (Ev.bind hO (Ev.bind hI ?_))
        refine Ev.bind (eqR _ hn1) (ev_pos rfl ?_)
        refine Ev.bind (heldR_f _ 1 hn1 (by omega) (by omega)) (ev_neg hn2 ?_)
        exact ev_pos rfl (evnow _)
end Go.Proofs.YtkopimbbgckcnaaDoor.PL
namespace Go.Proofs.YtkopimbbgckcnaaDoor.P
open Go.ChangeShapes Go.WideShapes Go.ChangeAt Go.RowKit
theorem tOwners : (Tryd.prog.globals[0]?).map (·.type) = some 73 := by kernel_rfl
theorem cOwners : Tryd.prog.cellsOf 73 = 37 := by kernel_rfl
theorem cInt : Tryd.prog.cellsOf 3 = 1 := by kernel_rfl
abbrev ownCells : Array Value := (owners.map fun z => Value.int .i64 z).toArray
theorem glob_of_laid {W : World} (h : laidMet Tryd.prog [("loop.example/plashet/impl.rowOwners", Rows.laid_loop_example_plashet_impl_rowOwners)] W) : Glob W :=
  Lib.tabIs_of_head gOwners tOwners Tryd.underlying73 Tryd.underlying3 cInt cOwners h
theorem door_met (os : Os) (args : Array Value) : laidMet Tryd.prog [("loop.example/plashet/impl.rowOwners", Rows.laid_loop_example_plashet_impl_rowOwners)] ((World.doorLaid Tryd.prog 400 os).forCall (fun _ _ => 0) ⟨#[], args, []⟩).memory :=
  laidMet_of_run' 8 (by kernel_rfl) (by kernel_rfl)
abbrev tableH {H : Type} : DataW H := .agg (owners.map fun z => .lit (.int .i64 z))
theorem reads_table {H : Type} (enc : TypeId × Value → H) (W : World) (sp : Nat → Bool) : DataW.trod enc Tryd.prog W 0 sp true 3 73 ownCells.toList = some (tableH, []) := by kernel_rfl
theorem tab_vars {H : Type} (enc : TypeId × Value → H) {W : World} (h : Glob W) {sp : Nat → Bool} : DataW.TrodVars enc Tryd.prog W sp ["loop.example/plashet/impl.rowOwners"] [tableH] (MemPlace.row ⟨0, 0, none⟩ ownCells.size ++ [] ++ []) :=
  ⟨0, 73, ownCells, 3, [], [], gOwners, tOwners, h, reads_table enc W sp, rfl, rfl⟩
end Go.Proofs.YtkopimbbgckcnaaDoor.P
set_option linter.unusedVariables false
set_option linter.unusedSimpArgs false
namespace Go.Proofs.YtkopimbbgckcnaaDoor.PL
open Go.ChangeShapes Go.WideShapes Go.ChangeAt Go.RowKit Go.Deep Go.Joins Go.Proofs.YtkopimbbgckcnaaDoor.P Go.Proofs.YtkopimbbgckcnaaDoorW.PrintWords Go.Proofs.YtkopimbbgckcnaaDoorW.PrintLast
set_option maxRecDepth 100000
section
variable {H : Type} {enc : TypeId × Value → H} {w : World} {base : Nat} {sp : Nat → Bool} {held : Bool}
theorem cO : Tryd.prog.cellsOf 24 = 5 := by kernel_rfl
theorem cR : Tryd.prog.cellsOf 54 = 3 := by kernel_rfl
theorem cS : Tryd.prog.cellsOf 9 = 1 := by kernel_rfl
theorem i64_of {n : Int} (h : (Lit.int .i64 n).wf = true) : I64 n := by
  simp only [Lit.wf, Bool.and_eq_true, decide_eq_true_eq] at h
  obtain ⟨h1, h2⟩ := h
  exact ⟨h1, h2⟩
/-- A field of one whole number. -/
theorem fld_int {n o : Nat} {cs : List Value} {y : DataW H × List MemPlace} (h : DataW.trod enc Tryd.prog w base sp held n 3 ((cs.drop o).take (Tryd.prog.cellsOf 3)) = some y) : ∃ a : Int, cs[o]? = some (.int .i64 a) ∧ I64 a := by
  obtain ⟨a, e, _, hw⟩ := DataW.trod_int Tryd.underlying3 h
  refine ⟨a, ?_, i64_of hw⟩
  rw [cInt] at e
  have := congrArg (·[0]?) e
  simpa [List.getElem?_take, List.getElem?_drop] using this
theorem fld_str {n o : Nat} {cs : List Value} {y : DataW H × List MemPlace} (h : DataW.trod enc Tryd.prog w base sp held n 9 ((cs.drop o).take (Tryd.prog.cellsOf 9)) = some y) : ∃ s : ByteArray, cs[o]? = some (.string s) ∧ s.size ≤ 9223372036854775807 := by
  obtain ⟨s, e, _, hw⟩ := DataW.trod_string Tryd.underlying9 h
  refine ⟨s, ?_, hw⟩
  rw [cS] at e
  have := congrArg (·[0]?) e
  simpa [List.getElem?_take, List.getElem?_drop] using this
theorem open_op {fuel : Nat} {cs : List Value} {y : DataW H × List MemPlace} (h : DataW.trod enc Tryd.prog w base sp held fuel 24 cs = some y) :
    ∃ (a b c d : Int) (s : ByteArray), cs = [.int .i64 a, .int .i64 b, .int .i64 c, .int .i64 d, .string s] ∧ I64 a ∧ I64 b ∧ I64 c ∧ I64 d ∧ s.size ≤ 9223372036854775807 := by
  obtain ⟨xs, n, _, _, hl, hlen, hf⟩ := DataW.trod_struct Tryd.underlying24 h
  rw [cO] at hl
  match xs, hlen, hf with
  | [y0, y1, y2, y3, y4], _, hf =>
    obtain ⟨a, e0, w0⟩ := fld_int (o := 0) (hf 0 _ rfl)
    obtain ⟨b, e1, w1⟩ := fld_int (o := 1) (hf 1 _ rfl)
    obtain ⟨c, e2, w2⟩ := fld_int (o := 2) (hf 2 _ rfl)
    obtain ⟨d, e3, w3⟩ := fld_int (o := 3) (hf 3 _ rfl)
    obtain ⟨s, e4, w4⟩ := fld_str (o := 4) (hf 4 _ rfl)
    match cs, hl, e0, e1, e2, e3, e4 with
    | [c0, c1, c2, c3, c4], _, e0, e1, e2, e3, e4 =>
      simp only [List.getElem?_cons_zero, List.getElem?_cons_succ, Option.some.injEq] at e0 e1 e2 e3 e4
      subst e0 e1 e2 e3 e4
      exact ⟨a, b, c, d, s, rfl, w0, w1, w2, w3, w4⟩
theorem open_row {fuel : Nat} {cs : List Value} {y : DataW H × List MemPlace} (h : DataW.trod enc Tryd.prog w base sp held fuel 54 cs = some y) :
    ∃ e : S54, cs = [.int .i64 e.f0, .int .i64 e.f1, .string e.f2] ∧ wfXR e := by
  obtain ⟨xs, n, _, _, hl, hlen, hf⟩ := DataW.trod_struct Tryd.underlying54 h
  rw [cR] at hl
  match xs, hlen, hf with
  | [y0, y1, y2], _, hf =>
    obtain ⟨a, e0, w0⟩ := fld_int (o := 0) (hf 0 _ rfl)
    obtain ⟨b, e1, w1⟩ := fld_int (o := 1) (hf 1 _ rfl)
    obtain ⟨s, e2, w2⟩ := fld_str (o := 2) (hf 2 _ rfl)
    match cs, hl, e0, e1, e2 with
    | [c0, c1, c2], _, e0, e1, e2 =>
      simp only [List.getElem?_cons_zero, List.getElem?_cons_succ, Option.some.injEq] at e0 e1 e2
      subst e0 e1 e2
      exact ⟨⟨a, b, s⟩, rfl, w0, w1, w2⟩
theorem list_of_all {α : Type} (P : Nat → α → Prop) : ∀ n : Nat, (∀ i, i < n → ∃ e, P i e) → ∃ l : List α, l.length = n ∧ ∀ i e, l[i]? = some e → P i e
  | 0, _ => ⟨[], rfl, fun i e h => by simp at h⟩
  | n + 1, h => by
    obtain ⟨l, hl, hp⟩ := list_of_all P n (fun i hi => h i (by omega))
    obtain ⟨e, he⟩ := h n (by omega)
    refine ⟨l ++ [e], by simp [hl], fun i x hx => ?_⟩
    rcases Nat.lt_or_ge i l.length with hi | hi
    · rw [List.getElem?_append_left hi] at hx
      exact hp i x hx
    · rw [List.getElem?_append_right hi] at hx
      have h0 : i - l.length = 0 := by
        rcases Nat.eq_zero_or_pos (i - l.length) with h0 | h0
        · exact h0
        · rw [List.getElem?_eq_none (by simp; omega)] at hx
          cases hx
      rw [h0] at hx
      simp only [List.getElem?_cons_zero, Option.some.injEq] at hx
      subst hx
      rw [show i = n by omega]
      exact he
/-- A slice of rows, opened. -/
theorem open_rowsL {fuel : Nat} {cs : List Value} {y : DataW H × List MemPlace} (h : DataW.trod enc Tryd.prog w base sp held fuel 22 cs = some y) :
    ∃ (A : Option Addr) (cap : Nat) (l : List S54), cs = [.slice A l.length cap] ∧ Kd.C k54 w A l.length l ∧ l.length ≤ cap ∧ l.length ≤ 9223372036854775807 ∧ ∀ e ∈ l, wfXR e := by
  rcases open_slice Tryd.underlying22 h with ⟨rfl, _⟩ | ⟨a, len, cap, m, n, D, Pl, rfl, _, hl, hm, hmm, _, hel⟩
  · exact ⟨none, 0, [], rfl, Kd.C_nil _ _, by simp, by simp, fun e he => by cases he⟩
  · have hlm : len ≤ m := by rw [hmm]; split <;> omega
    obtain ⟨l, hlen, hp⟩ := list_of_all (fun i (e : S54) => wfXR e ∧ w.cells? base (a.add (i * 3)) 3 = some [.int .i64 e.f0, .int .i64 e.f1, .string e.f2]) len (fun i hi => by
      obtain ⟨cs', hc, hd⟩ := hel i (by omega)
      obtain ⟨e, rfl, hw⟩ := open_row hd
      rw [cR] at hc
      exact ⟨e, hw, hc⟩)
    have hmx : cap ≤ 9223372036854775807 := hm
    refine ⟨some a, cap, l, by rw [hlen], ⟨rfl, by omega, fun _ => ⟨a, rfl, fun j p hj => ?_⟩⟩, by omega, by omega, fun e he => ?_⟩
    · obtain ⟨_, hc⟩ := hp j p hj
      refine ⟨_, rfl, k54_mk w p, fun i u hu => ?_⟩
      obtain ⟨_, hlc, hc2⟩ := World.cells?_some hc
      have hi : i < 3 := by
        rcases Nat.lt_or_ge i 3 with hi | hi
        · exact hi
        · rw [List.getElem?_eq_none (by rw [hlc]; exact hi)] at hu
          cases hu
      have := hc2 i hi
      rw [hu] at this
      show w.cell? (a.add (j * 3 + i)) = some u
      rw [← this]
      congr 1
      generalize j * 3 = x
      unfold Addr.add
      by_cases h1 : x = 0 <;> by_cases h2 : i = 0 <;> simp [h1, h2, Nat.add_assoc]
    · obtain ⟨i, hi, rfl⟩ := List.getElem_of_mem he
      exact (hp i _ (List.getElem?_eq_getElem hi)).1
/-- A slice of rows by value, opened. -/
theorem open_rowsV {v : Value} {d : DataW H} {p : List MemPlace} (hv : Value.okWide Tryd.prog w .any base 22 v) (h : DataW.Trod enc Tryd.prog w 0 sp held 22 v d p) :
    ∃ (A : Option Addr) (cap : Nat) (l : List S54), v = .slice A l.length cap ∧ Kd.C k54 w A l.length l ∧ l.length ≤ cap ∧ l.length ≤ 9223372036854775807 ∧ ∀ e ∈ l, wfXR e := by
  obtain ⟨a, len, cap, rfl⟩ := okWide_slice Tryd.underlying22 hv
  obtain ⟨fuel, hf⟩ := h
  obtain ⟨A, c, l, e, hC, hc, hl, hw⟩ := open_rowsL hf
  have e' : [Value.slice a len cap] = [.slice A l.length c] := e
  exact ⟨A, c, l, (List.cons.inj e').1, hC, hc, hl, hw⟩
/-- An operation by value, opened. -/
theorem open_opV {v : Value} {d : DataW H} {p : List MemPlace} (hv : Value.okWide Tryd.prog w .any base 24 v) (h : DataW.Trod enc Tryd.prog w 0 sp held 24 v d p) :
    ∃ (a b c e : Int) (s : ByteArray), v = .agg #[.int .i64 a, .int .i64 b, .int .i64 c, .int .i64 e, .string s] ∧ I64 a ∧ I64 b ∧ I64 c ∧ I64 e ∧ s.size ≤ 9223372036854775807 := by
  obtain ⟨cs, rfl, hsz⟩ := okWide_struct Tryd.underlying24 hv
  obtain ⟨fuel, hf⟩ := h
  obtain ⟨a, b, c, e, s, he, h0, h1, h2, h3, h4⟩ := open_op hf
  refine ⟨a, b, c, e, s, ?_, h0, h1, h2, h3, h4⟩
  have he' : cs.toList = [.int .i64 a, .int .i64 b, .int .i64 c, .int .i64 e, .string s] := he
  rw [show cs = cs.toList.toArray by simp, he']
end
end Go.Proofs.YtkopimbbgckcnaaDoor.PL
namespace Go.Proofs.YtkopimbbgckcnaaDoor.fnExactOpDo
open Go.ChangeShapes Go.WideShapes Go.ChangeAt Go.RowKit
open Go.ChangeMaps (open_string shut_string)
set_option linter.unusedVariables false
theorem own : ownKnob Tryd.prog.godebug = none := by kernel_rfl
theorem laidOut : laidOutB Tryd.prog = true := by kernel_rfl
set_option maxRecDepth 100000 in
theorem lifted (os : Os) (started : os.Started) (H : Type) (enc : TypeId × Value → H) :
    ReturnsInHanded {} Tryd.checked os 3 .any (fun w args => (Rows.fnExactOpDoSpec.pre enc Tryd.prog Tryd.f3 [] false w args ∧ laidMet Tryd.prog [("loop.example/plashet/impl.rowOwners", Rows.laid_loop_example_plashet_impl_rowOwners)] w) ∧ sizedMet enc Tryd.prog Tryd.f3 (OpenSpec.ofChange Rows.fnExactOpDoSpec) false w args) (Rows.fnExactOpDoSpec.post enc Tryd.prog Tryd.f3 false true false false) := by
  refine returnsInHanded_of_change_and (C := Tryd.checked) (X := fun w _ => laidMet Tryd.prog [("loop.example/plashet/impl.rowOwners", Rows.laid_loop_example_plashet_impl_rowOwners)] w) (fun _ _ _ hh h => h.of_heap hh) own started (by kernel_rfl) Tryd.func3
    (ChangeSpec.witness_shaped (enc := enc) (C := Tryd.checked) (os := os) (X := fun w _ => laidMet Tryd.prog [("loop.example/plashet/impl.rowOwners", Rows.laid_loop_example_plashet_impl_rowOwners)] w) false (World.doorLaid Tryd.prog 400 os) #[.slice none 0 0, .agg #[.int .i64 0, .int .i64 0, .int .i64 0, .int .i64 0, .string ⟨#[]⟩]] 8 rfl (World.shaped_of_RefB (by kernel_rfl) (by kernel_rfl)) (by kernel_rfl) (by kernel_rfl) (by kernel_rfl) (P.door_met os _)) ?_
  intro W base args ds gs before hval0 hW _ _ hL _
  have hval : ∀ (j : Nat) t v, Tryd.f3.params[j]? = some t → args[j]? = some v → Value.okWide Tryd.prog W .any base t v := hval0
  have hW' := hW
  obtain ⟨p, q, hA0, hV, rfl, hfz, hnd⟩ := hW
  have hA : DataW.TrodAll enc Tryd.prog W 0 (fun _ => true) true Tryd.f3.params.toList args.toList ds p := hA0
  rw [Tryd.params3] at hA hval
  obtain ⟨v0, vs0, d0, ds0, p0, q0, hargs, rfl, rfl, h0, r0⟩ := trodAll_cons hA
  obtain ⟨v1, vs1, d1, ds1, p1, q1, rfl, rfl, rfl, h1, r1⟩ := trodAll_cons r0
  obtain ⟨rfl, rfl, rfl⟩ := trodAll_nil r1
  obtain rfl : args = #[v0, v1] := by cases args; simp_all
  have hG : P.Glob W := P.glob_of_laid hL
  obtain ⟨gv, tv, csv, fuelv, dv, pv, rfl, hgv, htv, hvarv, hdv, rfl⟩ := trodVars_one hV
  obtain rfl : csv = P.ownCells := Option.some.inj (hvarv.symm.trans hG)
  obtain rfl := Option.some.inj (P.tOwners.symm.trans (by rw [Option.some.inj (P.gOwners.symm.trans hgv)]; exact htv))
  obtain ⟨rfl, rfl⟩ := DataW.Trod.unique (v := .agg P.ownCells) ⟨fuelv, hdv⟩ ⟨3, P.reads_table enc W _⟩
  have k0 := h0
  have lt0 : ∀ x ∈ p0, x.block < W.heap.size := by obtain ⟨m, hm⟩ := k0; exact DataW.trod_lt m _ _ _ hm
  obtain ⟨A0, c0, l0, rfl, hC0, hc0, hL0, hw0⟩ := PL.open_rowsV (hval 0 22 v0 rfl rfl) h0
  have k1 := h1
  have lt1 : ∀ x ∈ p1, x.block < W.heap.size := by obtain ⟨m, hm⟩ := k1; exact DataW.trod_lt m _ _ _ hm
  obtain ⟨a1, b1, m1, n1, s1, rfl, wa1, wb1, wm1, wn1, ws1⟩ := PL.open_opV (hval 1 24 v1 rfl rfl) h1
  clear hA0 hval0
  obtain ⟨k, hk⟩ := PL.FnExactOpDo l0 a1 b1 m1 n1 s1 hw0 hL0 wb1 wm1 wn1 ws1
  refine (P.laws_FnExactOpDo.calls k _ _ l0 a1 b1 m1 n1 s1 true W hC0 hc0 hk hG).mono fun e W' ⟨he, bel⟩ => ?_
  subst he
  exact ⟨_, rfl, _, _, _, _, _, _, hW', trodAll_mk1 (shut_bool Tryd.underlying4 _), (trodAll_cons_mk (Below.trod laidOut (by kernel_rfl) (of_decide_eq_true (by kernel_rfl)) k0 bel lt0) (trodAll_cons_mk (Below.trod laidOut (by kernel_rfl) (of_decide_eq_true (by kernel_rfl)) k1 bel lt1) trodAll_mk0)), P.tab_vars enc (hG.below bel), bel.frame _, fun h => by cases h⟩
theorem proved : Rows.FnExactOpDoSaid :=
  OpenClaim.holds_of_wide 3 Tryd.f3 rfl rfl rfl rfl rfl rfl rfl ⟨rfl, rfl, rfl, rfl, rfl⟩ rfl rfl rfl rfl rfl (by kernel_rfl) Tryd.func3 (by kernel_rfl)
    (of_decide_eq_true (by kernel_rfl)) (by unfold Func.isWrapper; first | (rw [if_pos (by decide +kernel)]; kernel_rfl) | (rw [if_neg (by decide +kernel)]; exact ⟨rfl, rfl⟩))
    (fun os started H enc _ => lifted os started H enc)
end Go.Proofs.YtkopimbbgckcnaaDoor.fnExactOpDo
namespace Go.Proofs.YtkopimbbgckcnaaDoor
/-- The row, under a short name. -/
theorem fnExactOpDo_holds : Rows.FnExactOpDoSaid := fnExactOpDo.proved
end Go.Proofs.YtkopimbbgckcnaaDoor
namespace Go.Proofs.YtkopimbbgckcnaaDoor
open Go
theorem fnExactOpDoCard_holds : Rows.FnExactOpDoCardSaid :=
  Claim7.holds_tied_plain_at .later [] [.data] true (true, "05e51009c0bec8d8d35deb79e81af090818f8d02cc4b5bce3a1d080efdde1e4f") true
    fnExactOpDo_holds (fun _ h => by cases h) (by kernel_rfl) (fun _ h => by cases h) fnExactOpDo_row_tie rfl ⟨rfl, rfl⟩ (by kernel_rfl) rfl
    (fun f fn hf hfn => by
      obtain rfl : f = 3 := Option.some.inj ((show Tryd.prog.funcNamed "loop.example/plashet/laws.FnExactOpDo" = some 3 by kernel_rfl).symm.trans hf) |>.symm
      obtain rfl : fn = Tryd.f3 := (Option.some.inj (Tryd.func3.symm.trans hfn)).symm
      exact ⟨by kernel_rfl, fun j t ht => by
        rw [Tryd.params3] at ht
        have hm : t ∈ [22, 24] := by have := Array.mem_of_getElem? ht; simp at this; first | (subst this; simp; done) | (rcases this with h | h <;> simp [h]; done) | (rcases this with h | h | h <;> simp [h]; done)
        have hall : ([22, 24].all fun u => !Tryd.prog.wantsStandIn u) = true := by kernel_rfl
        exact (show Tryd.prog.wantsStandIn t = false by simpa using List.all_eq_true.1 hall t hm)⟩)
    (by kernel_rfl)
#print axioms fnExactOpDoCard_holds
end Go.Proofs.YtkopimbbgckcnaaDoor
