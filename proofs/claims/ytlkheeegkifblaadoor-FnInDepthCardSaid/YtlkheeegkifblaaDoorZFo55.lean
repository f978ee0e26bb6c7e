/- Joined by a program (wip/shake.py): the declarations that 'YtlkheeegkifblaaDoorCardFnInDepth' reaches. -/
import Derived.Test.YtlkheeegkifblaaDoorZFo54
set_option linter.unusedVariables false
set_option linter.unusedSimpArgs false
set_option linter.unusedSectionVars false
namespace Go.Proofs.YtlkheeegkifblaaDoor.P
open Go.RowKit Go.Proofs.YtlkheeegkifblaaDoorW.PrintWords Go.Proofs.YtlkheeegkifblaaDoorW.PrintLast
attribute [local go_sem high] eqA27
set_option maxHeartbeats 8000000 in
set_option maxRecDepth 100000 in
theorem laws_FnInDepth.calls (k : Nat) (A0 : Option Addr) (c0 : Nat) (l0 : List Int) (r : Bool) (w : World) (hr0 : Kd.C (Kd.int .u8) w A0 l0.length l0) (hc0 : l0.length ≤ c0) (h : laws_FnInDepth.f k l0 = some r) (hG : Glob w) :
  Calls Tryd.prog 4 #[.slice A0 l0.length c0] w fun e w' => e = .returned (.bool r) ∧ Below w.heap.size w w' := by
 have hu27 := Tryd.underlying27
 have HR0 := Aside0.mk hr0
 have HC0 := Aside0.mk hc0
 clear hr0 hc0
 have HB := Aside0.mk (Below.refl w.heap.size w)
 have HG := Aside0.mk hG
 clear hG
 have H : (if (l0.length : Int) > 1048576 then (some true) else ((spec_DrawKeyIn.f k l0).bind fun bt454 => ((spec_KeyIn.f k bt454.1 bt454.2).bind fun bt458 => ((impl_KeyIn.f k bt454.1 bt454.2).bind fun bt465 => (if (bt465.2.2.2.2.2 != bt458.2.2.2.2.2) = true then (none) else (if (!(bt465.1 == bt458.1) || (!(bt465.2.1 == bt458.2.1) || (!(bt465.2.2.1 == bt458.2.2.1) || (!(bt465.2.2.2.1 == bt458.2.2.2.1) || (!(bt465.2.2.2.2.1.toList == bt458.2.2.2.2.1.toList)))))) = true then (laws_FnInDepth.j0 k bt454.1 bt454.2 bt458.2.2.2.2.2 bt465.2.2.2.2.2 true bt458.1 bt458.2.1 bt458.2.2.1 bt458.2.2.2.1 bt458.2.2.2.2.1 bt465.1 bt465.2.1 bt465.2.2.1 bt465.2.2.2.1 bt465.2.2.2.2.1) else (laws_FnInDepth.j0 k bt454.1 bt454.2 bt458.2.2.2.2.2 bt465.2.2.2.2.2 (!bt465.2.2.2.2.2) bt458.1 bt458.2.1 bt458.2.2.1 bt458.2.2.2.1 bt458.2.2.2.2.1 bt465.1 bt465.2.1 bt465.2.2.1 bt465.2.2.2.1 bt465.2.2.2.2.1))))))) = some r := h
 clear h
 by_cases c2 : (l0.length : Int) > 1048576
 ·rw [if_pos c2] at H
  have c2b0 : decide (1048576 < (l0.length : Int)) = true := decide_eq_true c2
  have c2b1 : decide (1048576 < l0.length) = true := decide_eq_true (by omega)
  clear c2
  obtain rfl := Option.some.inj H
  go_enter Tryd.func4, Tryd.ntmps4
  go_wp2
  repeat (go_quiet (fail); try go_wp2)
  go_ret
  exact ⟨by first | rfl | (simp [errW_none, errW_some] <;> rfl) | (simp [*, errW_none, errW_some] <;> rfl), by repeat (first | (with_reducible first | exact HB.out | apply below_alloc | apply pw_below_drewN | apply below_drew1) | exact HB.out)⟩
 ·rw [if_neg c2] at H
  have c2b0 : decide (1048576 < (l0.length : Int)) = false := decide_eq_false c2
  have c2b1 : decide (1048576 < l0.length) = false := decide_eq_false (by omega)
  clear c2
  replace H := Option.bind_eq_some_iff.mp H
  obtain ⟨⟨t454, t455⟩, A30, H⟩ := H
  replace H : ((spec_KeyIn.f k t454 t455).bind fun bt458 => ((impl_KeyIn.f k t454 t455).bind fun bt465 => (if (bt465.2.2.2.2.2 != bt458.2.2.2.2.2) = true then (none) else (if (!(bt465.1 == bt458.1) || (!(bt465.2.1 == bt458.2.1) || (!(bt465.2.2.1 == bt458.2.2.1) || (!(bt465.2.2.2.1 == bt458.2.2.2.1) || (!(bt465.2.2.2.2.1.toList == bt458.2.2.2.2.1.toList)))))) = true then (laws_FnInDepth.j0 k t454 t455 bt458.2.2.2.2.2 bt465.2.2.2.2.2 true bt458.1 bt458.2.1 bt458.2.2.1 bt458.2.2.2.1 bt458.2.2.2.2.1 bt465.1 bt465.2.1 bt465.2.2.1 bt465.2.2.2.1 bt465.2.2.2.2.1) else (laws_FnInDepth.j0 k t454 t455 bt458.2.2.2.2.2 bt465.2.2.2.2.2 (!bt465.2.2.2.2.2) bt458.1 bt458.2.1 bt458.2.2.1 bt458.2.2.2.1 bt458.2.2.2.2.1 bt465.1 bt465.2.1 bt465.2.2.1 bt465.2.2.2.1 bt465.2.2.2.2.1))))) = some r := H
  have A3 := Aside0.mk A30
  clear A30
  replace H := Option.bind_eq_some_iff.mp H
  obtain ⟨⟨t458, t459, t460, t461, t462, t463⟩, A40, H⟩ := H
  replace H : ((impl_KeyIn.f k t454 t455).bind fun bt465 => (if (bt465.2.2.2.2.2 != t463) = true then (none) else (if (!(bt465.1 == t458) || (!(bt465.2.1 == t459) || (!(bt465.2.2.1 == t460) || (!(bt465.2.2.2.1 == t461) || (!(bt465.2.2.2.2.1.toList == t462.toList)))))) = true then (laws_FnInDepth.j0 k t454 t455 t463 bt465.2.2.2.2.2 true t458 t459 t460 t461 t462 bt465.1 bt465.2.1 bt465.2.2.1 bt465.2.2.2.1 bt465.2.2.2.2.1) else (laws_FnInDepth.j0 k t454 t455 t463 bt465.2.2.2.2.2 (!bt465.2.2.2.2.2) t458 t459 t460 t461 t462 bt465.1 bt465.2.1 bt465.2.2.1 bt465.2.2.2.1 bt465.2.2.2.2.1)))) = some r := H
  have A4 := Aside0.mk A40
  clear A40
  replace H := Option.bind_eq_some_iff.mp H
  obtain ⟨⟨t465, t466, t467, t468, t469, t470⟩, A50, H⟩ := H
  replace H : (if (t470 != t463) = true then (none) else (if (!(t465 == t458) || (!(t466 == t459) || (!(t467 == t460) || (!(t468 == t461) || (!(t469.toList == t462.toList)))))) = true then (laws_FnInDepth.j0 k t454 t455 t463 t470 true t458 t459 t460 t461 t462 t465 t466 t467 t468 t469) else (laws_FnInDepth.j0 k t454 t455 t463 t470 (!t470) t458 t459 t460 t461 t462 t465 t466 t467 t468 t469))) = some r := H
  have A5 := Aside0.mk A50
  clear A50
  have HC6 := Aside0.mk H
  clear H
  go_enter Tryd.func4, Tryd.ntmps4
  go_upto_region 6 with (first | (go_at_call 26; (with_reducible refine (spec_DrawKeyIn.calls k _ _ l0 t454 t455 _ ?side1 ?side2 A3.out).mono ?_); (case side1 => repeat (first | exact HR0.out | (with_reducible refine Kd.C_alloc ?_ _) | (with_reducible refine Kd.C_drewN ?_ _) | (with_reducible refine Kd.C_drew ?_))); (case side2 => exact HC0.out); rintro e w7 ⟨v456, rfl, ho0, hb⟩; have n0_ := Aside0.mk (Kd.Q_lower ho0 (below_size (by repeat (first | (with_reducible first | exact HB.out | apply below_alloc | apply pw_below_drewN | apply below_drew1) | exact HB.out)))); have n1_ := Aside0.mk (below_step (by repeat (first | (with_reducible first | exact HB.out | apply below_alloc | apply pw_below_drewN | apply below_drew1) | exact HB.out)) hb); clear HB; have HO457 := n0_; have HB := n1_; clear n0_ n1_; (try clear hb); (try clear hb2); (try clear hk); (try clear hi); (try clear ho0); obtain ⟨Ao8, co8, eo8, _⟩ := Kd.Q_slice HO457.out; subst eo8) | (go_at_call 27; (with_reducible refine (spec_KeyIn.calls k _ _ t454 t455 t458 t459 t460 t461 t462 t463 _ ?side1 ?side2 A4.out).mono ?_); (case side1 => repeat (first | exact (Kd.Q_reads' HO457.out).2.2 | (with_reducible refine Kd.C_alloc ?_ _) | (with_reducible refine Kd.C_drewN ?_ _) | (with_reducible refine Kd.C_drew ?_))); (case side2 => exact (Kd.Q_reads' HO457.out).2.1); rintro e w9 ⟨rfl, hb⟩; have n0_ := Aside0.mk (Kd.Q_below (by (with_reducible repeat (first | apply Kd.Q_alloc | apply Kd.Q_drewN | apply Kd.Q_drew)); exact HO457.out) hb); have n1_ := Aside0.mk (below_step (by repeat (first | (with_reducible first | exact HB.out | apply below_alloc | apply pw_below_drewN | apply below_drew1) | exact HB.out)) hb); clear HO457; clear HB; have HO457 := n0_; have HB := n1_; clear n0_ n1_; (try clear hb); (try clear hb2); (try clear hk); (try clear hi)) | ((with_reducible refine gate_dst (N := 5) rfl ?_); refine box_event ?hg (N := 5) ?hd (cs := #[.int .i64 0, .int .i64 0, .int .i64 0, .int .i64 0, .string (⟨#[]⟩ : ByteArray)]) (t := 27) ?hr ?_; (case hd => rfl); (case hg => rfl); (case hr => first | (go_simp; done) | (go_simp; rfl)); intro gb464 hg w10 hbox hb; have n0_ := Aside0.mk (Kd.Q_below (by (with_reducible repeat (first | apply Kd.Q_alloc | apply Kd.Q_drewN | apply Kd.Q_drew)); exact HO457.out) hb); have n1_ := Aside0.mk (below_step (by repeat (first | (with_reducible first | exact HB.out | apply below_alloc | apply pw_below_drewN | apply below_drew1) | exact HB.out)) hb); have n2_ := Aside0.mk (hbox); have n3_ := Aside0.mk ((by rw [hg]; exact (below_size (by repeat (first | (with_reducible first | exact HB.out | apply below_alloc | apply pw_below_drewN | apply below_drew1) | exact HB.out))) : w.heap.size ≤ gb464)); have n4_ := Aside0.mk ((by rw [hg]; exact (below_size (by repeat (first | (with_reducible first | exact HB.out | apply below_alloc | apply pw_below_drewN | apply below_drew1) | exact HB.out))) : w.heap.size ≤ gb464)); clear HO457; clear HB; have HO457 := n0_; have HB := n1_; have BK464 := n2_; have GW464 := n3_; have GE464 := n4_; clear n0_ n1_ n2_ n3_ n4_; clear hb hbox hg; have hcz11_0 : w10.cell? ⟨gb464, 0, none⟩ = some (.int .i64 0) := (blk_cell BK464.out 0).trans rfl; have hcz11_1 : w10.cell? ⟨gb464, 1, none⟩ = some (.int .i64 0) := (blk_cell BK464.out 1).trans rfl; have hcz11_2 : w10.cell? ⟨gb464, 2, none⟩ = some (.int .i64 0) := (blk_cell BK464.out 2).trans rfl; have hcz11_3 : w10.cell? ⟨gb464, 3, none⟩ = some (.int .i64 0) := (blk_cell BK464.out 3).trans rfl; have hcz11_4 : w10.cell? ⟨gb464, 4, none⟩ = some (.string (⟨#[]⟩ : ByteArray)) := (blk_cell BK464.out 4).trans rfl; have hfz11_0 := blk_frozen BK464.out 0; have hfz11_1 := blk_frozen BK464.out 1; have hfz11_2 := blk_frozen BK464.out 2; have hfz11_3 := blk_frozen BK464.out 3; have hfz11_4 := blk_frozen BK464.out 4) | (go_at_call 28; (with_reducible refine (impl_KeyIn.calls k _ _ t454 t455 t465 t466 t467 t468 t469 t470 _ ?side1 ?side2 A5.out ?side3).mono ?_); (case side1 => refine (Kd.Q_reads' (e := 37) (base := w.heap.size) (ok := fun k_ => True) (n := t454.length) (c := co8) ?_).2.2; exact (by (with_reducible repeat (first | apply Kd.Q_alloc | apply Kd.Q_drewN | apply Kd.Q_drew)); exact (Kd.Q_mono (Kd.Q_far (p := ⟨gb464, 4, none⟩) (Kd.Q_far (p := ⟨gb464, 3, none⟩) (Kd.Q_far (p := ⟨gb464, 2, none⟩) (Kd.Q_far (p := ⟨gb464, 1, none⟩) (Kd.Q_far (p := ⟨gb464, 0, none⟩) (Kd.Q_types HO457.out BK464.out (by decide)) (fun _ hk => hk.2) (.int .i64 t458)) (fun _ hk => hk.2) (.int .i64 t459)) (fun _ hk => hk.2) (.int .i64 t460)) (fun _ hk => hk.2) (.int .i64 t461)) (fun _ hk => hk.2) (.string t462)) (fun _ h_ => h_.1)))); (case side2 => exact (Kd.Q_reads' HO457.out).2.1); (case side3 => exact Glob.below HG.out (by repeat (first | (with_reducible first | exact HB.out | apply below_alloc | apply pw_below_drewN | apply below_drew1 | refine below_set ?_ GE464.out) | exact HB.out))); rintro e w12 ⟨rfl, hb⟩; have n0_ := Aside0.mk (Kd.Q_below (by (with_reducible repeat (first | apply Kd.Q_alloc | apply Kd.Q_drewN | apply Kd.Q_drew)); exact (Kd.Q_mono (Kd.Q_far (p := ⟨gb464, 4, none⟩) (Kd.Q_far (p := ⟨gb464, 3, none⟩) (Kd.Q_far (p := ⟨gb464, 2, none⟩) (Kd.Q_far (p := ⟨gb464, 1, none⟩) (Kd.Q_far (p := ⟨gb464, 0, none⟩) (Kd.Q_types HO457.out BK464.out (by decide)) (fun _ hk => hk.2) (.int .i64 t458)) (fun _ hk => hk.2) (.int .i64 t459)) (fun _ hk => hk.2) (.int .i64 t460)) (fun _ hk => hk.2) (.int .i64 t461)) (fun _ hk => hk.2) (.string t462)) (fun _ h_ => h_.1))) hb); have n1_ := Aside0.mk (blk_below (g := gb464) (o := .cells #[.int .i64 t458, .int .i64 t459, .int .i64 t460, .int .i64 t461, .string t462] 27 (0, 0)) (by (with_reducible repeat (first | refine blk_drewN ?_ _ | refine blk_drew ?_ | refine blk_alloc ?_ _)); refine blk_put (cs := #[.int .i64 t458, .int .i64 t459, .int .i64 t460, .int .i64 t461, .string (⟨#[]⟩ : ByteArray)]) ?_ 4 _ rfl; (with_reducible repeat (first | refine blk_drewN ?_ _ | refine blk_drew ?_ | refine blk_alloc ?_ _)); refine blk_put (cs := #[.int .i64 t458, .int .i64 t459, .int .i64 t460, .int .i64 0, .string (⟨#[]⟩ : ByteArray)]) ?_ 3 _ rfl; (with_reducible repeat (first | refine blk_drewN ?_ _ | refine blk_drew ?_ | refine blk_alloc ?_ _)); refine blk_put (cs := #[.int .i64 t458, .int .i64 t459, .int .i64 0, .int .i64 0, .string (⟨#[]⟩ : ByteArray)]) ?_ 2 _ rfl; (with_reducible repeat (first | refine blk_drewN ?_ _ | refine blk_drew ?_ | refine blk_alloc ?_ _)); refine blk_put (cs := #[.int .i64 t458, .int .i64 0, .int .i64 0, .int .i64 0, .string (⟨#[]⟩ : ByteArray)]) ?_ 1 _ rfl; (with_reducible repeat (first | refine blk_drewN ?_ _ | refine blk_drew ?_ | refine blk_alloc ?_ _)); refine blk_put (cs := #[.int .i64 0, .int .i64 0, .int .i64 0, .int .i64 0, .string (⟨#[]⟩ : ByteArray)]) ?_ 0 _ rfl; (with_reducible repeat (first | refine blk_drewN ?_ _ | refine blk_drew ?_ | refine blk_alloc ?_ _)); exact BK464.out) hb); have n2_ := Aside0.mk (below_step (by repeat (first | (with_reducible first | exact HB.out | apply below_alloc | apply pw_below_drewN | apply below_drew1 | refine below_set ?_ GE464.out) | exact HB.out)) hb); clear HO457; clear BK464; clear HB; have HO457 := n0_; have BK464 := n1_; have HB := n2_; clear n0_ n1_ n2_; (try clear hb); (try clear hb2); (try clear hk); (try clear hi)) | ((with_reducible refine gate_dst (N := 7) rfl ?_); refine box_event ?hg (N := 7) ?hd (cs := #[.int .i64 0, .int .i64 0, .int .i64 0, .int .i64 0, .string (⟨#[]⟩ : ByteArray)]) (t := 27) ?hr ?_; (case hd => rfl); (case hg => rfl); (case hr => first | (go_simp; done) | (go_simp; rfl)); intro gb471 hg w13 hbox hb; have n0_ := Aside0.mk (Kd.Q_below (by (with_reducible repeat (first | apply Kd.Q_alloc | apply Kd.Q_drewN | apply Kd.Q_drew)); exact HO457.out) hb); have n1_ := Aside0.mk (blk_below (g := gb464) (o := .cells #[.int .i64 t458, .int .i64 t459, .int .i64 t460, .int .i64 t461, .string t462] 27 (0, 0)) (by (with_reducible repeat (first | refine blk_drewN ?_ _ | refine blk_drew ?_ | refine blk_alloc ?_ _)); exact BK464.out) hb); have n2_ := Aside0.mk (below_step (by repeat (first | (with_reducible first | exact HB.out | apply below_alloc | apply pw_below_drewN | apply below_drew1 | refine below_set ?_ GE464.out) | exact HB.out)) hb); have n3_ := Aside0.mk (hbox); have n4_ := Aside0.mk ((by rw [hg]; exact (below_size (by repeat (first | (with_reducible first | exact HB.out | apply below_alloc | apply pw_below_drewN | apply below_drew1 | refine below_set ?_ GE464.out) | exact HB.out))) : w.heap.size ≤ gb471)); have n5_ := Aside0.mk ((by rw [hg]; exact (below_size (by repeat (first | (with_reducible first | exact HB.out | apply below_alloc | apply pw_below_drewN | apply below_drew1 | refine below_set ?_ GE464.out) | exact HB.out))) : w.heap.size ≤ gb471)); have n6_ := Aside0.mk ((by rw [hg]; exact Nat.ne_of_lt (blk_lt (g := gb464) (o := .cells #[.int .i64 t458, .int .i64 t459, .int .i64 t460, .int .i64 t461, .string t462] 27 (0, 0)) (by (with_reducible repeat (first | refine blk_drewN ?_ _ | refine blk_drew ?_ | refine blk_alloc ?_ _)); exact BK464.out)) : gb464 ≠ gb471)); have n7_ := Aside0.mk ((by rw [hg]; exact Nat.ne_of_gt (blk_lt (g := gb464) (o := .cells #[.int .i64 t458, .int .i64 t459, .int .i64 t460, .int .i64 t461, .string t462] 27 (0, 0)) (by (with_reducible repeat (first | refine blk_drewN ?_ _ | refine blk_drew ?_ | refine blk_alloc ?_ _)); exact BK464.out)) : gb471 ≠ gb464)); clear HO457; clear BK464; clear HB; have HO457 := n0_; have BK464 := n1_; have HB := n2_; have BK471 := n3_; have GW471 := n4_; have GE471 := n5_; have NB464_471 := n6_; have NB471_464 := n7_; clear n0_ n1_ n2_ n3_ n4_ n5_ n6_ n7_; clear hb hbox hg; have hnb14 := NB471_464.out; have hnc14 := NB464_471.out; have hcz15_0 : w13.cell? ⟨gb471, 0, none⟩ = some (.int .i64 0) := (blk_cell BK471.out 0).trans rfl; have hcz15_1 : w13.cell? ⟨gb471, 1, none⟩ = some (.int .i64 0) := (blk_cell BK471.out 1).trans rfl; have hcz15_2 : w13.cell? ⟨gb471, 2, none⟩ = some (.int .i64 0) := (blk_cell BK471.out 2).trans rfl; have hcz15_3 : w13.cell? ⟨gb471, 3, none⟩ = some (.int .i64 0) := (blk_cell BK471.out 3).trans rfl; have hcz15_4 : w13.cell? ⟨gb471, 4, none⟩ = some (.string (⟨#[]⟩ : ByteArray)) := (blk_cell BK471.out 4).trans rfl; have hfz15_0 := blk_frozen BK471.out 0; have hfz15_1 := blk_frozen BK471.out 1; have hfz15_2 := blk_frozen BK471.out 2; have hfz15_3 := blk_frozen BK471.out 3; have hfz15_4 := blk_frozen BK471.out 4))
  repeat (go_quiet (first | (go_at_call 26; (with_reducible refine (spec_DrawKeyIn.calls k _ _ l0 t454 t455 _ ?side1 ?side2 A3.out).mono ?_); (case side1 => repeat (first | exact HR0.out | (with_reducible refine Kd.C_alloc ?_ _) | (with_reducible refine Kd.C_drewN ?_ _) | (with_reducible refine Kd.C_drew ?_))); (case side2 => exact HC0.out); rintro e w7 ⟨v456, rfl, ho0, hb⟩; have n0_ := Aside0.mk (Kd.Q_lower ho0 (below_size (by repeat (first | (with_reducible first | exact HB.out | apply below_alloc | apply pw_below_drewN | apply below_drew1) | exact HB.out)))); have n1_ := Aside0.mk (below_step (by repeat (first | (with_reducible first | exact HB.out | apply below_alloc | apply pw_below_drewN | apply below_drew1) | exact HB.out)) hb); clear HB; have HO457 := n0_; have HB := n1_; clear n0_ n1_; (try clear hb); (try clear hb2); (try clear hk); (try clear hi); (try clear ho0); obtain ⟨Ao8, co8, eo8, _⟩ := Kd.Q_slice HO457.out; subst eo8) | (go_at_call 27; (with_reducible refine (spec_KeyIn.calls k _ _ t454 t455 t458 t459 t460 t461 t462 t463 _ ?side1 ?side2 A4.out).mono ?_); (case side1 => repeat (first | exact (Kd.Q_reads' HO457.out).2.2 | (with_reducible refine Kd.C_alloc ?_ _) | (with_reducible refine Kd.C_drewN ?_ _) | (with_reducible refine Kd.C_drew ?_))); (case side2 => exact (Kd.Q_reads' HO457.out).2.1); rintro e w9 ⟨rfl, hb⟩; have n0_ := Aside0.mk (Kd.Q_below (by (with_reducible repeat (first | apply Kd.Q_alloc | apply Kd.Q_drewN | apply Kd.Q_drew)); exact HO457.out) hb); have n1_ := Aside0.mk (below_step (by repeat (first | (with_reducible first | exact HB.out | apply below_alloc | apply pw_below_drewN | apply below_drew1) | exact HB.out)) hb); clear HO457; clear HB; have HO457 := n0_; have HB := n1_; clear n0_ n1_; (try clear hb); (try clear hb2); (try clear hk); (try clear hi)) | ((with_reducible refine gate_dst (N := 5) rfl ?_); refine box_event ?hg (N := 5) ?hd (cs := #[.int .i64 0, .int .i64 0, .int .i64 0, .int .i64 0, .string (⟨#[]⟩ : ByteArray)]) (t := 27) ?hr ?_; (case hd => rfl); (case hg => rfl); (case hr => first | (go_simp; done) | (go_simp; rfl)); intro gb464 hg w10 hbox hb; have n0_ := Aside0.mk (Kd.Q_below (by (with_reducible repeat (first | apply Kd.Q_alloc | apply Kd.Q_drewN | apply Kd.Q_drew)); exact HO457.out) hb); have n1_ := Aside0.mk (below_step (by repeat (first | (with_reducible first | exact HB.out | apply below_alloc | apply pw_below_drewN | apply below_drew1) | exact HB.out)) hb); have n2_ := Aside0.mk (hbox); have n3_ := Aside0.mk ((by rw [hg]; exact (below_size (by repeat (first | (with_reducible first | exact HB.out | apply below_alloc | apply pw_below_drewN | apply below_drew1) | exact HB.out))) : w.heap.size ≤ gb464)); have n4_ := Aside0.mk ((by rw [hg]; exact (below_size (by repeat (first | (with_reducible first | exact HB.out | apply below_alloc | apply pw_below_drewN | apply below_drew1) | exact HB.out))) : w.heap.size ≤ gb464)); clear HO457; clear HB; have HO457 := n0_; have HB := n1_; have BK464 := n2_; have GW464 := n3_; have GE464 := n4_; clear n0_ n1_ n2_ n3_ n4_; clear hb hbox hg; have hcz11_0 : w10.cell? ⟨gb464, 0, none⟩ = some (.int .i64 0) := (blk_cell BK464.out 0).trans rfl; have hcz11_1 : w10.cell? ⟨gb464, 1, none⟩ = some (.int .i64 0) := (blk_cell BK464.out 1).trans rfl; have hcz11_2 : w10.cell? ⟨gb464, 2, none⟩ = some (.int .i64 0) := (blk_cell BK464.out 2).trans rfl; have hcz11_3 : w10.cell? ⟨gb464, 3, none⟩ = some (.int .i64 0) := (blk_cell BK464.out 3).trans rfl; have hcz11_4 : w10.cell? ⟨gb464, 4, none⟩ = some (.string (⟨#[]⟩ : ByteArray)) := (blk_cell BK464.out 4).trans rfl; have hfz11_0 := blk_frozen BK464.out 0; have hfz11_1 := blk_frozen BK464.out 1; have hfz11_2 := blk_frozen BK464.out 2; have hfz11_3 := blk_frozen BK464.out 3; have hfz11_4 := blk_frozen BK464.out 4) | (go_at_call 28; (with_reducible refine (impl_KeyIn.calls k _ _ t454 t455 t465 t466 t467 t468 t469 t470 _ ?side1 ?side2 A5.out ?side3).mono ?_); (case side1 => refine (Kd.Q_reads' (e := 37) (base := w.heap.size) (ok := fun k_ => True) (n := t454.length) (c := co8) ?_).2.2; exact (by (with_reducible repeat (first | apply Kd.Q_alloc | apply Kd.Q_drewN | apply Kd.Q_drew)); exact (Kd.Q_mono (Kd.Q_far (p := ⟨gb464, 4, none⟩) (Kd.Q_far (p := ⟨gb464, 3, none⟩) (Kd.Q_far (p := ⟨gb464, 2, none⟩) (Kd.Q_far (p := ⟨gb464, 1, none⟩) (Kd.Q_far (p := ⟨gb464, 0, none⟩) (Kd.Q_types HO457.out BK464.out (by decide)) (fun _ hk => hk.2) (.int .i64 t458)) (fun _ hk => hk.2) (.int .i64 t459)) (fun _ hk => hk.2) (.int .i64 t460)) (fun _ hk => hk.2) (.int .i64 t461)) (fun _ hk => hk.2) (.string t462)) (fun _ h_ => h_.1)))); (case side2 => exact (Kd.Q_reads' HO457.out).2.1); (case side3 => exact Glob.below HG.out (by repeat (first | (with_reducible first | exact HB.out | apply below_alloc | apply pw_below_drewN | apply below_drew1 | refine below_set ?_ GE464.out) | exact HB.out))); rintro e w12 ⟨rfl, hb⟩; have n0_ := Aside0.mk (Kd.Q_below (by (with_reducible repeat (first | apply Kd.Q_alloc | apply Kd.Q_drewN | apply Kd.Q_drew)); exact (Kd.Q_mono (Kd.Q_far (p := ⟨gb464, 4, none⟩) (Kd.Q_far (p := ⟨gb464, 3, none⟩) (Kd.Q_far (p := ⟨gb464, 2, none⟩) (Kd.Q_far (p := ⟨gb464, 1, none⟩) (Kd.Q_far (p := ⟨gb464, 0, none⟩) (Kd.Q_types HO457.out BK464.out (by decide)) (fun _ hk => hk.2) (.int .i64 t458)) (fun _ hk => hk.2) (.int .i64 t459)) (fun _ hk => hk.2) (.int .i64 t460)) (fun _ hk => hk.2) (.int .i64 t461)) (fun _ hk => hk.2) (.string t462)) (fun _ h_ => h_.1))) hb); have n1_ := Aside0.mk (blk_below (g := gb464) (o := .cells #[.int .i64 t458, .int .i64 t459, .int .i64 t460, .int .i64 t461, .string t462] 27 (0, 0)) (by (with_reducible repeat (first | refine blk_drewN ?_ _ | refine blk_drew ?_ | refine blk_alloc ?_ _)); refine blk_put (cs := #[.int .i64 t458, .int .i64 t459, .int .i64 t460, .int .i64 t461, .string (⟨#[]⟩ : ByteArray)]) ?_ 4 _ rfl; (with_reducible repeat (first | refine blk_drewN ?_ _ | refine blk_drew ?_ | refine blk_alloc ?_ _)); refine blk_put (cs := #[.int .i64 t458, .int .i64 t459, .int .i64 t460, .int .i64 0, .string (⟨#[]⟩ : ByteArray)]) ?_ 3 _ rfl; (with_reducible repeat (first | refine blk_drewN ?_ _ | refine blk_drew ?_ | refine blk_alloc ?_ _)); refine blk_put (cs := #[.int .i64 t458, .int .i64 t459, .int .i64 0, .int .i64 0, .string (⟨#[]⟩ : ByteArray)]) ?_ 2 _ rfl; (with_reducible repeat (first | refine blk_drewN ?_ _ | refine blk_drew ?_ | refine blk_alloc ?_ _)); refine blk_put (cs := #[.int .i64 t458, .int .i64 0, .int .i64 0, .int .i64 0, .string (⟨#[]⟩ : ByteArray)]) ?_ 1 _ rfl; (with_reducible repeat (first | refine blk_drewN ?_ _ | refine blk_drew ?_ | refine blk_alloc ?_ _)); refine blk_put (cs := #[.int .i64 0, .int .i64 0, .int .i64 0, .int .i64 0, .string (⟨#[]⟩ : ByteArray)]) ?_ 0 _ rfl; (with_reducible repeat (first | refine blk_drewN ?_ _ | refine blk_drew ?_ | refine blk_alloc ?_ _)); exact BK464.out) hb); have n2_ := Aside0.mk (below_step (by repeat (first | (with_reducible first | exact HB.out | apply below_alloc | apply pw_below_drewN | apply below_drew1 | refine below_set ?_ GE464.out) | exact HB.out)) hb); clear HO457; clear BK464; clear HB; have HO457 := n0_; have BK464 := n1_; have HB := n2_; clear n0_ n1_ n2_; (try clear hb); (try clear hb2); (try clear hk); (try clear hi)) | ((with_reducible refine gate_dst (N := 7) rfl ?_); refine box_event ?hg (N := 7) ?hd (cs := #[.int .i64 0, .int .i64 0, .int .i64 0, .int .i64 0, .string (⟨#[]⟩ : ByteArray)]) (t := 27) ?hr ?_; (case hd => rfl); (case hg => rfl); (case hr => first | (go_simp; done) | (go_simp; rfl)); intro gb471 hg w13 hbox hb; have n0_ := Aside0.mk (Kd.Q_below (by (with_reducible repeat (first | apply Kd.Q_alloc | apply Kd.Q_drewN | apply Kd.Q_drew)); exact HO457.out) hb); have n1_ := Aside0.mk (blk_below (g := gb464) (o := .cells #[.int .i64 t458, .int .i64 t459, .int .i64 t460, .int .i64 t461, .string t462] 27 (0, 0)) (by (with_reducible repeat (first | refine blk_drewN ?_ _ | refine blk_drew ?_ | refine blk_alloc ?_ _)); exact BK464.out) hb); have n2_ := Aside0.mk (below_step (by repeat (first | (with_reducible first | exact HB.out | apply below_alloc | apply pw_below_drewN | apply below_drew1 | refine below_set ?_ GE464.out) | exact HB.out)) hb); have n3_ := Aside0.mk (hbox); have n4_ := Aside0.mk ((by rw [hg]; exact (below_size (by repeat (first | (with_reducible first | exact HB.out | apply below_alloc | apply pw_below_drewN | apply below_drew1 | refine below_set ?_ GE464.out) | exact HB.out))) : w.heap.size ≤ gb471)); have n5_ := Aside0.mk ((by rw [hg]; exact (below_size (by repeat (first | (with_reducible first | exact HB.out | apply below_alloc | apply pw_below_drewN | apply below_drew1 | refine below_set ?_ GE464.out) | exact HB.out))) : w.heap.size ≤ gb471)); have n6_ := Aside0.mk ((by rw [hg]; exact Nat.ne_of_lt (blk_lt (g := gb464) (o := .cells #[.int .i64 t458, .int .i64 t459, .int .i64 t460, .int .i64 t461, .string t462] 27 (0, 0)) (by (with_reducible repeat (first | refine blk_drewN ?_ _ | refine blk_drew ?_ | refine blk_alloc ?_ _)); exact BK464.out)) : gb464 ≠ gb471)); have n7_ := Aside0.mk ((by rw [hg]; exact Nat.ne_of_gt (blk_lt (g := gb464) (o := .cells #[.int .i64 t458, .int .i64 t459, .int .i64 t460, .int .i64 t461, .string t462] 27 (0, 0)) (by (with_reducible repeat (first | refine blk_drewN ?_ _ | refine blk_drew ?_ | refine blk_alloc ?_ _)); exact BK464.out)) : gb471 ≠ gb464)); clear HO457; clear BK464; clear HB; have HO457 := n0_; have BK464 := n1_; have HB := n2_; have BK471 := n3_; have GW471 := n4_; have GE471 := n5_; have NB464_471 := n6_; have NB471_464 := n7_; clear n0_ n1_ n2_ n3_ n4_ n5_ n6_ n7_; clear hb hbox hg; have hnb14 := NB471_464.out; have hnc14 := NB464_471.out; have hcz15_0 : w13.cell? ⟨gb471, 0, none⟩ = some (.int .i64 0) := (blk_cell BK471.out 0).trans rfl; have hcz15_1 : w13.cell? ⟨gb471, 1, none⟩ = some (.int .i64 0) := (blk_cell BK471.out 1).trans rfl; have hcz15_2 : w13.cell? ⟨gb471, 2, none⟩ = some (.int .i64 0) := (blk_cell BK471.out 2).trans rfl; have hcz15_3 : w13.cell? ⟨gb471, 3, none⟩ = some (.int .i64 0) := (blk_cell BK471.out 3).trans rfl; have hcz15_4 : w13.cell? ⟨gb471, 4, none⟩ = some (.string (⟨#[]⟩ : ByteArray)) := (blk_cell BK471.out 4).trans rfl; have hfz15_0 := blk_frozen BK471.out 0; have hfz15_1 := blk_frozen BK471.out 1; have hfz15_2 := blk_frozen BK471.out 2; have hfz15_3 := blk_frozen BK471.out 3; have hfz15_4 := blk_frozen BK471.out 4)); go_upto_region 6 with (first | (go_at_call 26; (with_reducible refine (spec_DrawKeyIn.calls k _ _ l0 t454 t455 _ ?side1 ?side2 A3.out).mono ?_); (case side1 => repeat (first | exact HR0.out | (with_reducible refine Kd.C_alloc ?_ _) | (with_reducible refine Kd.C_drewN ?_ _) | (with_reducible refine Kd.C_drew ?_))); (case side2 => exact HC0.out); rintro e w7 ⟨v456, rfl, ho0, hb⟩; have n0_ := Aside0.mk (Kd.Q_lower ho0 (below_size (by repeat (first | (with_reducible first | exact HB.out | apply below_alloc | apply pw_below_drewN | apply below_drew1) | exact HB.out)))); have n1_ := Aside0.mk (below_step (by repeat (first | (with_reducible first | exact HB.out | apply below_alloc | apply pw_below_drewN | apply below_drew1) | exact HB.out)) hb); clear HB; have HO457 := n0_; have HB := n1_; clear n0_ n1_; (try clear hb); (try clear hb2); (try clear hk); (try clear hi); (try clear ho0); obtain ⟨Ao8, co8, eo8, _⟩ := Kd.Q_slice HO457.out; subst eo8) | (go_at_call 27; (with_reducible refine (spec_KeyIn.calls k _ _ t454 t455 t458 t459 t460 t461 t462 t463 _ ?side1 ?side2 A4.out).mono ?_); (case side1 => repeat (first | exact (Kd.Q_reads' HO457.out).2.2 | (with_reducible refine Kd.C_alloc ?_ _) | (with_reducible refine Kd.C_drewN ?_ _) | (with_reducible refine Kd.C_drew ?_))); (case side2 => exact (Kd.Q_reads' HO457.out).2.1); rintro e w9 ⟨rfl, hb⟩; have n0_ := Aside0.mk (Kd.Q_below (by (with_reducible repeat (first | apply Kd.Q_alloc | apply Kd.Q_drewN | apply Kd.Q_drew)); exact HO457.out) hb); have n1_ := Aside0.mk (below_step (by repeat (first | (with_reducible first | exact HB.out | apply below_alloc | apply pw_below_drewN | apply below_drew1) | exact HB.out)) hb); clear HO457; clear HB; have HO457 := n0_; have HB := n1_; clear n0_ n1_; (try clear hb); (try clear hb2); (try clear hk); (try clear hi)) | ((with_reducible refine gate_dst (N := 5) rfl ?_); refine box_event ?hg (N := 5) ?hd (cs := #[.int .i64 0, .int .i64 0, .int .i64 0, .int .i64 0, .string (⟨#[]⟩ : ByteArray)]) (t := 27) ?hr ?_; (case hd => rfl); (case hg => rfl); (case hr => first | (go_simp; done) | (go_simp; rfl)); intro gb464 hg w10 hbox hb; have n0_ := Aside0.mk (Kd.Q_below (by (with_reducible repeat (first | apply Kd.Q_alloc | apply Kd.Q_drewN | apply Kd.Q_drew)); exact HO457.out) hb); have n1_ := Aside0.mk (below_step (by repeat (first | (with_reducible first | exact HB.out | apply below_alloc | apply pw_below_drewN | apply below_drew1) | exact HB.out)) hb); have n2_ := Aside0.mk (hbox); have n3_ := Aside0.mk ((by rw [hg]; exact (below_size (by repeat (first | (with_reducible first | exact HB.out | apply below_alloc | apply pw_below_drewN | apply below_drew1) | exact HB.out))) : w.heap.size ≤ gb464)); have n4_ := Aside0.mk ((by rw [hg]; exact (below_size (by repeat (first | (with_reducible first | exact HB.out | apply below_alloc | apply pw_below_drewN | apply below_drew1) | exact HB.out))) : w.heap.size ≤ gb464)); clear HO457; clear HB; have HO457 := n0_; have HB := n1_; have BK464 := n2_; have GW464 := n3_; have GE464 := n4_; clear n0_ n1_ n2_ n3_ n4_; clear hb hbox hg; have hcz11_0 : w10.cell? ⟨gb464, 0, none⟩ = some (.int .i64 0) := (blk_cell BK464.out 0).trans rfl; have hcz11_1 : w10.cell? ⟨gb464, 1, none⟩ = some (.int .i64 0) := (blk_cell BK464.out 1).trans rfl; have hcz11_2 : w10.cell? ⟨gb464, 2, none⟩ = some (.int .i64 0) := (blk_cell BK464.out 2).trans rfl; have hcz11_3 : w10.cell? ⟨gb464, 3, none⟩ = some (.int .i64 0) := (blk_cell BK464.out 3).trans rfl; have hcz11_4 : w10.cell? ⟨gb464, 4, none⟩ = some (.string (⟨#[]⟩ : ByteArray)) := (blk_cell BK464.out 4).trans rfl; have hfz11_0 := blk_frozen BK464.out 0; have hfz11_1 := blk_frozen BK464.out 1; have hfz11_2 := blk_frozen BK464.out 2; have hfz11_3 := blk_frozen BK464.out 3; have hfz11_4 := blk_frozen BK464.out 4) | (go_at_call 28; (with_reducible refine (impl_KeyIn.calls k _ _ t454 t455 t465 t466 t467 t468 t469 t470 _ ?side1 ?side2 A5.out ?side3).mono ?_); (case side1 => refine (Kd.Q_reads' (e := 37) (base := w.heap.size) (ok := fun k_ => True) (n := t454.length) (c := co8) ?_).2.2; exact (by (with_reducible repeat (first | apply Kd.Q_alloc | apply Kd.Q_drewN | apply Kd.Q_drew)); exact (Kd.Q_mono (Kd.Q_far (p := ⟨gb464, 4, none⟩) (Kd.Q_far (p := ⟨gb464, 3, none⟩) (Kd.Q_far (p := ⟨gb464, 2, none⟩) (Kd.Q_far (p := ⟨gb464, 1, none⟩) (Kd.Q_far (p := ⟨gb464, 0, none⟩) (Kd.Q_types HO457.out BK464.out (by decide)) (fun _ hk => hk.2) (.int .i64 t458)) (fun _ hk => hk.2) (.int .i64 t459)) (fun _ hk => hk.2) (.int .i64 t460)) (fun _ hk => hk.2) (.int .i64 t461)) (fun _ hk => hk.2) (.string t462)) (fun _ h_ => h_.1)))); (case side2 => exact (Kd.Q_reads' HO457.out).2.1); (case side3 => exact Glob.below HG.out (by repeat (first | (with_reducible first | exact HB.out | apply below_alloc | apply pw_below_drewN | apply below_drew1 | refine below_set ?_ GE464.out) | exact HB.out))); rintro e w12 ⟨rfl, hb⟩; have n0_ := Aside0.mk (Kd.Q_below (by (with_reducible repeat (first | apply Kd.Q_alloc | apply Kd.Q_drewN | apply Kd.Q_drew)); exact (Kd.Q_mono (Kd.Q_far (p := ⟨gb464, 4, none⟩) (Kd.Q_far (p := ⟨gb464, 3, none⟩) (Kd.Q_far (p := ⟨gb464, 2, none⟩) (Kd.Q_far (p := ⟨gb464, 1, none⟩) (Kd.Q_far (p := ⟨gb464, 0, none⟩) (Kd.Q_types HO457.out BK464.out (by decide)) (fun _ hk => hk.2) (.int .i64 t458)) (fun _ hk => hk.2) (.int .i64 t459)) (fun _ hk => hk.2) (.int .i64 t460)) (fun _ hk => hk.2) (.int .i64 t461)) (fun _ hk => hk.2) (.string t462)) (fun _ h_ => h_.1))) hb); have n1_ := Aside0.mk (blk_below (g := gb464) (o := .cells #[.int .i64 t458, .int .i64 t459, .int .i64 t460, .int .i64 t461, .string t462] 27 (0, 0)) (by (with_reducible repeat (first | refine blk_drewN ?_ _ | refine blk_drew ?_ | refine blk_alloc ?_ _)); refine blk_put (cs := #[.int .i64 t458, .int .i64 t459, .int .i64 t460, .int .i64 t461, .string (⟨#[]⟩ : ByteArray)]) ?_ 4 _ rfl; (with_reducible repeat (first | refine blk_drewN ?_ _ | refine blk_drew ?_ | refine blk_alloc ?_ _)); refine blk_put (cs := #[.int .i64 t458, .int .i64 t459, .int .i64 t460, .int .i64 0, .string (⟨#[]⟩ : ByteArray)]) ?_ 3 _ rfl; (with_reducible repeat (first | refine blk_drewN ?_ _ | refine blk_drew ?_ | refine blk_alloc ?_ _)); refine blk_put (cs := #[.int .i64 t458, .int .i64 t459, .int .i64 0, .int .i64 0, .string (⟨#[]⟩ : ByteArray)]) ?_ 2 _ rfl; (with_reducible repeat (first | refine blk_drewN ?_ _ | refine blk_drew ?_ | refine blk_alloc ?_ _)); refine blk_put (cs := #[.int .i64 t458, .int .i64 0, .int .i64 0, .int .i64 0, .string (⟨#[]⟩ : ByteArray)]) ?_ 1 _ rfl; (with_reducible repeat (first | refine blk_drewN ?_ _ | refine blk_drew ?_ | refine blk_alloc ?_ _)); refine blk_put (cs := #[.int .i64 0, .int .i64 0, .int .i64 0, .int .i64 0, .string (⟨#[]⟩ : ByteArray)]) ?_ 0 _ rfl; (with_reducible repeat (first | refine blk_drewN ?_ _ | refine blk_drew ?_ | refine blk_alloc ?_ _)); exact BK464.out) hb); have n2_ := Aside0.mk (below_step (by repeat (first | (with_reducible first | exact HB.out | apply below_alloc | apply pw_below_drewN | apply below_drew1 | refine below_set ?_ GE464.out) | exact HB.out)) hb); clear HO457; clear BK464; clear HB; have HO457 := n0_; have BK464 := n1_; have HB := n2_; clear n0_ n1_ n2_; (try clear hb); (try clear hb2); (try clear hk); (try clear hi)) | ((with_reducible refine gate_dst (N := 7) rfl ?_); refine box_event ?hg (N := 7) ?hd (cs := #[.int .i64 0, .int .i64 0, .int .i64 0, .int .i64 0, .string (⟨#[]⟩ : ByteArray)]) (t := 27) ?hr ?_; (case hd => rfl); (case hg => rfl); (case hr => first | (go_simp; done) | (go_simp; rfl)); intro gb471 hg w13 hbox hb; have n0_ := Aside0.mk (Kd.Q_below (by (with_reducible repeat (first | apply Kd.Q_alloc | apply Kd.Q_drewN | apply Kd.Q_drew)); exact HO457.out) hb); have n1_ := Aside0.mk (blk_below (g := gb464) (o := .cells #[.int .i64 t458, .int .i64 t459, .int .i64 t460, .int .i64 t461, .string t462] 27 (0, 0)) (by (with_reducible repeat (first | refine blk_drewN ?_ _ | refine blk_drew ?_ | refine blk_alloc ?_ _)); exact BK464.out) hb); have n2_ := Aside0.mk (below_step (by repeat (first | (with_reducible first | exact HB.out | apply below_alloc | apply pw_below_drewN | apply below_drew1 | refine below_set ?_ GE464.out) | exact HB.out)) hb); have n3_ := Aside0.mk (hbox); have n4_ := Aside0.mk ((by rw [hg]; exact (below_size (by repeat (first | (with_reducible first | exact HB.out | apply below_alloc | apply pw_below_drewN | apply below_drew1 | refine below_set ?_ GE464.out) | exact HB.out))) : w.heap.size ≤ gb471)); have n5_ := Aside0.mk ((by rw [hg]; exact (below_size (by repeat (first | (with_reducible first | exact HB.out | apply below_alloc | apply pw_below_drewN | apply below_drew1 | refine below_set ?_ GE464.out) | exact HB.out))) : w.heap.size ≤ gb471)); have n6_ := Aside0.mk ((by rw [hg]; exact Nat.ne_of_lt (blk_lt (g := gb464) (o := .cells #[.int .i64 t458, .int .i64 t459, .int .i64 t460, .int .i64 t461, .string t462] 27 (0, 0)) (by (with_reducible repeat (first | refine blk_drewN ?_ _ | refine blk_drew ?_ | refine blk_alloc ?_ _)); exact BK464.out)) : gb464 ≠ gb471)); have n7_ := Aside0.mk ((by rw [hg]; exact Nat.ne_of_gt (blk_lt (g := gb464) (o := .cells #[.int .i64 t458, .int .i64 t459, .int .i64 t460, .int .i64 t461, .string t462] 27 (0, 0)) (by (with_reducible repeat (first | refine blk_drewN ?_ _ | refine blk_drew ?_ | refine blk_alloc ?_ _)); exact BK464.out)) : gb471 ≠ gb464)); clear HO457; clear BK464; clear HB; have HO457 := n0_; have BK464 := n1_; have HB := n2_; have BK471 := n3_; have GW471 := n4_; have GE471 := n5_; have NB464_471 := n6_; have NB471_464 := n7_; clear n0_ n1_ n2_ n3_ n4_ n5_ n6_ n7_; clear hb hbox hg; have hnb14 := NB471_464.out; have hnc14 := NB464_471.out; have hcz15_0 : w13.cell? ⟨gb471, 0, none⟩ = some (.int .i64 0) := (blk_cell BK471.out 0).trans rfl; have hcz15_1 : w13.cell? ⟨gb471, 1, none⟩ = some (.int .i64 0) := (blk_cell BK471.out 1).trans rfl; have hcz15_2 : w13.cell? ⟨gb471, 2, none⟩ = some (.int .i64 0) := (blk_cell BK471.out 2).trans rfl; have hcz15_3 : w13.cell? ⟨gb471, 3, none⟩ = some (.int .i64 0) := (blk_cell BK471.out 3).trans rfl; have hcz15_4 : w13.cell? ⟨gb471, 4, none⟩ = some (.string (⟨#[]⟩ : ByteArray)) := (blk_cell BK471.out 4).trans rfl; have hfz15_0 := blk_frozen BK471.out 0; have hfz15_1 := blk_frozen BK471.out 1; have hfz15_2 := blk_frozen BK471.out 2; have hfz15_3 := blk_frozen BK471.out 3; have hfz15_4 := blk_frozen BK471.out 4)))
  (try simp only [Act.put, List.setIfInBounds_toArray, List.set_cons_zero, List.set_cons_succ])
  go_cut [43] (fun v43 wc => ∃ (kq : Nat) (x43_5 : Bool), v43 = .bool x43_5 ∧ Aside0 (laws_FnInDepth.j0 kq t454 t455 t463 t470 x43_5 t458 t459 t460 t461 t462 t465 t466 t467 t468 t469 = some r) ∧ Aside0 (kq ≤ k) ∧ Aside0 (Kd.Q k37 37 wc w.heap.size (fun _ => True) (.slice Ao8 t454.length co8) t454) ∧ Aside0 (wc.heap[gb464]? = some (.cells #[.int .i64 t458, .int .i64 t459, .int .i64 t460, .int .i64 t461, .string t462] 27 (0, 0))) ∧ Aside0 (wc.heap[gb471]? = some (.cells #[.int .i64 t465, .int .i64 t466, .int .i64 t467, .int .i64 t468, .string t469] 27 (0, 0))) ∧ Aside0 (Below w.heap.size w wc))
  case first =>
   have H := HC6.out
   clear HC6
   by_cases c16 : (t470 != t463) = true
   ·rw [if_pos c16] at H
    exact absurd H (by simp)
   ·rw [if_neg c16] at H
    have c16b0 : (t470 != t463) = false := by simpa using c16
    (try (have c16b1 : decide (t470 = t463) = true := by simpa using c16))
    (try (have c16b2 : (t470 == t463) = true := by simpa using c16))
    clear c16
    (first | rw [c16b0] | (simp only [i64_w, i32_w]; rw [c16b0]) | skip)
    by_cases c17 : (!(t465 == t458) || (!(t466 == t459) || (!(t467 == t460) || (!(t468 == t461) || (!(t469.toList == t462.toList)))))) = true
    ·rw [if_pos c17] at H
     have c17b0 : (!(t465 == t458) || (!(t466 == t459) || (!(t467 == t460) || (!(t468 == t461) || (!(t469.toList == t462.toList)))))) = true := c17
     clear c17
     have H' := Aside0.mk H
     clear H
     have hnb18 := NB471_464.out
     have hnc18 := NB464_471.out
     have hcz19_0 : w13.cell? ⟨gb471, 0, none⟩ = some (.int .i64 0) := (blk_cell BK471.out 0).trans rfl
     have hcz19_1 : w13.cell? ⟨gb471, 1, none⟩ = some (.int .i64 0) := (blk_cell BK471.out 1).trans rfl
     have hcz19_2 : w13.cell? ⟨gb471, 2, none⟩ = some (.int .i64 0) := (blk_cell BK471.out 2).trans rfl
     have hcz19_3 : w13.cell? ⟨gb471, 3, none⟩ = some (.int .i64 0) := (blk_cell BK471.out 3).trans rfl
     have hcz19_4 : w13.cell? ⟨gb471, 4, none⟩ = some (.string (⟨#[]⟩ : ByteArray)) := (blk_cell BK471.out 4).trans rfl
     have hfz19_0 := blk_frozen BK471.out 0
     have hfz19_1 := blk_frozen BK471.out 1
     have hfz19_2 := blk_frozen BK471.out 2
     have hfz19_3 := blk_frozen BK471.out 3
     have hfz19_4 := blk_frozen BK471.out 4
     have hcz20_0 : w13.cell? ⟨gb464, 0, none⟩ = some (.int .i64 t458) := (blk_cell BK464.out 0).trans rfl
     have hcz20_1 : w13.cell? ⟨gb464, 1, none⟩ = some (.int .i64 t459) := (blk_cell BK464.out 1).trans rfl
     have hcz20_2 : w13.cell? ⟨gb464, 2, none⟩ = some (.int .i64 t460) := (blk_cell BK464.out 2).trans rfl
     have hcz20_3 : w13.cell? ⟨gb464, 3, none⟩ = some (.int .i64 t461) := (blk_cell BK464.out 3).trans rfl
     have hcz20_4 : w13.cell? ⟨gb464, 4, none⟩ = some (.string t462) := (blk_cell BK464.out 4).trans rfl
     have hfz20_0 := blk_frozen BK464.out 0
     have hfz20_1 := blk_frozen BK464.out 1
     have hfz20_2 := blk_frozen BK464.out 2
     have hfz20_3 := blk_frozen BK464.out 3
     have hfz20_4 := blk_frozen BK464.out 4
     go_wp2
     repeat (go_quiet (fail); try go_wp2)
     go_meet
     case rel => exact ⟨_, (true), (by first | rfl | (simp; done) | (simp [*]; done)), H', ⟨by first | omega | exact Nat.le_refl _⟩, ⟨by (with_reducible repeat (first | apply Kd.Q_alloc | apply Kd.Q_drewN | apply Kd.Q_drew)); exact Kd.Q_mono (Kd.Q_far (p := ⟨gb471, 4, none⟩) (Kd.Q_far (p := ⟨gb471, 3, none⟩) (Kd.Q_far (p := ⟨gb471, 2, none⟩) (Kd.Q_far (p := ⟨gb471, 1, none⟩) (Kd.Q_far (p := ⟨gb471, 0, none⟩) (Kd.Q_types HO457.out BK471.out (by decide)) (fun _ hk => hk.2) (.int .i64 t465)) (fun _ hk => hk.2) (.int .i64 t466)) (fun _ hk => hk.2) (.int .i64 t467)) (fun _ hk => hk.2) (.int .i64 t468)) (fun _ hk => hk.2) (.string t469)) (fun _ hk => trivial)⟩, ⟨by (with_reducible repeat (first | refine blk_drewN ?_ _ | refine blk_drew ?_ | refine blk_alloc ?_ _)); refine blk_far ?_ NB464_471.out _; (with_reducible repeat (first | refine blk_drewN ?_ _ | refine blk_drew ?_ | refine blk_alloc ?_ _)); refine blk_far ?_ NB464_471.out _; (with_reducible repeat (first | refine blk_drewN ?_ _ | refine blk_drew ?_ | refine blk_alloc ?_ _)); refine blk_far ?_ NB464_471.out _; (with_reducible repeat (first | refine blk_drewN ?_ _ | refine blk_drew ?_ | refine blk_alloc ?_ _)); refine blk_far ?_ NB464_471.out _; (with_reducible repeat (first | refine blk_drewN ?_ _ | refine blk_drew ?_ | refine blk_alloc ?_ _)); refine blk_far ?_ NB464_471.out _; (with_reducible repeat (first | refine blk_drewN ?_ _ | refine blk_drew ?_ | refine blk_alloc ?_ _)); exact BK464.out⟩, ⟨by (with_reducible repeat (first | refine blk_drewN ?_ _ | refine blk_drew ?_ | refine blk_alloc ?_ _)); refine blk_put (cs := #[.int .i64 t465, .int .i64 t466, .int .i64 t467, .int .i64 t468, .string (⟨#[]⟩ : ByteArray)]) ?_ 4 _ rfl; (with_reducible repeat (first | refine blk_drewN ?_ _ | refine blk_drew ?_ | refine blk_alloc ?_ _)); refine blk_put (cs := #[.int .i64 t465, .int .i64 t466, .int .i64 t467, .int .i64 0, .string (⟨#[]⟩ : ByteArray)]) ?_ 3 _ rfl; (with_reducible repeat (first | refine blk_drewN ?_ _ | refine blk_drew ?_ | refine blk_alloc ?_ _)); refine blk_put (cs := #[.int .i64 t465, .int .i64 t466, .int .i64 0, .int .i64 0, .string (⟨#[]⟩ : ByteArray)]) ?_ 2 _ rfl; (with_reducible repeat (first | refine blk_drewN ?_ _ | refine blk_drew ?_ | refine blk_alloc ?_ _)); refine blk_put (cs := #[.int .i64 t465, .int .i64 0, .int .i64 0, .int .i64 0, .string (⟨#[]⟩ : ByteArray)]) ?_ 1 _ rfl; (with_reducible repeat (first | refine blk_drewN ?_ _ | refine blk_drew ?_ | refine blk_alloc ?_ _)); refine blk_put (cs := #[.int .i64 0, .int .i64 0, .int .i64 0, .int .i64 0, .string (⟨#[]⟩ : ByteArray)]) ?_ 0 _ rfl; (with_reducible repeat (first | refine blk_drewN ?_ _ | refine blk_drew ?_ | refine blk_alloc ?_ _)); exact BK471.out⟩, ⟨by repeat (first | (with_reducible first | exact HB.out | apply below_alloc | apply pw_below_drewN | apply below_drew1 | refine below_set ?_ GE464.out | refine below_set ?_ GE471.out) | exact HB.out)⟩⟩
    ·rw [if_neg c17] at H
     have c17b0 : (!(t465 == t458) || (!(t466 == t459) || (!(t467 == t460) || (!(t468 == t461) || (!(t469.toList == t462.toList)))))) = false := by simpa using c17
     clear c17
     have H' := Aside0.mk H
     clear H
     have hnb21 := NB471_464.out
     have hnc21 := NB464_471.out
     have hcz22_0 : w13.cell? ⟨gb471, 0, none⟩ = some (.int .i64 0) := (blk_cell BK471.out 0).trans rfl
     have hcz22_1 : w13.cell? ⟨gb471, 1, none⟩ = some (.int .i64 0) := (blk_cell BK471.out 1).trans rfl
     have hcz22_2 : w13.cell? ⟨gb471, 2, none⟩ = some (.int .i64 0) := (blk_cell BK471.out 2).trans rfl
     have hcz22_3 : w13.cell? ⟨gb471, 3, none⟩ = some (.int .i64 0) := (blk_cell BK471.out 3).trans rfl
     have hcz22_4 : w13.cell? ⟨gb471, 4, none⟩ = some (.string (⟨#[]⟩ : ByteArray)) := (blk_cell BK471.out 4).trans rfl
     have hfz22_0 := blk_frozen BK471.out 0
     have hfz22_1 := blk_frozen BK471.out 1
     have hfz22_2 := blk_frozen BK471.out 2
     have hfz22_3 := blk_frozen BK471.out 3
     have hfz22_4 := blk_frozen BK471.out 4
     have hcz23_0 : w13.cell? ⟨gb464, 0, none⟩ = some (.int .i64 t458) := (blk_cell BK464.out 0).trans rfl
     have hcz23_1 : w13.cell? ⟨gb464, 1, none⟩ = some (.int .i64 t459) := (blk_cell BK464.out 1).trans rfl
     have hcz23_2 : w13.cell? ⟨gb464, 2, none⟩ = some (.int .i64 t460) := (blk_cell BK464.out 2).trans rfl
     have hcz23_3 : w13.cell? ⟨gb464, 3, none⟩ = some (.int .i64 t461) := (blk_cell BK464.out 3).trans rfl
     have hcz23_4 : w13.cell? ⟨gb464, 4, none⟩ = some (.string t462) := (blk_cell BK464.out 4).trans rfl
     have hfz23_0 := blk_frozen BK464.out 0
     have hfz23_1 := blk_frozen BK464.out 1
     have hfz23_2 := blk_frozen BK464.out 2
     have hfz23_3 := blk_frozen BK464.out 3
     have hfz23_4 := blk_frozen BK464.out 4
     go_wp2
     repeat (go_quiet (fail); try go_wp2)
     go_meet
     case rel => exact ⟨_, (!t470), (by first | rfl | (simp; done) | (simp [*]; done)), H', ⟨by first | omega | exact Nat.le_refl _⟩, ⟨by (with_reducible repeat (first | apply Kd.Q_alloc | apply Kd.Q_drewN | apply Kd.Q_drew)); exact Kd.Q_mono (Kd.Q_far (p := ⟨gb471, 4, none⟩) (Kd.Q_far (p := ⟨gb471, 3, none⟩) (Kd.Q_far (p := ⟨gb471, 2, none⟩) (Kd.Q_far (p := ⟨gb471, 1, none⟩) (Kd.Q_far (p := ⟨gb471, 0, none⟩) (Kd.Q_types HO457.out BK471.out (by decide)) (fun _ hk => hk.2) (.int .i64 t465)) (fun _ hk => hk.2) (.int .i64 t466)) (fun _ hk => hk.2) (.int .i64 t467)) (fun _ hk => hk.2) (.int .i64 t468)) (fun _ hk => hk.2) (.string t469)) (fun _ hk => trivial)⟩, ⟨by (with_reducible repeat (first | refine blk_drewN ?_ _ | refine blk_drew ?_ | refine blk_alloc ?_ _)); refine blk_far ?_ NB464_471.out _; (with_reducible repeat (first | refine blk_drewN ?_ _ | refine blk_drew ?_ | refine blk_alloc ?_ _)); refine blk_far ?_ NB464_471.out _; (with_reducible repeat (first | refine blk_drewN ?_ _ | refine blk_drew ?_ | refine blk_alloc ?_ _)); refine blk_far ?_ NB464_471.out _; (with_reducible repeat (first | refine blk_drewN ?_ _ | refine blk_drew ?_ | refine blk_alloc ?_ _)); refine blk_far ?_ NB464_471.out _; (with_reducible repeat (first | refine blk_drewN ?_ _ | refine blk_drew ?_ | refine blk_alloc ?_ _)); refine blk_far ?_ NB464_471.out _; (with_reducible repeat (first | refine blk_drewN ?_ _ | refine blk_drew ?_ | refine blk_alloc ?_ _)); exact BK464.out⟩, ⟨by (with_reducible repeat (first | refine blk_drewN ?_ _ | refine blk_drew ?_ | refine blk_alloc ?_ _)); refine blk_put (cs := #[.int .i64 t465, .int .i64 t466, .int .i64 t467, .int .i64 t468, .string (⟨#[]⟩ : ByteArray)]) ?_ 4 _ rfl; (with_reducible repeat (first | refine blk_drewN ?_ _ | refine blk_drew ?_ | refine blk_alloc ?_ _)); refine blk_put (cs := #[.int .i64 t465, .int .i64 t466, .int .i64 t467, .int .i64 0, .string (⟨#[]⟩ : ByteArray)]) ?_ 3 _ rfl; (with_reducible repeat (first | refine blk_drewN ?_ _ | refine blk_drew ?_ | refine blk_alloc ?_ _)); refine blk_put (cs := #[.int .i64 t465, .int .i64 t466, .int .i64 0, .int .i64 0, .string (⟨#[]⟩ : ByteArray)]) ?_ 2 _ rfl; (with_reducible repeat (first | refine blk_drewN ?_ _ | refine blk_drew ?_ | refine blk_alloc ?_ _)); refine blk_put (cs := #[.int .i64 t465, .int .i64 0, .int .i64 0, .int .i64 0, .string (⟨#[]⟩ : ByteArray)]) ?_ 1 _ rfl; (with_reducible repeat (first | refine blk_drewN ?_ _ | refine blk_drew ?_ | refine blk_alloc ?_ _)); refine blk_put (cs := #[.int .i64 0, .int .i64 0, .int .i64 0, .int .i64 0, .string (⟨#[]⟩ : ByteArray)]) ?_ 0 _ rfl; (with_reducible repeat (first | refine blk_drewN ?_ _ | refine blk_drew ?_ | refine blk_alloc ?_ _)); exact BK471.out⟩, ⟨by repeat (first | (with_reducible first | exact HB.out | apply below_alloc | apply pw_below_drewN | apply below_drew1 | refine below_set ?_ GE464.out | refine below_set ?_ GE471.out) | exact HB.out)⟩⟩
  case rest =>
   clear HC6
   try clear c1
   try clear c2
   try clear c2b0
   try clear c2b1
   try clear p2
   try clear c4
   try clear c14
   try clear c16
   try clear c16b0
   try clear c16b1
   try clear c16b2
   try clear c17
   try clear c17b0
   try clear c18
   try clear c21
   try clear hcz11_0
   try clear hcz11_1
   try clear hcz11_2
   try clear hcz11_3
   try clear hcz11_4
   try clear hcz15_0
   try clear hcz15_1
   try clear hcz15_2
   try clear hcz15_3
   try clear hcz15_4
   try clear hcz19_0
   try clear hcz19_1
   try clear hcz19_2
   try clear hcz19_3
   try clear hcz19_4
   try clear hcz20_0
   try clear hcz20_1
   try clear hcz20_2
   try clear hcz20_3
   try clear hcz20_4
   try clear hcz22_0
   try clear hcz22_1
   try clear hcz22_2
   try clear hcz22_3
   try clear hcz22_4
   try clear hcz23_0
   try clear hcz23_1
   try clear hcz23_2
   try clear hcz23_3
   try clear hcz23_4
   try clear hfz11_0
   try clear hfz11_1
   try clear hfz11_2
   try clear hfz11_3
   try clear hfz11_4
   try clear hfz15_0
   try clear hfz15_1
   try clear hfz15_2
   try clear hfz15_3
   try clear hfz15_4
   try clear hfz19_0
   try clear hfz19_1
   try clear hfz19_2
   try clear hfz19_3
   try clear hfz19_4
   try clear hfz20_0
   try clear hfz20_1
   try clear hfz20_2
   try clear hfz20_3
   try clear hfz20_4
   try clear hfz22_0
   try clear hfz22_1
   try clear hfz22_2
   try clear hfz22_3
   try clear hfz22_4
   try clear hfz23_0
   try clear hfz23_1
   try clear hfz23_2
   try clear hfz23_3
   try clear hfz23_4
   obtain ⟨kq, x43_5, rfl, HA, HJ5, HO_3, BK464, BK471, HB⟩ := hcut
   cases kq with
   | zero => exact absurd HA.out (by simp [laws_FnInDepth.j0])
   | succ kj5 =>
    have H := HA.out
    clear HA
    simp only [laws_FnInDepth.j0] at H
    by_cases c24 : x43_5 = true
    ·subst c24
     have H1 : (if (t470 == t463) = true then (some (t465 == t458 && (t466 == t459 && (t467 == t460 && (t468 == t461 && (t469.toList == t462.toList)))))) else (none)) = some r := by rw [if_pos rfl] at H; exact H
     clear H
     have H := H1
     clear H1
     by_cases c25 : (t470 == t463) = true
     ·rw [if_pos c25] at H
      have c25b0 : (t470 == t463) = true := c25
      (try (have c25b1 : decide (t470 = t463) = true := by simpa using c25))
      (try (have c25b2 : (t470 == t463) = true := by simpa using c25))
      clear c25
      obtain rfl := Option.some.inj H
      have hnb26 := NB471_464.out
      have hnc26 := NB464_471.out
      have hcz27_0 : wc.cell? ⟨gb471, 0, none⟩ = some (.int .i64 t465) := (blk_cell BK471.out 0).trans rfl
      have hcz27_1 : wc.cell? ⟨gb471, 1, none⟩ = some (.int .i64 t466) := (blk_cell BK471.out 1).trans rfl
      have hcz27_2 : wc.cell? ⟨gb471, 2, none⟩ = some (.int .i64 t467) := (blk_cell BK471.out 2).trans rfl
      have hcz27_3 : wc.cell? ⟨gb471, 3, none⟩ = some (.int .i64 t468) := (blk_cell BK471.out 3).trans rfl
      have hcz27_4 : wc.cell? ⟨gb471, 4, none⟩ = some (.string t469) := (blk_cell BK471.out 4).trans rfl
      have hfz27_0 := blk_frozen BK471.out 0
      have hfz27_1 := blk_frozen BK471.out 1
      have hfz27_2 := blk_frozen BK471.out 2
      have hfz27_3 := blk_frozen BK471.out 3
      have hfz27_4 := blk_frozen BK471.out 4
      have hcz28_0 : wc.cell? ⟨gb464, 0, none⟩ = some (.int .i64 t458) := (blk_cell BK464.out 0).trans rfl
      have hcz28_1 : wc.cell? ⟨gb464, 1, none⟩ = some (.int .i64 t459) := (blk_cell BK464.out 1).trans rfl
      have hcz28_2 : wc.cell? ⟨gb464, 2, none⟩ = some (.int .i64 t460) := (blk_cell BK464.out 2).trans rfl
      have hcz28_3 : wc.cell? ⟨gb464, 3, none⟩ = some (.int .i64 t461) := (blk_cell BK464.out 3).trans rfl
      have hcz28_4 : wc.cell? ⟨gb464, 4, none⟩ = some (.string t462) := (blk_cell BK464.out 4).trans rfl
      have hfz28_0 := blk_frozen BK464.out 0
      have hfz28_1 := blk_frozen BK464.out 1
      have hfz28_2 := blk_frozen BK464.out 2
      have hfz28_3 := blk_frozen BK464.out 3
      have hfz28_4 := blk_frozen BK464.out 4
      go_wp2
      repeat (go_quiet (fail); try go_wp2)
      go_ret
      exact ⟨by first | rfl | (simp [errW_none, errW_some] <;> rfl) | (simp [*, errW_none, errW_some] <;> rfl), by repeat (first | (with_reducible first | exact HB.out | apply below_alloc | apply pw_below_drewN | apply below_drew1 | refine below_set ?_ GE464.out | refine below_set ?_ GE471.out) | exact HB.out)⟩
     ·rw [if_neg c25] at H
      exact absurd H (by simp)
    ·replace c24 := Bool.eq_false_iff.mpr c24
     subst c24
     have H1 : ((impl_OpDo.f kj5 t454 t465 t466 t467 t468 t469).bind fun t472 => (laws_FnInDepth.l0 kj5 t454 t455 t472 0)) = some r := by rw [if_neg (show ¬ (false = true) by decide)] at H; exact H
     clear H
     have H := H1
     clear H1
     replace H := Option.bind_eq_some_iff.mp H
     obtain ⟨t472, A290, H⟩ := H
     replace H : (laws_FnInDepth.l0 kj5 t454 t455 t472 0) = some r := H
     have A29 := Aside0.mk A290
     clear A290
     have H' := Aside0.mk H
     clear H
     have hnb30 := NB471_464.out
     have hnc30 := NB464_471.out
     have hcz31_0 : wc.cell? ⟨gb471, 0, none⟩ = some (.int .i64 t465) := (blk_cell BK471.out 0).trans rfl
     have hcz31_1 : wc.cell? ⟨gb471, 1, none⟩ = some (.int .i64 t466) := (blk_cell BK471.out 1).trans rfl
     have hcz31_2 : wc.cell? ⟨gb471, 2, none⟩ = some (.int .i64 t467) := (blk_cell BK471.out 2).trans rfl
     have hcz31_3 : wc.cell? ⟨gb471, 3, none⟩ = some (.int .i64 t468) := (blk_cell BK471.out 3).trans rfl
     have hcz31_4 : wc.cell? ⟨gb471, 4, none⟩ = some (.string t469) := (blk_cell BK471.out 4).trans rfl
     have hfz31_0 := blk_frozen BK471.out 0
     have hfz31_1 := blk_frozen BK471.out 1
     have hfz31_2 := blk_frozen BK471.out 2
     have hfz31_3 := blk_frozen BK471.out 3
     have hfz31_4 := blk_frozen BK471.out 4
     go_wp2_with (first | (go_at_call 23; (with_reducible refine (impl_OpDo.calls kj5 _ _ t454 t465 t466 t467 t468 t469 t472 _ ?side1 ?side2 A29.out ?side3).mono ?_); (case side1 => repeat (first | exact (Kd.Q_reads' HO_3.out).2.2 | (with_reducible refine Kd.C_alloc ?_ _) | (with_reducible refine Kd.C_drewN ?_ _) | (with_reducible refine Kd.C_drew ?_))); (case side2 => exact (Kd.Q_reads' HO_3.out).2.1); (case side3 => exact Glob.below HG.out (by repeat (first | (with_reducible first | exact HB.out | apply below_alloc | apply pw_below_drewN | apply below_drew1 | refine below_set ?_ GE464.out | refine below_set ?_ GE471.out) | exact HB.out))); rintro e w32 ⟨v473, rfl, ho0, hb⟩; have n0_ := Aside0.mk (Kd.Q_elder' (by (with_reducible repeat (first | apply Kd.Q_alloc | apply Kd.Q_drewN | apply Kd.Q_drew)); exact HO_3.out) (Kd.R_base ho0) hb); have n1_ := Aside0.mk (Kd.R_lower (Kd.R_new' ho0 (Kd.Q_lt (by (with_reducible repeat (first | apply Kd.Q_alloc | apply Kd.Q_drewN | apply Kd.Q_drew)); exact HO_3.out))) (below_size (by repeat (first | (with_reducible first | exact HB.out | apply below_alloc | apply pw_below_drewN | apply below_drew1 | refine below_set ?_ GE464.out | refine below_set ?_ GE471.out) | exact HB.out)))); have n2_ := Aside0.mk (blk_below (g := gb464) (o := .cells #[.int .i64 t458, .int .i64 t459, .int .i64 t460, .int .i64 t461, .string t462] 27 (0, 0)) (by (with_reducible repeat (first | refine blk_drewN ?_ _ | refine blk_drew ?_ | refine blk_alloc ?_ _)); exact BK464.out) hb); have n3_ := Aside0.mk (blk_below (g := gb471) (o := .cells #[.int .i64 t465, .int .i64 t466, .int .i64 t467, .int .i64 t468, .string t469] 27 (0, 0)) (by (with_reducible repeat (first | refine blk_drewN ?_ _ | refine blk_drew ?_ | refine blk_alloc ?_ _)); exact BK471.out) hb); have n4_ := Aside0.mk (below_step (by repeat (first | (with_reducible first | exact HB.out | apply below_alloc | apply pw_below_drewN | apply below_drew1 | refine below_set ?_ GE464.out | refine below_set ?_ GE471.out) | exact HB.out)) hb); clear HO_3; clear BK464; clear BK471; clear HB; have HO_3 := n0_; have HO474 := n1_; have BK464 := n2_; have BK471 := n3_; have HB := n4_; clear n0_ n1_ n2_ n3_ n4_; (try clear hb); (try clear hb2); (try clear hk); (try clear hi); (try clear ho0)))
     repeat (go_quiet (first | (go_at_call 23; (with_reducible refine (impl_OpDo.calls kj5 _ _ t454 t465 t466 t467 t468 t469 t472 _ ?side1 ?side2 A29.out ?side3).mono ?_); (case side1 => repeat (first | exact (Kd.Q_reads' HO_3.out).2.2 | (with_reducible refine Kd.C_alloc ?_ _) | (with_reducible refine Kd.C_drewN ?_ _) | (with_reducible refine Kd.C_drew ?_))); (case side2 => exact (Kd.Q_reads' HO_3.out).2.1); (case side3 => exact Glob.below HG.out (by repeat (first | (with_reducible first | exact HB.out | apply below_alloc | apply pw_below_drewN | apply below_drew1 | refine below_set ?_ GE464.out | refine below_set ?_ GE471.out) | exact HB.out))); rintro e w32 ⟨v473, rfl, ho0, hb⟩; have n0_ := Aside0.mk (Kd.Q_elder' (by (with_reducible repeat (first | apply Kd.Q_alloc | apply Kd.Q_drewN | apply Kd.Q_drew)); exact HO_3.out) (Kd.R_base ho0) hb); have n1_ := Aside0.mk (Kd.R_lower (Kd.R_new' ho0 (Kd.Q_lt (by (with_reducible repeat (first | apply Kd.Q_alloc | apply Kd.Q_drewN | apply Kd.Q_drew)); exact HO_3.out))) (below_size (by repeat (first | (with_reducible first | exact HB.out | apply below_alloc | apply pw_below_drewN | apply below_drew1 | refine below_set ?_ GE464.out | refine below_set ?_ GE471.out) | exact HB.out)))); have n2_ := Aside0.mk (blk_below (g := gb464) (o := .cells #[.int .i64 t458, .int .i64 t459, .int .i64 t460, .int .i64 t461, .string t462] 27 (0, 0)) (by (with_reducible repeat (first | refine blk_drewN ?_ _ | refine blk_drew ?_ | refine blk_alloc ?_ _)); exact BK464.out) hb); have n3_ := Aside0.mk (blk_below (g := gb471) (o := .cells #[.int .i64 t465, .int .i64 t466, .int .i64 t467, .int .i64 t468, .string t469] 27 (0, 0)) (by (with_reducible repeat (first | refine blk_drewN ?_ _ | refine blk_drew ?_ | refine blk_alloc ?_ _)); exact BK471.out) hb); have n4_ := Aside0.mk (below_step (by repeat (first | (with_reducible first | exact HB.out | apply below_alloc | apply pw_below_drewN | apply below_drew1 | refine below_set ?_ GE464.out | refine below_set ?_ GE471.out) | exact HB.out)) hb); clear HO_3; clear BK464; clear BK471; clear HB; have HO_3 := n0_; have HO474 := n1_; have BK464 := n2_; have BK471 := n3_; have HB := n4_; clear n0_ n1_ n2_ n3_ n4_; (try clear hb); (try clear hb2); (try clear hk); (try clear hi); (try clear ho0))); try go_wp2_with (first | (go_at_call 23; (with_reducible refine (impl_OpDo.calls kj5 _ _ t454 t465 t466 t467 t468 t469 t472 _ ?side1 ?side2 A29.out ?side3).mono ?_); (case side1 => repeat (first | exact (Kd.Q_reads' HO_3.out).2.2 | (with_reducible refine Kd.C_alloc ?_ _) | (with_reducible refine Kd.C_drewN ?_ _) | (with_reducible refine Kd.C_drew ?_))); (case side2 => exact (Kd.Q_reads' HO_3.out).2.1); (case side3 => exact Glob.below HG.out (by repeat (first | (with_reducible first | exact HB.out | apply below_alloc | apply pw_below_drewN | apply below_drew1 | refine below_set ?_ GE464.out | refine below_set ?_ GE471.out) | exact HB.out))); rintro e w32 ⟨v473, rfl, ho0, hb⟩; have n0_ := Aside0.mk (Kd.Q_elder' (by (with_reducible repeat (first | apply Kd.Q_alloc | apply Kd.Q_drewN | apply Kd.Q_drew)); exact HO_3.out) (Kd.R_base ho0) hb); have n1_ := Aside0.mk (Kd.R_lower (Kd.R_new' ho0 (Kd.Q_lt (by (with_reducible repeat (first | apply Kd.Q_alloc | apply Kd.Q_drewN | apply Kd.Q_drew)); exact HO_3.out))) (below_size (by repeat (first | (with_reducible first | exact HB.out | apply below_alloc | apply pw_below_drewN | apply below_drew1 | refine below_set ?_ GE464.out | refine below_set ?_ GE471.out) | exact HB.out)))); have n2_ := Aside0.mk (blk_below (g := gb464) (o := .cells #[.int .i64 t458, .int .i64 t459, .int .i64 t460, .int .i64 t461, .string t462] 27 (0, 0)) (by (with_reducible repeat (first | refine blk_drewN ?_ _ | refine blk_drew ?_ | refine blk_alloc ?_ _)); exact BK464.out) hb); have n3_ := Aside0.mk (blk_below (g := gb471) (o := .cells #[.int .i64 t465, .int .i64 t466, .int .i64 t467, .int .i64 t468, .string t469] 27 (0, 0)) (by (with_reducible repeat (first | refine blk_drewN ?_ _ | refine blk_drew ?_ | refine blk_alloc ?_ _)); exact BK471.out) hb); have n4_ := Aside0.mk (below_step (by repeat (first | (with_reducible first | exact HB.out | apply below_alloc | apply pw_below_drewN | apply below_drew1 | refine below_set ?_ GE464.out | refine below_set ?_ GE471.out) | exact HB.out)) hb); clear HO_3; clear BK464; clear BK471; clear HB; have HO_3 := n0_; have HO474 := n1_; have BK464 := n2_; have BK471 := n3_; have HB := n4_; clear n0_ n1_ n2_ n3_ n4_; (try clear hb); (try clear hb2); (try clear hk); (try clear hi); (try clear ho0))))
     go_loopg [10] kj5 (fun kq v10 w' => ∃ (x10_2 : Int), v10 = .int .i64 x10_2 ∧ Aside0 (laws_FnInDepth.l0 kq t454 t455 t472 x10_2 = some r) ∧ Aside0 (kq ≤ kj5) ∧ Aside0 (Kd.Q k37 37 w' w.heap.size (fun k_ => some k_ ≠ (v473 : Value).ownBlock) (.slice Ao8 t454.length co8) t454) ∧ Aside0 (Kd.R k37 37 w' w.heap.size (fun k_ => some k_ ≠ ((.slice Ao8 t454.length co8) : Value).ownBlock) v473 t472) ∧ Aside0 (w'.heap[gb464]? = some (.cells #[.int .i64 t458, .int .i64 t459, .int .i64 t460, .int .i64 t461, .string t462] 27 (0, 0))) ∧ Aside0 (w'.heap[gb471]? = some (.cells #[.int .i64 t465, .int .i64 t466, .int .i64 t467, .int .i64 t468, .string t469] 27 (0, 0))) ∧ Aside0 (Below w.heap.size w w'))
     case atStart => exact ⟨(0), (by first | rfl | (simp; done) | (simp [*]; done)), H', ⟨Nat.le_refl _⟩, ⟨by (with_reducible repeat (first | apply Kd.Q_alloc | apply Kd.Q_drewN | apply Kd.Q_drew)); exact Kd.Q_mono HO_3.out (fun _ hk => hk.2)⟩, ⟨by (with_reducible repeat (first | apply Kd.R_alloc | apply Kd.R_drewN | apply Kd.R_drew)); exact Kd.R_mono HO474.out (fun _ hk => hk.2)⟩, ⟨by (with_reducible repeat (first | refine blk_drewN ?_ _ | refine blk_drew ?_ | refine blk_alloc ?_ _)); exact BK464.out⟩, ⟨by (with_reducible repeat (first | refine blk_drewN ?_ _ | refine blk_drew ?_ | refine blk_alloc ?_ _)); exact BK471.out⟩, ⟨by repeat (first | (with_reducible first | exact HB.out | apply below_alloc | apply pw_below_drewN | apply below_drew1 | refine below_set ?_ GE464.out | refine below_set ?_ GE471.out) | exact HB.out)⟩⟩
     case round =>
      clear H'
      try clear c1
      try clear c2
      try clear c2b0
      try clear c2b1
      try clear p2
      try clear c3
      try clear c4
      try clear c14
      try clear c16
      try clear c16b0
      try clear c16b1
      try clear c16b2
      try clear c17
      try clear c17b0
      try clear c18
      try clear c21
      try clear c24
      try clear c25
      try clear c25b0
      try clear c25b1
      try clear c25b2
      try clear c26
      try clear c30
      try clear hcz11_0
      try clear hcz11_1
      try clear hcz11_2
      try clear hcz11_3
      try clear hcz11_4
      try clear hcz15_0
      try clear hcz15_1
      try clear hcz15_2
      try clear hcz15_3
      try clear hcz15_4
      try clear hcz19_0
      try clear hcz19_1
      try clear hcz19_2
      try clear hcz19_3
      try clear hcz19_4
      try clear hcz20_0
      try clear hcz20_1
      try clear hcz20_2
      try clear hcz20_3
      try clear hcz20_4
      try clear hcz22_0
      try clear hcz22_1
      try clear hcz22_2
      try clear hcz22_3
      try clear hcz22_4
      try clear hcz23_0
      try clear hcz23_1
      try clear hcz23_2
      try clear hcz23_3
      try clear hcz23_4
      try clear hcz27_0
      try clear hcz27_1
      try clear hcz27_2
      try clear hcz27_3
      try clear hcz27_4
      try clear hcz28_0
      try clear hcz28_1
      try clear hcz28_2
      try clear hcz28_3
      try clear hcz28_4
      try clear hcz31_0
      try clear hcz31_1
      try clear hcz31_2
      try clear hcz31_3
      try clear hcz31_4
      try clear hfz11_0
      try clear hfz11_1
      try clear hfz11_2
      try clear hfz11_3
      try clear hfz11_4
      try clear hfz15_0
      try clear hfz15_1
      try clear hfz15_2
      try clear hfz15_3
      try clear hfz15_4
      try clear hfz19_0
      try clear hfz19_1
      try clear hfz19_2
      try clear hfz19_3
      try clear hfz19_4
      try clear hfz20_0
      try clear hfz20_1
      try clear hfz20_2
      try clear hfz20_3
      try clear hfz20_4
      try clear hfz22_0
      try clear hfz22_1
      try clear hfz22_2
      try clear hfz22_3
      try clear hfz22_4
      try clear hfz23_0
      try clear hfz23_1
      try clear hfz23_2
      try clear hfz23_3
      try clear hfz23_4
      try clear hfz27_0
      try clear hfz27_1
      try clear hfz27_2
      try clear hfz27_3
      try clear hfz27_4
      try clear hfz28_0
      try clear hfz28_1
      try clear hfz28_2
      try clear hfz28_3
      try clear hfz28_4
      try clear hfz31_0
      try clear hfz31_1
      try clear hfz31_2
      try clear hfz31_3
      try clear hfz31_4
      try clear p2
      obtain ⟨x10_2, rfl, HA, HK2, HO_3, HO_9, BK464, BK471, HB⟩ := hrel
      cases gk with
      | zero => exact absurd HA.out (by simp [laws_FnInDepth.l0])
      | succ k2 =>
       have H := HA.out
       clear HA
       simp only [laws_FnInDepth.l0] at H
       by_cases c33 : x10_2 < (t454.length : Int)
       ·rw [if_pos c33] at H
        have c33b0 : decide (x10_2 < (t454.length : Int)) = true := decide_eq_true c33
        clear c33
        by_cases c34 : 0 ≤ x10_2
        ·rw [if_pos c34] at H
         have c34b0 : decide (0 ≤ x10_2) = true := decide_eq_true c34
         clear c34
         replace H := Option.bind_eq_some_iff.mp H
         obtain ⟨t476, A350, H⟩ := H
         replace H : (if t476 = true then (if x10_2 < (t472.length : Int) then (if ((rd_T37 t472 x10_2).f0) = ((rd_T37 t454 x10_2).f0) then (if ((rd_T37 t472 x10_2).f1) = (wrap64 (((rd_T37 t454 x10_2).f1) + 1)) then (laws_FnInDepth.l0 k2 t454 t455 t472 (wrap64 (x10_2 + 1))) else (none)) else (none)) else (none)) else (if x10_2 < (t472.length : Int) then (if ((rd_T37 t472 x10_2).f0) = ((rd_T37 t454 x10_2).f0) then (if ((rd_T37 t472 x10_2).f1) = (wrap64 (((rd_T37 t454 x10_2).f1) + 0)) then (laws_FnInDepth.l0 k2 t454 t455 t472 (wrap64 (x10_2 + 1))) else (none)) else (none)) else (none))) = some r := H
         have A35 := Aside0.mk A350
         clear A350
         by_cases c36 : t476 = true
         ·subst c36
          have H1 : (if x10_2 < (t472.length : Int) then (if ((rd_T37 t472 x10_2).f0) = ((rd_T37 t454 x10_2).f0) then (if ((rd_T37 t472 x10_2).f1) = (wrap64 (((rd_T37 t454 x10_2).f1) + 1)) then (laws_FnInDepth.l0 k2 t454 t455 t472 (wrap64 (x10_2 + 1))) else (none)) else (none)) else (none)) = some r := by rw [if_pos rfl] at H; exact H
          clear H
          have H := H1
          clear H1
          by_cases c37 : x10_2 < (t472.length : Int)
          ·rw [if_pos c37] at H
           have c37b0 : decide (x10_2 < (t472.length : Int)) = true := decide_eq_true c37
           clear c37
           by_cases c38 : ((rd_T37 t472 x10_2).f0) = ((rd_T37 t454 x10_2).f0)
           ·rw [if_pos c38] at H
            have c38b0 : (((rd_T37 t472 x10_2).f0) == ((rd_T37 t454 x10_2).f0)) = true := beq_iff_eq.mpr c38
            have c38b1 : (((rd_T37 t472 x10_2).f0) != ((rd_T37 t454 x10_2).f0)) = false := bne_eq_false_iff_eq.mpr c38
            clear c38
            by_cases c39 : ((rd_T37 t472 x10_2).f1) = (wrap64 (((rd_T37 t454 x10_2).f1) + 1))
            ·rw [if_pos c39] at H
             have c39b0 : (((rd_T37 t472 x10_2).f1) == (wrap64 (((rd_T37 t454 x10_2).f1) + 1))) = true := beq_iff_eq.mpr c39
             have c39b1 : (((rd_T37 t472 x10_2).f1) != (wrap64 (((rd_T37 t454 x10_2).f1) + 1))) = false := bne_eq_false_iff_eq.mpr c39
             clear c39
             have H' := Aside0.mk H
             clear H
             have p475 : 0 ≤ (x10_2 : Int) := of_decide_eq_true (by first | (with_reducible assumption) | assumption)
             have q475 : x10_2 < (t454.length : Int) := of_decide_eq_true (by first | (with_reducible assumption) | assumption)
             obtain ⟨ad475, e475, hx475_0, hx475_1, hx475_2⟩ := at_T37 (Kd.Q_reads' HO_3.out).2.2 x10_2 p475 q475
             cases e475
             replace p475 := eq_true p475
             replace q475 := eq_true q475
             go_wp2_with (first | (go_at_call 22; (with_reducible refine (impl_TreeUnder.calls k2 _ _ t454 ((rd_T37 t454 x10_2).f0) t455 true _ ?side1 ?side2 A35.out ?side3).mono ?_); (case side1 => repeat (first | exact (Kd.Q_reads' HO_3.out).2.2 | (with_reducible refine Kd.C_alloc ?_ _) | (with_reducible refine Kd.C_drewN ?_ _) | (with_reducible refine Kd.C_drew ?_))); (case side2 => exact (Kd.Q_reads' HO_3.out).2.1); (case side3 => exact Glob.below HG.out (by repeat (first | (with_reducible first | exact HB.out | apply below_alloc | apply pw_below_drewN | apply below_drew1 | refine below_set ?_ GE464.out | refine below_set ?_ GE471.out) | exact HB.out))); rintro e w40 ⟨rfl, hb⟩; have n0_ := Aside0.mk (Kd.Q_below (by (with_reducible repeat (first | apply Kd.Q_alloc | apply Kd.Q_drewN | apply Kd.Q_drew)); exact HO_3.out) hb); have n1_ := Aside0.mk (Kd.R_below (by (with_reducible repeat (first | apply Kd.R_alloc | apply Kd.R_drewN | apply Kd.R_drew)); exact HO_9.out) hb); have n2_ := Aside0.mk (blk_below (g := gb464) (o := .cells #[.int .i64 t458, .int .i64 t459, .int .i64 t460, .int .i64 t461, .string t462] 27 (0, 0)) (by (with_reducible repeat (first | refine blk_drewN ?_ _ | refine blk_drew ?_ | refine blk_alloc ?_ _)); exact BK464.out) hb); have n3_ := Aside0.mk (blk_below (g := gb471) (o := .cells #[.int .i64 t465, .int .i64 t466, .int .i64 t467, .int .i64 t468, .string t469] 27 (0, 0)) (by (with_reducible repeat (first | refine blk_drewN ?_ _ | refine blk_drew ?_ | refine blk_alloc ?_ _)); exact BK471.out) hb); have n4_ := Aside0.mk (below_step (by repeat (first | (with_reducible first | exact HB.out | apply below_alloc | apply pw_below_drewN | apply below_drew1 | refine below_set ?_ GE464.out | refine below_set ?_ GE471.out) | exact HB.out)) hb); clear HO_3; clear HO_9; clear BK464; clear BK471; clear HB; have HO_3 := n0_; have HO_9 := n1_; have BK464 := n2_; have BK471 := n3_; have HB := n4_; clear n0_ n1_ n2_ n3_ n4_; (try clear hb); (try clear hb2); (try clear hk); (try clear hi); obtain ⟨Ao41, co41, eo41⟩ := Kd.R_slice HO_9.out; subst eo41; have p477 : 0 ≤ (x10_2 : Int) := of_decide_eq_true (by first | (with_reducible assumption) | assumption); have q477 : x10_2 < (t472.length : Int) := of_decide_eq_true (by first | (with_reducible assumption) | assumption); obtain ⟨ad477, e477, hx477_0, hx477_1, hx477_2⟩ := at_T37 (Kd.R_reads' HO_9.out).2.2 x10_2 p477 q477; cases e477; replace p477 := eq_true p477; replace q477 := eq_true q477; have p478 : 0 ≤ (x10_2 : Int) := of_decide_eq_true (by first | (with_reducible assumption) | assumption); have q478 : x10_2 < (t454.length : Int) := of_decide_eq_true (by first | (with_reducible assumption) | assumption); obtain ⟨ad478, e478, hx478_0, hx478_1, hx478_2⟩ := at_T37 (Kd.Q_reads' HO_3.out).2.2 x10_2 p478 q478; obtain rfl : ad475 = ad478 := (by injection e478); replace p478 := eq_true p478; replace q478 := eq_true q478; have p479 : 0 ≤ (x10_2 : Int) := of_decide_eq_true (by first | (with_reducible assumption) | assumption); have q479 : x10_2 < (t472.length : Int) := of_decide_eq_true (by first | (with_reducible assumption) | assumption); obtain ⟨ad479, e479, hx479_0, hx479_1, hx479_2⟩ := at_T37 (Kd.R_reads' HO_9.out).2.2 x10_2 p479 q479; obtain rfl : ad477 = ad479 := (by injection e479); replace p479 := eq_true p479; replace q479 := eq_true q479; have p480 : 0 ≤ (x10_2 : Int) := of_decide_eq_true (by first | (with_reducible assumption) | assumption); have q480 : x10_2 < (t454.length : Int) := of_decide_eq_true (by first | (with_reducible assumption) | assumption); obtain ⟨ad480, e480, hx480_0, hx480_1, hx480_2⟩ := at_T37 (Kd.Q_reads' HO_3.out).2.2 x10_2 p480 q480; obtain rfl : ad475 = ad480 := (by injection e480); replace p480 := eq_true p480; replace q480 := eq_true q480))
             repeat (go_quiet (first | (go_at_call 22; (with_reducible refine (impl_TreeUnder.calls k2 _ _ t454 ((rd_T37 t454 x10_2).f0) t455 true _ ?side1 ?side2 A35.out ?side3).mono ?_); (case side1 => repeat (first | exact (Kd.Q_reads' HO_3.out).2.2 | (with_reducible refine Kd.C_alloc ?_ _) | (with_reducible refine Kd.C_drewN ?_ _) | (with_reducible refine Kd.C_drew ?_))); (case side2 => exact (Kd.Q_reads' HO_3.out).2.1); (case side3 => exact Glob.below HG.out (by repeat (first | (with_reducible first | exact HB.out | apply below_alloc | apply pw_below_drewN | apply below_drew1 | refine below_set ?_ GE464.out | refine below_set ?_ GE471.out) | exact HB.out))); rintro e w40 ⟨rfl, hb⟩; have n0_ := Aside0.mk (Kd.Q_below (by (with_reducible repeat (first | apply Kd.Q_alloc | apply Kd.Q_drewN | apply Kd.Q_drew)); exact HO_3.out) hb); have n1_ := Aside0.mk (Kd.R_below (by (with_reducible repeat (first | apply Kd.R_alloc | apply Kd.R_drewN | apply Kd.R_drew)); exact HO_9.out) hb); have n2_ := Aside0.mk (blk_below (g := gb464) (o := .cells #[.int .i64 t458, .int .i64 t459, .int .i64 t460, .int .i64 t461, .string t462] 27 (0, 0)) (by (with_reducible repeat (first | refine blk_drewN ?_ _ | refine blk_drew ?_ | refine blk_alloc ?_ _)); exact BK464.out) hb); have n3_ := Aside0.mk (blk_below (g := gb471) (o := .cells #[.int .i64 t465, .int .i64 t466, .int .i64 t467, .int .i64 t468, .string t469] 27 (0, 0)) (by (with_reducible repeat (first | refine blk_drewN ?_ _ | refine blk_drew ?_ | refine blk_alloc ?_ _)); exact BK471.out) hb); have n4_ := Aside0.mk (below_step (by repeat (first | (with_reducible first | exact HB.out | apply below_alloc | apply pw_below_drewN | apply below_drew1 | refine below_set ?_ GE464.out | refine below_set ?_ GE471.out) | exact HB.out)) hb); clear HO_3; clear HO_9; clear BK464; clear BK471; clear HB; have HO_3 := n0_; have HO_9 := n1_; have BK464 := n2_; have BK471 := n3_; have HB := n4_; clear n0_ n1_ n2_ n3_ n4_; (try clear hb); (try clear hb2); (try clear hk); (try clear hi); obtain ⟨Ao41, co41, eo41⟩ := Kd.R_slice HO_9.out; subst eo41; have p477 : 0 ≤ (x10_2 : Int) := of_decide_eq_true (by first | (with_reducible assumption) | assumption); have q477 : x10_2 < (t472.length : Int) := of_decide_eq_true (by first | (with_reducible assumption) | assumption); obtain ⟨ad477, e477, hx477_0, hx477_1, hx477_2⟩ := at_T37 (Kd.R_reads' HO_9.out).2.2 x10_2 p477 q477; cases e477; replace p477 := eq_true p477; replace q477 := eq_true q477; have p478 : 0 ≤ (x10_2 : Int) := of_decide_eq_true (by first | (with_reducible assumption) | assumption); have q478 : x10_2 < (t454.length : Int) := of_decide_eq_true (by first | (with_reducible assumption) | assumption); obtain ⟨ad478, e478, hx478_0, hx478_1, hx478_2⟩ := at_T37 (Kd.Q_reads' HO_3.out).2.2 x10_2 p478 q478; obtain rfl : ad475 = ad478 := (by injection e478); replace p478 := eq_true p478; replace q478 := eq_true q478; have p479 : 0 ≤ (x10_2 : Int) := of_decide_eq_true (by first | (with_reducible assumption) | assumption); have q479 : x10_2 < (t472.length : Int) := of_decide_eq_true (by first | (with_reducible assumption) | assumption); obtain ⟨ad479, e479, hx479_0, hx479_1, hx479_2⟩ := at_T37 (Kd.R_reads' HO_9.out).2.2 x10_2 p479 q479; obtain rfl : ad477 = ad479 := (by injection e479); replace p479 := eq_true p479; replace q479 := eq_true q479; have p480 : 0 ≤ (x10_2 : Int) := of_decide_eq_true (by first | (with_reducible assumption) | assumption); have q480 : x10_2 < (t454.length : Int) := of_decide_eq_true (by first | (with_reducible assumption) | assumption); obtain ⟨ad480, e480, hx480_0, hx480_1, hx480_2⟩ := at_T37 (Kd.Q_reads' HO_3.out).2.2 x10_2 p480 q480; obtain rfl : ad475 = ad480 := (by injection e480); replace p480 := eq_true p480; replace q480 := eq_true q480)); try go_wp2_with (first | (go_at_call 22; (with_reducible refine (impl_TreeUnder.calls k2 _ _ t454 ((rd_T37 t454 x10_2).f0) t455 true _ ?side1 ?side2 A35.out ?side3).mono ?_); (case side1 => repeat (first | exact (Kd.Q_reads' HO_3.out).2.2 | (with_reducible refine Kd.C_alloc ?_ _) | (with_reducible refine Kd.C_drewN ?_ _) | (with_reducible refine Kd.C_drew ?_))); (case side2 => exact (Kd.Q_reads' HO_3.out).2.1); (case side3 => exact Glob.below HG.out (by repeat (first | (with_reducible first | exact HB.out | apply below_alloc | apply pw_below_drewN | apply below_drew1 | refine below_set ?_ GE464.out | refine below_set ?_ GE471.out) | exact HB.out))); rintro e w40 ⟨rfl, hb⟩; have n0_ := Aside0.mk (Kd.Q_below (by (with_reducible repeat (first | apply Kd.Q_alloc | apply Kd.Q_drewN | apply Kd.Q_drew)); exact HO_3.out) hb); have n1_ := Aside0.mk (Kd.R_below (by (with_reducible repeat (first | apply Kd.R_alloc | apply Kd.R_drewN | apply Kd.R_drew)); exact HO_9.out) hb); have n2_ := Aside0.mk (blk_below (g := gb464) (o := .cells #[.int .i64 t458, .int .i64 t459, .int .i64 t460, .int .i64 t461, .string t462] 27 (0, 0)) (by (with_reducible repeat (first | refine blk_drewN ?_ _ | refine blk_drew ?_ | refine blk_alloc ?_ _)); exact BK464.out) hb); have n3_ := Aside0.mk (blk_below (g := gb471) (o := .cells #[.int .i64 t465, .int .i64 t466, .int .i64 t467, .int .i64 t468, .string t469] 27 (0, 0)) (by (with_reducible repeat (first | refine blk_drewN ?_ _ | refine blk_drew ?_ | refine blk_alloc ?_ _)); exact BK471.out) hb); have n4_ := Aside0.mk (below_step (by repeat (first | (with_reducible first | exact HB.out | apply below_alloc | apply pw_below_drewN | apply below_drew1 | refine below_set ?_ GE464.out | refine below_set ?_ GE471.out) | exact HB.out)) hb); clear HO_3; clear HO_9; clear BK464; clear BK471; clear HB; have HO_3 := n0_; have HO_9 := n1_; have BK464 := n2_; have BK471 := n3_; have HB := n4_; clear n0_ n1_ n2_ n3_ n4_; (try clear hb); (try clear hb2); (try clear hk); (try clear hi); obtain ⟨Ao41, co41, eo41⟩ := Kd.R_slice HO_9.out; subst eo41; have p477 : 0 ≤ (x10_2 : Int) := of_decide_eq_true (by first | (with_reducible assumption) | assumption); have q477 : x10_2 < (t472.length : Int) := of_decide_eq_true (by first | (with_reducible assumption) | assumption); obtain ⟨ad477, e477, hx477_0, hx477_1, hx477_2⟩ := at_T37 (Kd.R_reads' HO_9.out).2.2 x10_2 p477 q477; cases e477; replace p477 := eq_true p477; replace q477 := eq_true q477; have p478 : 0 ≤ (x10_2 : Int) := of_decide_eq_true (by first | (with_reducible assumption) | assumption); have q478 : x10_2 < (t454.length : Int) := of_decide_eq_true (by first | (with_reducible assumption) | assumption); obtain ⟨ad478, e478, hx478_0, hx478_1, hx478_2⟩ := at_T37 (Kd.Q_reads' HO_3.out).2.2 x10_2 p478 q478; obtain rfl : ad475 = ad478 := (by injection e478); replace p478 := eq_true p478; replace q478 := eq_true q478; have p479 : 0 ≤ (x10_2 : Int) := of_decide_eq_true (by first | (with_reducible assumption) | assumption); have q479 : x10_2 < (t472.length : Int) := of_decide_eq_true (by first | (with_reducible assumption) | assumption); obtain ⟨ad479, e479, hx479_0, hx479_1, hx479_2⟩ := at_T37 (Kd.R_reads' HO_9.out).2.2 x10_2 p479 q479; obtain rfl : ad477 = ad479 := (by injection e479); replace p479 := eq_true p479; replace q479 := eq_true q479; have p480 : 0 ≤ (x10_2 : Int) := of_decide_eq_true (by first | (with_reducible assumption) | assumption); have q480 : x10_2 < (t454.length : Int) := of_decide_eq_true (by first | (with_reducible assumption) | assumption); obtain ⟨ad480, e480, hx480_0, hx480_1, hx480_2⟩ := at_T37 (Kd.Q_reads' HO_3.out).2.2 x10_2 p480 q480; obtain rfl : ad475 = ad480 := (by injection e480); replace p480 := eq_true p480; replace q480 := eq_true q480)))
             go_roundg k2
             case measure => have := HJ5.out; have := HK2.out; omega
             case rel => exact ⟨(wrap64 (x10_2 + 1)), (by first | rfl | (simp; done) | (simp [*]; done)), H', ⟨by have := HJ5.out; have := HK2.out; omega⟩, ⟨by (with_reducible repeat (first | apply Kd.Q_alloc | apply Kd.Q_drewN | apply Kd.Q_drew)); exact HO_3.out⟩, ⟨by (with_reducible repeat (first | apply Kd.R_alloc | apply Kd.R_drewN | apply Kd.R_drew)); exact HO_9.out⟩, ⟨by (with_reducible repeat (first | refine blk_drewN ?_ _ | refine blk_drew ?_ | refine blk_alloc ?_ _)); exact BK464.out⟩, ⟨by (with_reducible repeat (first | refine blk_drewN ?_ _ | refine blk_drew ?_ | refine blk_alloc ?_ _)); exact BK471.out⟩, ⟨by repeat (first | (with_reducible first | exact HB.out | apply below_alloc | apply pw_below_drewN | apply below_drew1 | refine below_set ?_ GE464.out | refine below_set ?_ GE471.out) | exact HB.out)⟩⟩
            ·rw [if_neg c39] at H
             exact absurd H (by simp)
           ·rw [if_neg c38] at H
            exact absurd H (by simp)
          ·rw [if_neg c37] at H
           exact absurd H (by simp)
         ·replace c36 := Bool.eq_false_iff.mpr c36
          subst c36
          have H1 : (if x10_2 < (t472.length : Int) then (if ((rd_T37 t472 x10_2).f0) = ((rd_T37 t454 x10_2).f0) then (if ((rd_T37 t472 x10_2).f1) = (wrap64 (((rd_T37 t454 x10_2).f1) + 0)) then (laws_FnInDepth.l0 k2 t454 t455 t472 (wrap64 (x10_2 + 1))) else (none)) else (none)) else (none)) = some r := by rw [if_neg (show ¬ (false = true) by decide)] at H; exact H
          clear H
          have H := H1
          clear H1
          by_cases c42 : x10_2 < (t472.length : Int)
          ·rw [if_pos c42] at H
           have c42b0 : decide (x10_2 < (t472.length : Int)) = true := decide_eq_true c42
           clear c42
           by_cases c43 : ((rd_T37 t472 x10_2).f0) = ((rd_T37 t454 x10_2).f0)
           ·rw [if_pos c43] at H
            have c43b0 : (((rd_T37 t472 x10_2).f0) == ((rd_T37 t454 x10_2).f0)) = true := beq_iff_eq.mpr c43
            have c43b1 : (((rd_T37 t472 x10_2).f0) != ((rd_T37 t454 x10_2).f0)) = false := bne_eq_false_iff_eq.mpr c43
            clear c43
            by_cases c44 : ((rd_T37 t472 x10_2).f1) = (wrap64 (((rd_T37 t454 x10_2).f1) + 0))
            ·rw [if_pos c44] at H
             have c44b0 : (((rd_T37 t472 x10_2).f1) == (wrap64 (((rd_T37 t454 x10_2).f1) + 0))) = true := beq_iff_eq.mpr c44
             have c44b0z := c44b0
             simp only [Int.add_zero] at c44b0z
             have c44b1 : (((rd_T37 t472 x10_2).f1) != (wrap64 (((rd_T37 t454 x10_2).f1) + 0))) = false := bne_eq_false_iff_eq.mpr c44
             have c44b1z := c44b1
             simp only [Int.add_zero] at c44b1z
             clear c44
             have H' := Aside0.mk H
             clear H
             have p475 : 0 ≤ (x10_2 : Int) := of_decide_eq_true (by first | (with_reducible assumption) | assumption)
             have q475 : x10_2 < (t454.length : Int) := of_decide_eq_true (by first | (with_reducible assumption) | assumption)
             obtain ⟨ad475, e475, hx475_0, hx475_1, hx475_2⟩ := at_T37 (Kd.Q_reads' HO_3.out).2.2 x10_2 p475 q475
             cases e475
             replace p475 := eq_true p475
             replace q475 := eq_true q475
             go_wp2_with (first | (go_at_call 22; (with_reducible refine (impl_TreeUnder.calls k2 _ _ t454 ((rd_T37 t454 x10_2).f0) t455 false _ ?side1 ?side2 A35.out ?side3).mono ?_); (case side1 => repeat (first | exact (Kd.Q_reads' HO_3.out).2.2 | (with_reducible refine Kd.C_alloc ?_ _) | (with_reducible refine Kd.C_drewN ?_ _) | (with_reducible refine Kd.C_drew ?_))); (case side2 => exact (Kd.Q_reads' HO_3.out).2.1); (case side3 => exact Glob.below HG.out (by repeat (first | (with_reducible first | exact HB.out | apply below_alloc | apply pw_below_drewN | apply below_drew1 | refine below_set ?_ GE464.out | refine below_set ?_ GE471.out) | exact HB.out))); rintro e w45 ⟨rfl, hb⟩; have n0_ := Aside0.mk (Kd.Q_below (by (with_reducible repeat (first | apply Kd.Q_alloc | apply Kd.Q_drewN | apply Kd.Q_drew)); exact HO_3.out) hb); have n1_ := Aside0.mk (Kd.R_below (by (with_reducible repeat (first | apply Kd.R_alloc | apply Kd.R_drewN | apply Kd.R_drew)); exact HO_9.out) hb); have n2_ := Aside0.mk (blk_below (g := gb464) (o := .cells #[.int .i64 t458, .int .i64 t459, .int .i64 t460, .int .i64 t461, .string t462] 27 (0, 0)) (by (with_reducible repeat (first | refine blk_drewN ?_ _ | refine blk_drew ?_ | refine blk_alloc ?_ _)); exact BK464.out) hb); have n3_ := Aside0.mk (blk_below (g := gb471) (o := .cells #[.int .i64 t465, .int .i64 t466, .int .i64 t467, .int .i64 t468, .string t469] 27 (0, 0)) (by (with_reducible repeat (first | refine blk_drewN ?_ _ | refine blk_drew ?_ | refine blk_alloc ?_ _)); exact BK471.out) hb); have n4_ := Aside0.mk (below_step (by repeat (first | (with_reducible first | exact HB.out | apply below_alloc | apply pw_below_drewN | apply below_drew1 | refine below_set ?_ GE464.out | refine below_set ?_ GE471.out) | exact HB.out)) hb); clear HO_3; clear HO_9; clear BK464; clear BK471; clear HB; have HO_3 := n0_; have HO_9 := n1_; have BK464 := n2_; have BK471 := n3_; have HB := n4_; clear n0_ n1_ n2_ n3_ n4_; (try clear hb); (try clear hb2); (try clear hk); (try clear hi); obtain ⟨Ao46, co46, eo46⟩ := Kd.R_slice HO_9.out; subst eo46; have p481 : 0 ≤ (x10_2 : Int) := of_decide_eq_true (by first | (with_reducible assumption) | assumption); have q481 : x10_2 < (t472.length : Int) := of_decide_eq_true (by first | (with_reducible assumption) | assumption); obtain ⟨ad481, e481, hx481_0, hx481_1, hx481_2⟩ := at_T37 (Kd.R_reads' HO_9.out).2.2 x10_2 p481 q481; cases e481; replace p481 := eq_true p481; replace q481 := eq_true q481; have p482 : 0 ≤ (x10_2 : Int) := of_decide_eq_true (by first | (with_reducible assumption) | assumption); have q482 : x10_2 < (t454.length : Int) := of_decide_eq_true (by first | (with_reducible assumption) | assumption); obtain ⟨ad482, e482, hx482_0, hx482_1, hx482_2⟩ := at_T37 (Kd.Q_reads' HO_3.out).2.2 x10_2 p482 q482; obtain rfl : ad475 = ad482 := (by injection e482); replace p482 := eq_true p482; replace q482 := eq_true q482; have p483 : 0 ≤ (x10_2 : Int) := of_decide_eq_true (by first | (with_reducible assumption) | assumption); have q483 : x10_2 < (t472.length : Int) := of_decide_eq_true (by first | (with_reducible assumption) | assumption); obtain ⟨ad483, e483, hx483_0, hx483_1, hx483_2⟩ := at_T37 (Kd.R_reads' HO_9.out).2.2 x10_2 p483 q483; obtain rfl : ad481 = ad483 := (by injection e483); replace p483 := eq_true p483; replace q483 := eq_true q483; have p484 : 0 ≤ (x10_2 : Int) := of_decide_eq_true (by first | (with_reducible assumption) | assumption); have q484 : x10_2 < (t454.length : Int) := of_decide_eq_true (by first | (with_reducible assumption) | assumption); obtain ⟨ad484, e484, hx484_0, hx484_1, hx484_2⟩ := at_T37 (Kd.Q_reads' HO_3.out).2.2 x10_2 p484 q484; obtain rfl : ad475 = ad484 := (by injection e484); replace p484 := eq_true p484; replace q484 := eq_true q484))
             repeat (go_quiet (first | (go_at_call 22; (with_reducible refine (impl_TreeUnder.calls k2 _ _ t454 ((rd_T37 t454 x10_2).f0) t455 false _ ?side1 ?side2 A35.out ?side3).mono ?_); (case side1 => repeat (first | exact (Kd.Q_reads' HO_3.out).2.2 | (with_reducible refine Kd.C_alloc ?_ _) | (with_reducible refine Kd.C_drewN ?_ _) | (with_reducible refine Kd.C_drew ?_))); (case side2 => exact (Kd.Q_reads' HO_3.out).2.1); (case side3 => exact Glob.below HG.out (by repeat (first | (with_reducible first | exact HB.out | apply below_alloc | apply pw_below_drewN | apply below_drew1 | refine below_set ?_ GE464.out | refine below_set ?_ GE471.out) | exact HB.out))); rintro e w45 ⟨rfl, hb⟩; have n0_ := Aside0.mk (Kd.Q_below (by (with_reducible repeat (first | apply Kd.Q_alloc | apply Kd.Q_drewN | apply Kd.Q_drew)); exact HO_3.out) hb); have n1_ := Aside0.mk (Kd.R_below (by (with_reducible repeat (first | apply Kd.R_alloc | apply Kd.R_drewN | apply Kd.R_drew)); exact HO_9.out) hb); have n2_ := Aside0.mk (blk_below (g := gb464) (o := .cells #[.int .i64 t458, .int .i64 t459, .int .i64 t460, .int .i64 t461, .string t462] 27 (0, 0)) (by (with_reducible repeat (first | refine blk_drewN ?_ _ | refine blk_drew ?_ | refine blk_alloc ?_ _)); exact BK464.out) hb); have n3_ := Aside0.mk (blk_below (g := gb471) (o := .cells #[.int .i64 t465, .int .i64 t466, .int .i64 t467, .int .i64 t468, .string t469] 27 (0, 0)) (by (with_reducible repeat (first | refine blk_drewN ?_ _ | refine blk_drew ?_ | refine blk_alloc ?_ _)); exact BK471.out) hb); have n4_ := Aside0.mk (below_step (by repeat (first | (with_reducible first | exact HB.out | apply below_alloc | apply pw_below_drewN | apply below_drew1 | refine below_set ?_ GE464.out | refine below_set ?_ GE471.out) | exact HB.out)) hb); clear HO_3; clear HO_9; clear BK464; clear BK471; clear HB; have HO_3 := n0_; have HO_9 := n1_; have BK464 := n2_; have BK471 := n3_; have HB := n4_; clear n0_ n1_ n2_ n3_ n4_; (try clear hb); (try clear hb2); (try clear hk); (try clear hi); obtain ⟨Ao46, co46, eo46⟩ := Kd.R_slice HO_9.out; subst eo46; have p481 : 0 ≤ (x10_2 : Int) := of_decide_eq_true (by first | (with_reducible assumption) | assumption); have q481 : x10_2 < (t472.length : Int) := of_decide_eq_true (by first | (with_reducible assumption) | assumption); obtain ⟨ad481, e481, hx481_0, hx481_1, hx481_2⟩ := at_T37 (Kd.R_reads' HO_9.out).2.2 x10_2 p481 q481; cases e481; replace p481 := eq_true p481; replace q481 := eq_true q481; have p482 : 0 ≤ (x10_2 : Int) := of_decide_eq_true (by first | (with_reducible assumption) | assumption); have q482 : x10_2 < (t454.length : Int) := of_decide_eq_true (by first | (with_reducible assumption) | assumption); obtain ⟨ad482, e482, hx482_0, hx482_1, hx482_2⟩ := at_T37 (Kd.Q_reads' HO_3.out).2.2 x10_2 p482 q482; obtain rfl : ad475 = ad482 := (by injection e482); replace p482 := eq_true p482; replace q482 := eq_true q482; have p483 : 0 ≤ (x10_2 : Int) := of_decide_eq_true (by first | (with_reducible assumption) | assumption); have q483 : x10_2 < (t472.length : Int) := of_decide_eq_true (by first | (with_reducible assumption) | assumption); obtain ⟨ad483, e483, hx483_0, hx483_1, hx483_2⟩ := at_T37 (Kd.R_reads' HO_9.out).2.2 x10_2 p483 q483; obtain rfl : ad481 = ad483 := (by injection e483); replace p483 := eq_true p483; replace q483 := eq_true q483; have p484 : 0 ≤ (x10_2 : Int) := of_decide_eq_true (by first | (with_reducible assumption) | assumption); have q484 : x10_2 < (t454.length : Int) := of_decide_eq_true (by first | (with_reducible assumption) | assumption); obtain ⟨ad484, e484, hx484_0, hx484_1, hx484_2⟩ := at_T37 (Kd.Q_reads' HO_3.out).2.2 x10_2 p484 q484; obtain rfl : ad475 = ad484 := (by injection e484); replace p484 := eq_true p484; replace q484 := eq_true q484)); try go_wp2_with (first | (go_at_call 22; (with_reducible refine (impl_TreeUnder.calls k2 _ _ t454 ((rd_T37 t454 x10_2).f0) t455 false _ ?side1 ?side2 A35.out ?side3).mono ?_); (case side1 => repeat (first | exact (Kd.Q_reads' HO_3.out).2.2 | (with_reducible refine Kd.C_alloc ?_ _) | (with_reducible refine Kd.C_drewN ?_ _) | (with_reducible refine Kd.C_drew ?_))); (case side2 => exact (Kd.Q_reads' HO_3.out).2.1); (case side3 => exact Glob.below HG.out (by repeat (first | (with_reducible first | exact HB.out | apply below_alloc | apply pw_below_drewN | apply below_drew1 | refine below_set ?_ GE464.out | refine below_set ?_ GE471.out) | exact HB.out))); rintro e w45 ⟨rfl, hb⟩; have n0_ := Aside0.mk (Kd.Q_below (by (with_reducible repeat (first | apply Kd.Q_alloc | apply Kd.Q_drewN | apply Kd.Q_drew)); exact HO_3.out) hb); have n1_ := Aside0.mk (Kd.R_below (by (with_reducible repeat (first | apply Kd.R_alloc | apply Kd.R_drewN | apply Kd.R_drew)); exact HO_9.out) hb); have n2_ := Aside0.mk (blk_below (g := gb464) (o := .cells #[.int .i64 t458, .int .i64 t459, .int .i64 t460, .int .i64 t461, .string t462] 27 (0, 0)) (by (with_reducible repeat (first | refine blk_drewN ?_ _ | refine blk_drew ?_ | refine blk_alloc ?_ _)); exact BK464.out) hb); have n3_ := Aside0.mk (blk_below (g := gb471) (o := .cells #[.int .i64 t465, .int .i64 t466, .int .i64 t467, .int .i64 t468, .string t469] 27 (0, 0)) (by (with_reducible repeat (first | refine blk_drewN ?_ _ | refine blk_drew ?_ | refine blk_alloc ?_ _)); exact BK471.out) hb); have n4_ := Aside0.mk (below_step (by repeat (first | (with_reducible first | exact HB.out | apply below_alloc | apply pw_below_drewN | apply below_drew1 | refine below_set ?_ GE464.out | refine below_set ?_ GE471.out) | exact HB.out)) hb); clear HO_3; clear HO_9; clear BK464; clear BK471; clear HB; have HO_3 := n0_; have HO_9 := n1_; have BK464 := n2_; have BK471 := n3_; have HB := n4_; clear n0_ n1_ n2_ n3_ n4_; (try clear hb); (try clear hb2); (try clear hk); (try clear hi); obtain ⟨Ao46, co46, eo46⟩ := Kd.R_slice HO_9.out; subst eo46; have p481 : 0 ≤ (x10_2 : Int) := of_decide_eq_true (by first | (with_reducible assumption) | assumption); have q481 : x10_2 < (t472.length : Int) := of_decide_eq_true (by first | (with_reducible assumption) | assumption); obtain ⟨ad481, e481, hx481_0, hx481_1, hx481_2⟩ := at_T37 (Kd.R_reads' HO_9.out).2.2 x10_2 p481 q481; cases e481; replace p481 := eq_true p481; replace q481 := eq_true q481; have p482 : 0 ≤ (x10_2 : Int) := of_decide_eq_true (by first | (with_reducible assumption) | assumption); have q482 : x10_2 < (t454.length : Int) := of_decide_eq_true (by first | (with_reducible assumption) | assumption); obtain ⟨ad482, e482, hx482_0, hx482_1, hx482_2⟩ := at_T37 (Kd.Q_reads' HO_3.out).2.2 x10_2 p482 q482; obtain rfl : ad475 = ad482 := (by injection e482); replace p482 := eq_true p482; replace q482 := eq_true q482; have p483 : 0 ≤ (x10_2 : Int) := of_decide_eq_true (by first | (with_reducible assumption) | assumption); have q483 : x10_2 < (t472.length : Int) := of_decide_eq_true (by first | (with_reducible assumption) | assumption); obtain ⟨ad483, e483, hx483_0, hx483_1, hx483_2⟩ := at_T37 (Kd.R_reads' HO_9.out).2.2 x10_2 p483 q483; obtain rfl : ad481 = ad483 := (by injection e483); replace p483 := eq_true p483; replace q483 := eq_true q483; have p484 : 0 ≤ (x10_2 : Int) := of_decide_eq_true (by first | (with_reducible assumption) | assumption); have q484 : x10_2 < (t454.length : Int) := of_decide_eq_true (by first | (with_reducible assumption) | assumption); obtain ⟨ad484, e484, hx484_0, hx484_1, hx484_2⟩ := at_T37 (Kd.Q_reads' HO_3.out).2.2 x10_2 p484 q484; obtain rfl : ad475 = ad484 := (by injection e484); replace p484 := eq_true p484; replace q484 := eq_true q484)))
             go_roundg k2
             case measure => have := HJ5.out; have := HK2.out; omega
             case rel => exact ⟨(wrap64 (x10_2 + 1)), (by first | rfl | (simp; done) | (simp [*]; done)), H', ⟨by have := HJ5.out; have := HK2.out; omega⟩, ⟨by (with_reducible repeat (first | apply Kd.Q_alloc | apply Kd.Q_drewN | apply Kd.Q_drew)); exact HO_3.out⟩, ⟨by (with_reducible repeat (first | apply Kd.R_alloc | apply Kd.R_drewN | apply Kd.R_drew)); exact HO_9.out⟩, ⟨by (with_reducible repeat (first | refine blk_drewN ?_ _ | refine blk_drew ?_ | refine blk_alloc ?_ _)); exact BK464.out⟩, ⟨by (with_reducible repeat (first | refine blk_drewN ?_ _ | refine blk_drew ?_ | refine blk_alloc ?_ _)); exact BK471.out⟩, ⟨by repeat (first | (with_reducible first | exact HB.out | apply below_alloc | apply pw_below_drewN | apply below_drew1 | refine below_set ?_ GE464.out | refine below_set ?_ GE471.out) | exact HB.out)⟩⟩
            ·rw [if_neg c44] at H
             exact absurd H (by simp)
           ·rw [if_neg c43] at H
            exact absurd H (by simp)
          ·rw [if_neg c42] at H
           exact absurd H (by simp)
        ·rw [if_neg c34] at H
         exact absurd H (by simp)
       ·rw [if_neg c33] at H
        have c33b0 : decide (x10_2 < (t454.length : Int)) = false := decide_eq_false c33
        clear c33
        obtain rfl := Option.some.inj H
        obtain ⟨Ao47, co47, eo47⟩ := Kd.R_slice HO_9.out
        subst eo47
        go_wp2
        repeat (go_quiet (fail); try go_wp2)
        go_ret
        exact ⟨by first | rfl | (simp [errW_none, errW_some] <;> rfl) | (simp [*, errW_none, errW_some] <;> rfl), by repeat (first | (with_reducible first | exact HB.out | apply below_alloc | apply pw_below_drewN | apply below_drew1 | refine below_set ?_ GE464.out | refine below_set ?_ GE471.out) | exact HB.out)⟩

def laws_FnInDepth.Pure : Prop := ∀ (l0 : List Int), l0.length ≤ maxLen → l0.length * 1 ≤ 140737488351232 → (∀ x ∈ l0, (Lit.int .u8 x).wf = true) → ∃ k, laws_FnInDepth.f k l0 = some true
theorem laws_FnInDepth.walk (P : laws_FnInDepth.Pure) (a0 : Option Addr) (len0 cap0 : Nat) (z0 : List Int) (w : World) (w0 : (a0 = none ∧ len0 = 0 ∧ cap0 = 0 ∧ z0 = []) ∨ ∃ x, a0 = some x ∧ len0 ≤ cap0 ∧ cap0 ≤ maxLen ∧ z0.length = cap0 ∧ (∀ i, i < z0.length → w.cell? (x.add i) = some (.int .u8 (z0.getD i 0))) ∧ ∀ n ∈ z0, (Lit.int .u8 n).wf = true) (y0 : len0 * 1 ≤ 140737488351232) (hG : Glob w) :
  Calls Tryd.prog 4 #[.slice a0 len0 cap0] w fun e w' => e = .returned (.bool true) ∧ Below w.heap.size w w' := by
 obtain ⟨l0, rfl, hr0, hm0, hw0, hc0⟩ := ReadsInt.ofRowC w0
 obtain ⟨k, h⟩ := P l0 hm0 y0 hw0
 refine (laws_FnInDepth.calls k _ _ l0 true w (Kd.C_of_reads (d := (0 : Int)) (h1 := fun _ => rfl) hr0) hc0 h hG).mono ?_
 rintro e w' ⟨rfl, hd⟩
 exact ⟨rfl, hd⟩

end Go.Proofs.YtlkheeegkifblaaDoor.P
namespace Go.Proofs.YtlkheeegkifblaaDoor.PL
open Go.RowKit Go.Proofs.YtlkheeegkifblaaDoor.P Go.Proofs.YtlkheeegkifblaaDoorW.PrintWords Go.Proofs.YtlkheeegkifblaaDoorW.PrintLast
theorem of_f (b : List Int) (p : Int) (m : Nat) (l : List ByteArray) (hb : Bytes b) (hp : Rd p (m + 1)) (h1 : 1 ≤ l.length) (h2 : l.length ≤ 1000) : ∃ (s : ByteArray), Ev (fun k => spec_l6Rd_of.f k b p l) (s, p + 1) ∧ s ∈ l := by
 obtain ⟨r, hr, _, h0, hlt, _⟩ := pick_f b p (l.length : Int) m hb hp
 have hlt := hlt (by omega)
 have hi : r.toNat < l.length := by omega
 refine ⟨l[r.toNat], ?_, List.getElem_mem hi⟩
 unfold spec_l6Rd_of.f
 refine Ev.bind hr ?_
 refine ev_pos h0 (ev_pos hlt ?_)
 have : rdOf ByteArray.empty l r = l[r.toNat] := by
  unfold rdOf
  rw [List.getD_eq_getElem?_getD, List.getElem?_eq_getElem hi]
  rfl
 rw [this]
 exact evnow _
theorem text_l0_f (b : List Int) (hb : Bytes b) : ∀ (n : Nat) (s : ByteArray) (p : Int) (m : Nat), s.size + n ≤ 1000 → Rd p (m + n + 2) → ∃ (s' : ByteArray) (p' : Int), Ev (fun k => spec_l71Text.l0 k s n b p) (s', p') ∧ Rd p' m ∧ s'.size ≤ 1010
 | 0, s, p, m, hs, hp => by
  obtain ⟨r, hr, hR, _, _, _⟩ := pick_f b p 40 (m + 1) hb hp
  by_cases h0 : r = 0
  ·obtain ⟨u, hu, hm⟩ := of_f b (p + 1) m [(⟨#[101]⟩ : ByteArray), (⟨#[32]⟩ : ByteArray), (⟨#[97, 97, 97, 97]⟩ : ByteArray), (⟨#[39]⟩ : ByteArray)] hb hR (by simp) (by simp)
   have hz : u.size ≤ 4 := by
    simp only [List.mem_cons, List.not_mem_nil, or_false] at hm
    rcases hm with rfl | rfl | rfl | rfl <;> decide
   refine ⟨s ++ u, p + 1 + 1, ?_, ⟨by have := hR.1; omega, by have := hR.2; omega⟩, by rw [ByteArray.size_append]; omega⟩
   refine Ev.step (fun k => by simp only [spec_l71Text.l0]; rfl) ?_
   refine ev_neg (by omega) (Ev.bind hr (ev_pos h0 (Ev.bind hu (ev_pos (show s.size + u.size ≤ 9223372036854775807 by omega) (evnow _)))))
  ·refine ⟨s, p + 1, ?_, hR.less (by omega), by omega⟩
   refine Ev.step (fun k => by simp only [spec_l71Text.l0]; rfl) ?_
   exact ev_neg (by omega) (Ev.bind hr (ev_neg h0 (evnow _)))
 | n + 1, s, p, m, hs, hp => by
  obtain ⟨u, hu, hm⟩ := of_f b p (m + n + 2) [(⟨#[97]⟩ : ByteArray), (⟨#[98]⟩ : ByteArray), (⟨#[99]⟩ : ByteArray), (⟨#[100]⟩ : ByteArray)] hb (hp.less (by omega)) (by simp) (by simp)
  have hz : u.size = 1 := by
   simp only [List.mem_cons, List.not_mem_nil, or_false] at hm
   rcases hm with rfl | rfl | rfl | rfl <;> decide
  obtain ⟨s', p', h1, h2, h3⟩ := text_l0_f b hb n (s ++ u) (p + 1) m (by rw [ByteArray.size_append]; omega) ⟨by have := hp.1; omega, by have := hp.2; omega⟩
  refine ⟨s', p', ?_, h2, h3⟩
  refine Ev.step (fun k => by simp only [spec_l71Text.l0]; rfl) ?_
  refine ev_pos (by omega) (Ev.bind hu (ev_pos (show s.size + u.size ≤ 9223372036854775807 by omega) ?_))
  have hw : wrap64 (((n + 1 : Nat) : Int) - 1) = n := by rw [wrap_id _ (by omega) (by have := hs; omega)]; omega
  rw [hw]
  exact h1
theorem dtext_f (b : List Int) (p : Int) (m : Nat) (hb : Bytes b) (hp : Rd p (m + 6)) : ∃ (s : ByteArray) (p' : Int), Ev (fun k => spec_l71Text.f k b p) (s, p') ∧ Rd p' m ∧ s.size ≤ 1010 := by
 obtain ⟨r, hr, hR, h0, hlt, _⟩ := pick_f b p 4 (m + 5) hb hp
 have hlt := hlt (by omega)
 obtain ⟨n, rfl⟩ : ∃ n : Nat, r = n := ⟨r.toNat, by omega⟩
 obtain ⟨s', p', h1, h2, h3⟩ := text_l0_f b hb n ⟨#[]⟩ (p + 1) m (by show 0 + n ≤ 1000; omega) (hR.less (by omega))
 refine ⟨s', p', ?_, h2, h3⟩
 unfold spec_l71Text.f
 exact Ev.bind hr h1
theorem did_f (b : List Int) (p : Int) (m : Nat) (hb : Bytes b) (hp : Rd p (m + 2)) : ∃ r p' : Int, Ev (fun k => spec_l71Id.f k b p) (r, p') ∧ Rd p' m ∧ 11 ≤ r ∧ r ≤ 44 := by
 obtain ⟨x, hx, hR, x0, x1, _⟩ := pick_f b p 3 (m + 1) hb hp
 obtain ⟨y, hy, hR2, y0, y1, _⟩ := pick_f b (p + 1) 4 m hb hR
 have x1 := x1 (by omega)
 have y1 := y1 (by omega)
 have e : wrap64 (wrap64 (wrap64 (10 * wrap64 (1 + x)) + 1) + y) = 10 * (1 + x) + 1 + y := by
  rw [wrap_id (1 + x) (by omega) (by omega), wrap_id (10 * (1 + x)) (by omega) (by omega), wrap_id (10 * (1 + x) + 1) (by omega) (by omega), wrap_id _ (by omega) (by omega)]
 refine ⟨10 * (1 + x) + 1 + y, p + 1 + 1, ?_, hR2, by omega, by omega⟩
 unfold spec_l71Id.f
 refine Ev.bind hx (Ev.bind hy ?_)
 rw [e]
 exact evnow _
theorem i64_small {x : Int} (h0 : -1000 ≤ x) (h1 : x ≤ 1000) : I64 x := ⟨by omega, by omega⟩
theorem rd_mem (l : List Int) (r : Int) (h0 : 0 ≤ r) (h1 : r < l.length) : rd l r ∈ l := by
 have hi : r.toNat < l.length := by omega
 unfold rd
 rw [List.getD_eq_getElem?_getD, List.getElem?_eq_getElem hi]
 exact List.getElem_mem hi
theorem open_f (code : List Int) (h : ∀ x ∈ code, 0 ≤ x ∧ x ≤ 255) : ∃ b : List Int, spec_l6Open.f code = some (b, 0) ∧ Bytes b := by
 unfold spec_l6Open.f
 by_cases hl : (code.length : Int) > 2000
 ·refine ⟨code.take 2000, by rw [if_pos hl, if_pos (by omega)], by rw [List.length_take]; omega, fun x hx => h x (List.mem_of_mem_take hx)⟩
 ·exact ⟨code, by rw [if_neg hl], by omega, h⟩
theorem byte_of {x : Int} (h : (Lit.int .u8 x).wf = true) : 0 ≤ x ∧ x ≤ 255 := by
 simp only [Lit.wf, Bool.and_eq_true, decide_eq_true_eq] at h
 exact ⟨h.1, h.2⟩
def wfD (r : S37) : Prop := I64 r.f0 ∧ r.f2.size ≤ 2000
theorem do_wf (t : List S37) (B kd id up at_ : Int) (s : ByteArray) (hI : Inv t B) (hB0 : 0 ≤ B) (hB : B ≤ 1099511627776) (hk : kd = 1 ∨ kd = 2 ∨ kd = 3) (hid : id ≠ 3) (hid64 : I64 id) (hl : t.length ≤ 100000) (hs : s.size ≤ 2000) (hw : ∀ r ∈ t, wfD r) :
  ∃ t' : List S37, Ev (fun n => spec_l3Do.f n t kd id up at_ s) t' ∧ Inv t' (2 * B + 1) ∧ (t'.length ≤ t.length + 1 ∧ t.length ≤ t'.length) ∧ ∀ r ∈ t', wfD r := by
 obtain ⟨t', h1, h2, h3⟩ := do_f t B kd id up at_ s hI hB0 hB hk hid hid64 hl hs
 exact ⟨t', h1, h2, h3, h2.ids⟩
theorem mem_set_wf {t : List S37} (h : ∀ r ∈ t, wfD r) {k : Nat} {v : S37} (hv : wfD v) : ∀ r ∈ t.set k v, wfD r := fun r hr => by
 rcases List.mem_or_eq_of_mem_set hr with hr | rfl
 ·exact h r hr
 ·exact hv
theorem tree_l1 (b : List Int) (hb : Bytes b) : ∀ (n : Nat) (t : List S37) (i : Nat) (p : Int) (m : Nat), i + n = t.length → (∀ r ∈ t, wfD r) → 3 ≤ t.length → t.length ≤ 20 → Rd p (m + n + 3) →
  ∃ (t' : List S37) (p' : Int), Ev (fun k => spec_l71Tree.l1 k t i b p) (t', p') ∧ (∀ r ∈ t', wfD r) ∧ 2 ≤ t'.length ∧ t'.length ≤ 21 ∧ Rd p' m
 | 0, t, i, p, m, h, hw, h3, h20, hp => by
  obtain ⟨r, hr, hR, r0, r1, _⟩ := pick_f b p 24 (m + 2) hb hp
  obtain ⟨x, hx, hX, x0, x1, _⟩ := pick_f b (p + 1) (t.length : Int) (m + 1) hb hR
  obtain ⟨y, hy, hY, y0, y1, _⟩ := pick_f b (p + 1 + 1) 5 m hb hX
  have x1 := x1 (by omega)
  obtain ⟨j, rfl⟩ : ∃ n : Nat, x = n := ⟨x.toNat, by omega⟩
  have hj : j < t.length := by omega
  have hwj := hw _ (List.getElem_mem hj)
  by_cases e0 : r = 0
  ·refine ⟨t.set j ⟨t[j].f0, y, t[j].f2⟩, p + 1 + 1 + 1, ?_, mem_set_wf hw hwj, by rw [List.length_set]; omega, by rw [List.length_set]; omega, hY⟩
   refine Ev.step (fun n => by simp only [spec_l71Tree.l1]; rfl) ?_
   refine ev_neg (by omega) (Ev.bind hr (ev_pos e0 (Ev.bind hx (Ev.bind hy (ev_pos x0 (ev_pos x1 ?_))))))
   simp only [rdR_get t j hj, Int.toNat_natCast]
   exact evnow _
  ·by_cases e1 : r = 1
   ·refine ⟨t ++ [⟨t[j].f0, t[j].f1, t[j].f2⟩], p + 1 + 1, ?_, fun q hq => ?_, by simp; omega, by simp; omega, hX.less (by omega)⟩
    ·refine Ev.step (fun n => by simp only [spec_l71Tree.l1]; rfl) ?_
     refine ev_neg (by omega) (Ev.bind hr (ev_neg e0 (ev_pos e1 (Ev.bind hx (ev_pos x0 (ev_pos x1 (ev_pos (by omega) ?_)))))))
     simp only [rdR_get t j hj]
     exact evnow _
    ·rcases List.mem_append.1 hq with hq | hq
     ·exact hw q hq
     ·rw [List.mem_singleton.1 hq]; exact hwj
   ·by_cases e2 : r = 2
    ·refine ⟨t.drop (1 : Int).toNat, p + 1, ?_, fun q hq => hw q (List.mem_of_mem_drop hq), by rw [List.length_drop]; simp; omega, by rw [List.length_drop]; omega, hR.less (by omega)⟩
     refine Ev.step (fun n => by simp only [spec_l71Tree.l1]; rfl) ?_
     exact ev_neg (by omega) (Ev.bind hr (ev_neg e0 (ev_neg e1 (ev_pos e2 (ev_pos (by omega) (evnow _))))))
    ·refine ⟨t, p + 1, ?_, hw, by omega, by omega, hR.less (by omega)⟩
     refine Ev.step (fun n => by simp only [spec_l71Tree.l1]; rfl) ?_
     exact ev_neg (by omega) (Ev.bind hr (ev_neg e0 (ev_neg e1 (ev_neg e2 (evnow _)))))
 | n + 1, t, i, p, m, h, hw, h3, h20, hp => by
  have hi : i < t.length := by omega
  have hwi := hw _ (List.getElem_mem hi)
  have hsz : t[i].f2.size ≤ 2000 := hwi.2
  have ht := text_f t[i].f2 (by omega)
  have wi : wrap64 ((i : Int) + 1) = ((i + 1 : Nat) : Int) := by rw [wrap_id _ (by omega) (by omega)]; omega
  cases hB : textB t[i].f2 with
  | true =>
   rw [hB] at ht
   obtain ⟨t', p', h1, h2⟩ := tree_l1 b hb n t (i + 1) p m (by omega) hw h3 h20 (hp.less (by omega))
   refine ⟨t', p', ?_, h2⟩
   refine Ev.step (fun n => by simp only [spec_l71Tree.l1]; rfl) ?_
   refine ev_pos (by omega) (ev_pos (by omega) ?_)
   rw [rdR_get t i hi, wi]
   exact Ev.bind ht (ev_pos rfl h1)
  | false =>
   rw [hB] at ht
   obtain ⟨r, hr, hR, r0, r1, _⟩ := pick_f b p 2 (m + n + 3) hb (hp.less (by omega))
   by_cases e0 : r = 0
   ·obtain ⟨t', p', h1, h2⟩ := tree_l1 b hb n (t.set i ⟨t[i].f0, t[i].f1, ⟨#[]⟩⟩) (i + 1) (p + 1) m (by rw [List.length_set]; omega) (mem_set_wf hw ⟨hwi.1, by show (0 : Nat) ≤ 2000; omega⟩) (by rw [List.length_set]; omega) (by rw [List.length_set]; omega) hR
    refine ⟨t', p', ?_, h2⟩
    refine Ev.step (fun n => by simp only [spec_l71Tree.l1]; rfl) ?_
    refine ev_pos (by omega) (ev_pos (by omega) ?_)
    rw [rdR_get t i hi, wi, Int.toNat_natCast]
    exact Ev.bind ht (ev_neg (by decide) (Ev.bind hr (ev_pos e0 h1)))
   ·obtain ⟨t', p', h1, h2⟩ := tree_l1 b hb n t (i + 1) (p + 1) m (by omega) hw h3 h20 hR
    refine ⟨t', p', ?_, h2⟩
    refine Ev.step (fun n => by simp only [spec_l71Tree.l1]; rfl) ?_
    refine ev_pos (by omega) (ev_pos (by omega) ?_)
    rw [rdR_get t i hi, wi]
    exact Ev.bind ht (ev_neg (by decide) (Ev.bind hr (ev_neg e0 h1)))
theorem tree_j2 (b : List Int) (hb : Bytes b) (x4 : Int) (t : List S37) (B : Nat) (up p : Int) (m : Nat) (hI : Inv t B) (hB : B ≤ 100000) (hw : ∀ r ∈ t, wfD r) (hl : t.length ≤ 1000) (hp : Rd p (m + 10)) :
  ∃ (t' : List S37) (p' : Int), (∀ (r : List S37 × Int), Ev (fun k => spec_l71Tree.l0 k t' (wrap64 (x4 - 1)) b p') r → Ev (fun k => spec_l71Tree.j2 k t x4 up b p) r) ∧ Inv t' ((2 * B + 1 : Nat) : Int) ∧ (t'.length ≤ t.length + 1 ∧ t.length ≤ t'.length) ∧ (∀ r ∈ t', wfD r) ∧ Rd p' m := by
 obtain ⟨ks, hks, hkl, hkk⟩ := kids_f t up (by omega)
 have tail : ∀ (at_ q : Int), Rd q (m + 8) → ∃ (t' : List S37) (p' : Int), (∀ (f : Nat → Option (List S37 × Int)) (r : List S37 × Int), (∀ n, f n = ((spec_l71Id.f n b q).bind fun z => ((spec_l71Text.f n b z.2).bind fun y => ((spec_l3Do.f n t 1 z.1 up at_ y.1).bind fun t' => (spec_l71Tree.l0 n t' (wrap64 (x4 - 1)) b y.2))))) → Ev (fun k => spec_l71Tree.l0 k t' (wrap64 (x4 - 1)) b p') r → Ev f r) ∧ Inv t' ((2 * B + 1 : Nat) : Int) ∧ (t'.length ≤ t.length + 1 ∧ t.length ≤ t'.length) ∧ (∀ r ∈ t', wfD r) ∧ Rd p' m := by
  intro at_ q hq
  obtain ⟨z, p1, hz, hZ, z0, z1⟩ := did_f b q (m + 6) hb hq
  obtain ⟨y, p2, hy, hY, y0⟩ := dtext_f b p1 m hb hZ
  obtain ⟨t', ht', hI', hlt, hwt⟩ := do_wf t B 1 z up at_ y hI (by omega) (by omega) (Or.inl rfl) (by omega) (i64_small (by omega) (by omega)) (by omega) (by omega) hw
  exact ⟨t', p2, fun f r hf h => Ev.congr hf (Ev.bind hz (Ev.bind hy (Ev.bind ht' h))), hI'.more (by omega), hlt, hwt, hY⟩
 by_cases hz : (ks.length : Int) > 0
 ·obtain ⟨x, hx, hX, x0, x1, _⟩ := pick_f b p 2 (m + 9) hb hp
  by_cases e0 : x = 0
  ·obtain ⟨y, hy, hY, y0, y1, _⟩ := pick_f b (p + 1) (ks.length : Int) (m + 8) hb hX
   have y1 := y1 (by omega)
   obtain ⟨t', p', h1, h2⟩ := tail (rd ks y) (p + 1 + 1) hY
   refine ⟨t', p', fun r hr => ?_, h2⟩
   refine Ev.step (fun n => by simp only [spec_l71Tree.j2]; rfl) ?_
   refine Ev.bind hks (ev_pos hz (Ev.bind hx ?_))
   refine Ev.step (fun n => by simp only [spec_l71Tree.j3]; rfl) ?_
   refine ev_pos (by simp [e0]) (Ev.bind hy (ev_pos y0 (ev_pos y1 ?_)))
   exact h1 _ r (fun n => rfl) hr
  ·obtain ⟨t', p', h1, h2⟩ := tail 0 (p + 1) (hX.less (by omega))
   refine ⟨t', p', fun r hr => ?_, h2⟩
   refine Ev.step (fun n => by simp only [spec_l71Tree.j2]; rfl) ?_
   refine Ev.bind hks (ev_pos hz (Ev.bind hx ?_))
   refine Ev.step (fun n => by simp only [spec_l71Tree.j3]; rfl) ?_
   refine ev_neg (by simp [e0]) ?_
   exact h1 _ r (fun n => rfl) hr
 ·obtain ⟨t', p', h1, h2⟩ := tail 0 p (hp.less (by omega))
  refine ⟨t', p', fun r hr => ?_, h2⟩
  refine Ev.step (fun n => by simp only [spec_l71Tree.j2]; rfl) ?_
  refine Ev.bind hks (ev_neg hz ?_)
  refine Ev.step (fun n => by simp only [spec_l71Tree.j3]; rfl) ?_
  refine ev_neg (by decide) ?_
  exact h1 _ r (fun n => rfl) hr
theorem tree_l0 (b : List Int) (hb : Bytes b) : ∀ (n : Nat) (t : List S37) (B : Nat) (p : Int) (m : Nat), Inv t B → (B + 1) * 2 ^ n ≤ 16384 → (∀ r ∈ t, wfD r) → 3 ≤ t.length → t.length + n ≤ 20 → Rd p (m + 12 * n + 30) →
  ∃ (t' : List S37) (p' : Int), Ev (fun k => spec_l71Tree.l0 k t n b p) (t', p') ∧ (∀ r ∈ t', wfD r) ∧ 2 ≤ t'.length ∧ t'.length ≤ 21 ∧ Rd p' m
 | 0, t, B, p, m, hI, hB, hw, h3, hl, hp => by
  obtain ⟨t', p', h1, h2⟩ := tree_l1 b hb t.length t 0 p m (by omega) hw h3 (by omega) (hp.less (by omega))
  refine ⟨t', p', ?_, h2⟩
  refine Ev.step (fun n => by simp only [spec_l71Tree.l0]; rfl) ?_
  exact ev_neg (by omega) h1
 | n + 1, t, B, p, m, hI, hB, hw, h3, hl, hp => by
  have hB2 : B + 1 ≤ 16384 := Nat.le_trans (Nat.le_mul_of_pos_right _ (Nat.two_pow_pos _)) hB
  have hB3 : (2 * B + 1 + 1) * 2 ^ n ≤ 16384 := by
   have e : (2 * B + 1 + 1) * 2 ^ n = (B + 1) * 2 ^ (n + 1) := by rw [Nat.pow_succ, show 2 * B + 1 + 1 = (B + 1) * 2 by omega, Nat.mul_assoc, Nat.mul_comm 2]
   rw [e]; exact hB
  have wn : wrap64 (((n + 1 : Nat) : Int) - 1) = n := by rw [wrap_id _ (by omega) (by omega)]; omega
  have go : ∀ (up q : Int), Rd q (m + 12 * n + 40) → ∃ (t' : List S37) (p' : Int), Ev (fun k => spec_l71Tree.j2 k t (n + 1 : Nat) up b q) (t', p') ∧ (∀ r ∈ t', wfD r) ∧ 2 ≤ t'.length ∧ t'.length ≤ 21 ∧ Rd p' m := by
   intro up q hq
   obtain ⟨t1, p1, h1, h2, h3', h4, h5⟩ := tree_j2 b hb (n + 1 : Nat) t B up q (m + 12 * n + 30) hI (by omega) hw (by omega) hq
   obtain ⟨t', p', g1, g2⟩ := tree_l0 b hb n t1 (2 * B + 1) p1 m h2 hB3 h4 (by omega) (by omega) h5
   exact ⟨t', p', h1 _ (by rw [wn]; exact g1), g2⟩
  by_cases e3 : (t.length : Int) > 3
  ·obtain ⟨x, hx, hX, x0, x1, _⟩ := pick_f b p 3 (m + 12 * n + 41) hb (hp.less (by omega))
   by_cases e0 : x > 0
   ·obtain ⟨y, hy, hY, y0, y1, _⟩ := pick_f b (p + 1) (t.length : Int) (m + 12 * n + 40) hb hX
    have y1 := y1 (by omega)
    obtain ⟨t', p', g1, g2⟩ := go (rd_T37 t y).f0 (p + 1 + 1) hY
    refine ⟨t', p', ?_, g2⟩
    refine Ev.step (fun n => by simp only [spec_l71Tree.l0]; rfl) ?_
    refine ev_pos (by omega) (ev_pos e3 (Ev.bind hx ?_))
    refine Ev.step (fun n => by simp only [spec_l71Tree.j1]; rfl) ?_
    exact ev_pos (by simpa using e0) (Ev.bind hy (ev_pos y0 (ev_pos y1 g1)))
   ·obtain ⟨t', p', g1, g2⟩ := go 1 (p + 1) (hX.less (by omega))
    refine ⟨t', p', ?_, g2⟩
    refine Ev.step (fun n => by simp only [spec_l71Tree.l0]; rfl) ?_
    refine ev_pos (by omega) (ev_pos e3 (Ev.bind hx ?_))
    refine Ev.step (fun n => by simp only [spec_l71Tree.j1]; rfl) ?_
    exact ev_neg (by simpa using e0) g1
  ·obtain ⟨t', p', g1, g2⟩ := go 1 p (hp.less (by omega))
   refine ⟨t', p', ?_, g2⟩
   refine Ev.step (fun n => by simp only [spec_l71Tree.l0]; rfl) ?_
   refine ev_pos (by omega) (ev_neg e3 ?_)
   refine Ev.step (fun n => by simp only [spec_l71Tree.j1]; rfl) ?_
   exact ev_neg (by decide) g1
theorem tree71_f (b : List Int) (hb : Bytes b) (p : Int) (m : Nat) (hp : Rd p (m + 200)) : ∃ (t : List S37) (p' : Int), Ev (fun k => spec_l71Tree.f k b p) (t, p') ∧ (∀ r ∈ t, wfD r) ∧ 2 ≤ t.length ∧ t.length ≤ 21 ∧ Rd p' m := by
 obtain ⟨r, hr, hR, r0, r1, _⟩ := pick_f b p 11 (m + 199) hb hp
 have r1 := r1 (by omega)
 obtain ⟨n, rfl⟩ : ∃ n : Nat, r = n := ⟨r.toNat, by omega⟩
 have hI : Inv ([⟨1, 0, ⟨#[]⟩⟩, ⟨2, 0, ⟨#[]⟩⟩, ⟨3, 0, ⟨#[]⟩⟩] : List S37) ((0 : Nat) : Int) := by
  refine ⟨fun x hx => ?_, fun x hx h3 => ?_, ⟨⟨3, 0, ⟨#[]⟩⟩, by simp, rfl⟩, fun x hx => ?_⟩
  all_goals simp only [List.mem_cons, List.not_mem_nil, or_false] at hx
  ·rcases hx with rfl | rfl | rfl <;> exact ⟨Int.le_refl _, Int.le_refl _⟩
  ·rcases hx with rfl | rfl | rfl <;> rfl
  ·rcases hx with rfl | rfl | rfl <;> exact ⟨i64_small (by decide) (by decide), by decide⟩
 have hwf : ∀ r ∈ ([⟨1, 0, ⟨#[]⟩⟩, ⟨2, 0, ⟨#[]⟩⟩, ⟨3, 0, ⟨#[]⟩⟩] : List S37), wfD r := fun x hx => by
  simp only [List.mem_cons, List.not_mem_nil, or_false] at hx
  rcases hx with rfl | rfl | rfl <;> exact ⟨i64_small (by decide) (by decide), by decide⟩
 have hpow : (0 + 1) * 2 ^ n ≤ 16384 := by
  have : 2 ^ n ≤ 2 ^ 14 := Nat.pow_le_pow_right (by decide) (by omega)
  omega
 obtain ⟨t, p', h1, h2⟩ := tree_l0 b hb n _ 0 (p + 1) m hI hpow hwf (by simp) (by simp; omega) (hR.less (by omega))
 refine ⟨t, p', ?_, h2⟩
 unfold spec_l71Tree.f spec_TreeNew.f
 simp only [Option.bind_some]
 exact Ev.bind hr h1
theorem row_l0 (b : List Int) (hb : Bytes b) : ∀ (n : Nat) (t : List S37) (i : Nat) (p : Int) (m : Nat), i + n = 6 → (∀ r ∈ t, wfD r) → 2 ≤ t.length → t.length ≤ 21 → Rd p (m + 202 * n + 10) →
  ∃ (t' : List S37) (id p' : Int), Ev (fun k => spec_l71Row.l0 k t i b p) (t', id, p') ∧ (∀ r ∈ t', wfD r) ∧ 2 ≤ t'.length ∧ t'.length ≤ 21 ∧ I64 id ∧ Rd p' m := by
 intro n
 have last : ∀ (t : List S37) (i : Nat) (p : Int) (m : Nat), (∀ r ∈ t, wfD r) → 2 ≤ t.length → t.length ≤ 21 → Rd p (m + 3) → ∃ (t' : List S37) (id p' : Int), Ev (fun k => spec_l71Row.j1 k t i false b p) (t', id, p') ∧ (∀ r ∈ t', wfD r) ∧ 2 ≤ t'.length ∧ t'.length ≤ 21 ∧ I64 id ∧ Rd p' m := by
  intro t i p m hw h2 h21 hp
  obtain ⟨z, p1, hz, hZ, z0, z1⟩ := did_f b p (m + 1) hb hp
  obtain ⟨y, hy, hY, y0, y1, _⟩ := pick_f b p1 5 m hb hZ
  have y1 := y1 (by omega)
  refine ⟨t, rd [1, 2, 3, z, 0] y, p1 + 1, ?_, hw, h2, h21, ?_, hY⟩
  ·refine Ev.step (fun n => by simp only [spec_l71Row.j1]; rfl) ?_
   refine ev_neg (by decide) (Ev.bind hz ?_)
   simp only [Option.bind_some]
   exact Ev.bind hy (ev_pos y0 (ev_pos (by simpa using y1) (evnow _)))
  ·have := rd_mem ([1, 2, 3, z, 0] : List Int) y y0 (by simpa using y1)
   simp only [List.mem_cons, List.not_mem_nil, or_false] at this
   exact i64_small (by omega) (by omega)
 induction n with
 | zero =>
  intro t i p m h hw h2 h21 hp
  obtain ⟨t', id, p', g1, g2⟩ := last t i p m hw h2 h21 (hp.less (by omega))
  refine ⟨t', id, p', ?_, g2⟩
  refine Ev.step (fun n => by simp only [spec_l71Row.l0]; rfl) ?_
  exact ev_neg (by omega) g1
 | succ n ih =>
  intro t i p m h hw h2 h21 hp
  obtain ⟨x, hx, hX, x0, x1, _⟩ := pick_f b p 12 (m + 202 * n + 211) hb (hp.less (by omega))
  by_cases e0 : x > 0
  ·obtain ⟨y, hy, hY, y0, y1, _⟩ := pick_f b (p + 1) (t.length : Int) (m + 202 * n + 210) hb hX
   have y1 := y1 (by omega)
   obtain ⟨j, rfl⟩ : ∃ n : Nat, y = n := ⟨y.toNat, by omega⟩
   have hj : j < t.length := by omega
   have hwj := hw _ (List.getElem_mem hj)
   have wi : wrap64 ((i : Int) + 1) = ((i + 1 : Nat) : Int) := by rw [wrap_id _ (by omega) (by omega)]; omega
   cases hm : madeB t[j].f0 with
   | true =>
    refine ⟨t, t[j].f0, p + 1 + 1, ?_, hw, h2, h21, hwj.1, hY.less (by omega)⟩
    refine Ev.step (fun n => by simp only [spec_l71Row.l0]; rfl) ?_
    refine ev_pos (by omega) (Ev.bind hx ?_)
    refine Ev.step (fun n => by simp only [spec_l71Row.j1]; rfl) ?_
    refine ev_pos (by simpa using e0) (Ev.bind hy (ev_pos y0 (ev_pos y1 ?_)))
    rw [rdR_get t j hj, made_f _ hwj.1, hm]
    simp only [Option.bind_some]
    exact ev_pos (by simp) (evnow _)
   | false =>
    by_cases e3 : (i : Int) = 3
    ·obtain ⟨t1, p1, g1, g2, g3, g4, g5⟩ := tree71_f b hb (p + 1 + 1) (m + 202 * n + 10) hY
     obtain ⟨t', id, p', k1, k2⟩ := ih t1 (i + 1) p1 m (by omega) g2 g3 g4 g5
     refine ⟨t', id, p', ?_, k2⟩
     refine Ev.step (fun n => by simp only [spec_l71Row.l0]; rfl) ?_
     refine ev_pos (by omega) (Ev.bind hx ?_)
     refine Ev.step (fun n => by simp only [spec_l71Row.j1]; rfl) ?_
     refine ev_pos (by simpa using e0) (Ev.bind hy (ev_pos y0 (ev_pos y1 ?_)))
     rw [rdR_get t j hj, made_f _ hwj.1, hm, wi]
     simp only [Option.bind_some]
     exact ev_neg (by decide) (ev_pos e3 (Ev.bind g1 k1))
    ·obtain ⟨t', id, p', k1, k2⟩ := ih t (i + 1) (p + 1 + 1) m (by omega) hw h2 h21 (hY.less (by omega))
     refine ⟨t', id, p', ?_, k2⟩
     refine Ev.step (fun n => by simp only [spec_l71Row.l0]; rfl) ?_
     refine ev_pos (by omega) (Ev.bind hx ?_)
     refine Ev.step (fun n => by simp only [spec_l71Row.j1]; rfl) ?_
     refine ev_pos (by simpa using e0) (Ev.bind hy (ev_pos y0 (ev_pos y1 ?_)))
     rw [rdR_get t j hj, made_f _ hwj.1, hm, wi]
     simp only [Option.bind_some]
     exact ev_neg (by decide) (ev_neg e3 k1)
  ·obtain ⟨t', id, p', g1, g2⟩ := last t i (p + 1) m hw h2 h21 (hX.less (by omega))
   refine ⟨t', id, p', ?_, g2⟩
   refine Ev.step (fun n => by simp only [spec_l71Row.l0]; rfl) ?_
   refine ev_pos (by omega) (Ev.bind hx ?_)
   rw [decide_eq_false e0]
   exact g1
theorem row71_f (b : List Int) (hb : Bytes b) (p : Int) (m : Nat) (hp : Rd p (m + 1500)) : ∃ (t : List S37) (id p' : Int), Ev (fun k => spec_l71Row.f k b p) (t, id, p') ∧ (∀ r ∈ t, wfD r) ∧ 2 ≤ t.length ∧ t.length ≤ 21 ∧ I64 id ∧ Rd p' m := by
 obtain ⟨t, p1, h1, h2, h3, h4, h5⟩ := tree71_f b hb p (m + 1300) hp
 obtain ⟨t', id, p', g1, g2⟩ := row_l0 b hb 6 t 0 p1 m (by omega) h2 h3 h4 (h5.less (by omega))
 exact ⟨t', id, p', Ev.bind h1 g1, g2⟩
end Go.Proofs.YtlkheeegkifblaaDoor.PL
namespace Go.Proofs.YtlkheeegkifblaaDoor.P
open Go.RowKit Go.Proofs.YtlkheeegkifblaaDoorW.PrintWords Go.Proofs.YtlkheeegkifblaaDoorW.PrintLast
attribute [local go_sem high] eqA37
end Go.Proofs.YtlkheeegkifblaaDoor.P
namespace Go.Proofs.YtlkheeegkifblaaDoor.PL
open Go.RowKit Go.Proofs.YtlkheeegkifblaaDoor.P Go.Proofs.YtlkheeegkifblaaDoorW.PrintWords Go.Proofs.YtlkheeegkifblaaDoorW.PrintLast Go.Proofs.YtlkheeegkifblaaDoor.FP
theorem ids_row {l : List S37} (ht : treeB l = true) {r : S37} (hr : r ∈ l) : ∃ x ∈ (toFo l).ids, r = ⟨(x : Int), (dep x 0 (toFo l) : Int), txtF x (toFo l)⟩ := by
 have v := val_of ht
 have hr2 : r ∈ (toFo l).fl 0 := by rw [toFo_fl ht]; exact hr
 exact fl_get v.nd hr2
theorem pure_of {f : Nat → Option Bool} (h : Ev f true) : ∃ k, f k = some true := by
 obtain ⟨K, hK⟩ := h
 exact ⟨K, hK K (Nat.le_refl K)⟩
theorem wrapM (i : Int) (h0 : 0 ≤ i) (h : i ≤ 4611686018427387904) : wrap64 (i - 1) = i - 1 := by unfold wrap64; omega
theorem take_rev (t : List S37) (i : Nat) (hi : i < t.length) : (t.take (i + 1)).reverse = t[i] :: (t.take i).reverse := by
 rw [List.take_succ_eq_append_getElem hi, List.reverse_append]; rfl
theorem ahead_l0 (t : List S37) (a : Nat) (ha : a < t.length) (hl : t.length ≤ 2000000) : ∀ i, i ≤ t.length → Ev (fun k => spec_l2Ahead.l0 k t a ((i : Int) - 1)) ((aheadO t[a].f1 (t.take i).reverse).getD 0)
 | 0, _ => by
  refine Ev.step (f := fun k => spec_l2Ahead.j1 k t a (((0 : Nat) : Int) - 1) false) (fun k => ?_) ?_
  ·simp only [spec_l2Ahead.l0]; rw [if_neg (by omega)]
  ·refine Ev.step (f := fun _ => some 0) (fun k => ?_) (evnow _)
   simp only [spec_l2Ahead.j1]; rfl
 | i + 1, h => by
  have hi : i < t.length := by omega
  rw [take_rev t i hi]
  unfold aheadO
  rw [show ((i + 1 : Nat) : Int) - 1 = i by omega]
  refine Ev.step (f := fun k => spec_l2Ahead.j1 k t a i (decide (t[i].f1 ≥ t[a].f1))) (fun k => ?_) ?_
  ·simp only [spec_l2Ahead.l0]
   rw [if_pos (by omega), if_pos (by omega), if_pos (by omega), if_pos (by omega), if_pos (by omega), rdR_get t i hi, rdR_get t a ha]
  ·by_cases hq : t[i].f1 < t[a].f1
   ·rw [if_pos hq, decide_eq_false (by omega)]
    refine Ev.step (f := fun _ => some 0) (fun k => ?_) (evnow _)
    simp only [spec_l2Ahead.j1]; rfl
   ·rw [if_neg hq, decide_eq_true (by omega)]
    by_cases he : t[i].f1 = t[a].f1
    ·rw [if_pos he]
     refine Ev.step (f := fun _ => some t[i].f0) (fun k => ?_) (evnow _)
     simp only [spec_l2Ahead.j1]
     rw [if_pos True.intro, if_pos (by omega), if_pos (by omega), if_pos (by omega), if_pos (by omega), rdR_get t i hi, rdR_get t a ha, if_pos he]
    ·rw [if_neg he]
     refine Ev.step (fun k => ?_) (ahead_l0 t a ha hl i (by omega))
     simp only [spec_l2Ahead.j1]
     rw [if_pos True.intro, if_pos (by omega), if_pos (by omega), if_pos (by omega), if_pos (by omega), rdR_get t i hi, rdR_get t a ha, if_neg he, wrapM i (by omega) (by omega)]
theorem spot_take {x d : Nat} {G : Fo} {pre post : List S37} (s : Spot x d G pre post) : (G.fl d).take pre.length = pre := by rw [s.all]; exact List.take_left
theorem ahead_x {G : Fo} (g : Good G) {x : Nat} (hx : x ∈ G.ids) (ht : x ∉ G.tops) {pre post : List S37} (s : Spot x 0 G pre post) : Ev (fun k => spec_l2Ahead.f k (G.fl 0) (pre.length : Int)) (sibT x G : Int) := by
 have hl := spot_len s
 have ha : pre.length < (G.fl 0).length := by omega
 have hn : (G.fl 0).length ≤ 1000 := by rw [fl_len]; exact g.len
 have := ahead_l0 (G.fl 0) pre.length ha (by omega) pre.length (by omega)
 rw [spot_get s ha, spot_take s] at this
 have hp := spot_pre g.nd hx s
 have hu := ahead_top (g.ne0 x hx) G 0 g.nd hx ht
 rw [← hp] at hu
 simp only at this
 rw [hu] at this
 unfold spec_l2Ahead.f
 rw [wrapM _ (by omega) (by omega)]
 exact this
theorem found {l : List S37} (ht : treeB l = true) {id : Int} (h : fndF (toFo l) id ≠ 0) : ∃ m : Nat, id = (m : Int) ∧ fndF (toFo l) id = m ∧ m ∈ (toFo l).ids ∧ ∃ pre post, Spot m 0 (toFo l) pre post ∧ atI l id = (pre.length : Int) := by
 obtain ⟨h1, h2⟩ := fndF_mem h
 obtain ⟨pre, post, s⟩ := spot (fndF (toFo l) id) (toFo l) 0 (val_of ht).nd h1
 refine ⟨fndF (toFo l) id, h2.symm, rfl, h1, pre, post, s, ?_⟩
 have := spot_at s
 rw [toFo_fl ht, h2] at this
 exact this
theorem lost {l : List S37} (ht : treeB l = true) {id : Int} (h : fndF (toFo l) id = 0) : atI l id = -1 := by
 have := at_fnd0 h (val_of ht).ne0
 rwa [toFo_fl ht] at this
theorem par_made {l : List S37} (ht : treeB l = true) {m : Nat} (hm : m ∈ (toFo l).ids) : (rootB (m : Int) = true ∧ m ∈ (toFo l).tops ∧ par m 0 (toFo l) = 0) ∨ (rootB (m : Int) = false ∧ madeB (m : Int) = true ∧ m ∉ (toFo l).tops ∧ par m 0 (toFo l) ≠ 0 ∧ par m 0 (toFo l) ∈ (toFo l).ids) := by
 have v := val_of ht
 by_cases h4 : 4 ≤ m
 ·right
  have hmd := (made_of_ok (v.ok m hm) h4).1
  have htop := v.top hmd
  have hp := (back_top (v.ne0 m hm) (toFo l) v.nd v.ne0 hm htop).up
  exact ⟨made_not_root hmd, hmd, htop, v.ne0 _ hp, hp⟩
 ·left
  have h0 := v.ne0 m hm
  have hc : m = 1 ∨ m = 2 ∨ m = 3 := by omega
  have htop : m ∈ (toFo l).tops := by rw [v.tops]; simp; omega
  refine ⟨?_, htop, par_top0 (G := toFo l) v.nd htop⟩
  rcases hc with rfl | rfl | rfl <;> decide
theorem stahead_f (l : List S37) (id : Int) (hl : l.length ≤ 2000000) (hw : ∀ r ∈ l, wfR r) : Ev (fun k => spec_TreeAhead.f k l id) (aheadR l id) := by
 unfold spec_TreeAhead.f aheadR
 refine Ev.bind (at_f l id (by omega)) (Ev.bind (stree_f l (by omega) hw) ?_)
 cases ht : treeB l with
 | false => rw [if_neg (by decide)]; exact ev_neg (by decide) (evnow _)
 | true =>
  rw [if_pos rfl]
  refine ev_pos rfl ?_
  by_cases h0 : fndF (toFo l) id = 0
  ·rw [if_pos h0, lost ht h0]; exact ev_pos (by omega) (evnow _)
  ·rw [if_neg h0]
   obtain ⟨m, rfl, e, hm, pre, post, s, ha⟩ := found ht h0
   rw [ha, e]
   refine ev_neg (by omega) ?_
   rw [root_f]
   simp only [Option.bind_some]
   rcases par_made ht hm with ⟨h1, h2, h3⟩ | ⟨h1, h2, h3, h4, _⟩
   ·rw [h1, if_pos h3]; exact ev_pos rfl (evnow _)
   ·rw [h1, if_neg h4]
    have := ahead_x (val_of ht).good hm h3 s
    rw [toFo_fl ht] at this
    exact ev_neg (by decide) (Ev.bind this (evnow _))
theorem rd_last (l : List Nat) (h : l ≠ []) : rd (l.map Int.ofNat) (((l.map Int.ofNat).length : Int) - 1) = (lastN 0 l : Int) := by
 rcases lastN_cases l with ⟨e, _⟩ | ⟨l', e⟩
 ·exact absurd e h
 ·generalize lastN 0 l = z at e
  subst e
  rw [List.map_append, List.map_cons, List.map_nil, List.length_append, List.length_cons, List.length_nil]
  unfold rd
  rw [show (((l'.map Int.ofNat).length + (0 + 1) : Nat) : Int) - 1 = ((l'.map Int.ofNat).length : Int) by omega]
  simp
theorem skeyIn_f (l : List S37) (id : Int) (hl : l.length ≤ 2000000) (hw : ∀ r ∈ l, wfR r) : Ev (fun k => spec_KeyIn.f k l id) (keyR keyInF l id) := by
 have no : ∀ (a : Int), Ev (fun k => spec_KeyIn.j0 k l id a true) kNo := fun a => by
  refine Ev.step (f := fun _ => some kNo) (fun k => ?_) (evnow _)
  simp only [spec_KeyIn.j0]; rfl
 unfold spec_KeyIn.f
 refine Ev.bind (stahead_f l id hl hw) ?_
 unfold aheadR keyR
 cases ht : treeB l with
 | false => rw [if_neg (by decide), if_neg (by decide)]; exact ev_neg (by decide) (no _)
 | true =>
  rw [if_pos rfl, if_pos rfl]
  by_cases h0 : fndF (toFo l) id = 0
  ·rw [if_pos h0, if_pos h0, ite_self]; exact ev_neg (by decide) (no _)
  ·rw [if_neg h0, if_neg h0]
   obtain ⟨m, rfl, e, hm, pre, post, s, ha⟩ := found ht h0
   rw [e]
   rcases par_made ht hm with ⟨h1, h2, h3⟩ | ⟨h1, h2, h3, h4, _⟩
   ·rw [if_pos h3, if_neg (fun g => by rw [made_not_root g] at h1; cases h1)]
    exact ev_neg (by decide) (no _)
   ·rw [if_neg h4, if_pos h2]
    refine ev_pos rfl ?_
    unfold keyInF
    by_cases hs : sibT m (toFo l) = 0
    ·rw [if_pos hs, hs]
     exact no _
    ·rw [if_neg hs, beq_eq_false_iff_ne.2 (show ((sibT m (toFo l) : Nat) : Int) ≠ 0 by omega)]
     have v := val_of ht
     have hsm := (sibT_mem m (toFo l)).resolve_left hs
     have hk := kids_x v.good hsm
     rw [toFo_fl ht] at hk
     refine Ev.step (fun k => by simp only [spec_KeyIn.j0]; rfl) ?_
     refine ev_neg (by decide) (Ev.bind hk ?_)
     unfold lastK kMv
     have hlen : (sub (sibT m (toFo l)) (toFo l)).tops.length ≤ 1000 := by
      have h5 := tops_few (sub (sibT m (toFo l)) (toFo l))
      have h6 := (ids_del (sibT m (toFo l)) (toFo l) v.nd hsm).length_eq
      have h7 := v.len
      simp only [List.length_cons, List.length_append] at h6
      omega
     generalize hT : (sub (sibT m (toFo l)) (toFo l)).tops = T at hlen ⊢
     by_cases hn : T = []
     ·subst hn
      refine ev_pos (by simp) ?_
      exact evnow _
     ·have hp : 0 < T.length := List.length_pos_iff.2 hn
      refine ev_neg (by rw [List.length_map]; omega) ?_
      have hlm : ((T.map Int.ofNat).length : Int) = T.length := by rw [List.length_map]
      rw [wrapM _ (by omega) (by omega)]
      refine ev_pos (by omega) (ev_pos (by omega) ?_)
      rw [rd_last T hn]
      exact evnow _
end Go.Proofs.YtlkheeegkifblaaDoor.PL
namespace Go.Proofs.YtlkheeegkifblaaDoor.PL
open Go.Proofs.YtlkheeegkifblaaDoor.P
structure Line (r : S37) : Prop where
 id0 : 0 ≤ r.f0
 id1 : r.f0 < 100
 deep : 0 ≤ r.f1
 txt : ∀ x ∈ r.f2.data.toList, 97 ≤ x.toNat ∧ x.toNat ≤ 100
end Go.Proofs.YtlkheeegkifblaaDoor.PL
namespace Go.Proofs.YtlkheeegkifblaaDoor.P
open Go.RowKit Go.Shelf Go.Proofs.YtlkheeegkifblaaDoorW.PrintWords Go.Proofs.YtlkheeegkifblaaDoorW.PrintLast Go.Proofs.YtlkheeegkifblaaDoorW.PrintMore Go.Proofs.YtlkheeegkifblaaDoor.PL Go.Proofs.YtlkheeegkifblaaDoor.FP
attribute [local go_sem] Oper.semAt_some

open Go.Maps (Keyed)
attribute [local go_sem] Oper.semAt_some

attribute [local go_sem] Oper.semAt_some

theorem At.mem {w : World} {n0 F : Nat} {A : Nat → Option Nat} {h : Nat → Nd} {G : Fo} (t : At w n0 F A h G) {i b : Nat} (hi : A i = some b) : i ∈ G.ids := (t.dom i).1 (by rw [hi]; simp)
attribute [local go_sem] Oper.semAt_some

attribute [local go_sem] Oper.semAt_some

attribute [local go_sem] Oper.semAt_some

end Go.Proofs.YtlkheeegkifblaaDoor.P
namespace Go.Proofs.YtlkheeegkifblaaDoor.PL
open Go.RowKit Go.Proofs.YtlkheeegkifblaaDoor.P Go.Proofs.YtlkheeegkifblaaDoorW.PrintWords Go.Proofs.YtlkheeegkifblaaDoorW.PrintLast Go.Proofs.YtlkheeegkifblaaDoor.FP
theorem textFrom_all (s : ByteArray) : ∀ (n i : Nat), textFrom s i n = true → ∀ j, i ≤ j → j < i + n → 97 ≤ bt s j ∧ bt s j ≤ 100
 | 0, i, _, j, h1, h2 => absurd h2 (by omega)
 | n + 1, i, h, j, h1, h2 => by
  simp only [textFrom, Bool.and_eq_true, decide_eq_true_eq] at h
  by_cases e : j = i
  ·subst e; exact h.1
  ·exact textFrom_all s n (i + 1) h.2 j (by omega) (by omega)
theorem textB_bytes {s : ByteArray} (h : textB s = true) : s.size ≤ 4 ∧ ∀ x ∈ s.data.toList, 97 ≤ x.toNat ∧ x.toNat ≤ 100 := by
 unfold textB at h
 rw [Bool.and_eq_true, decide_eq_true_eq] at h
 refine ⟨h.2, fun x hx => ?_⟩
 obtain ⟨j, hj, e⟩ := List.mem_iff_getElem.1 hx
 have hj2 : j < s.size := by show j < s.data.size; simpa using hj
 have := textFrom_all s s.size 0 h.1 j (by omega) (by omega)
 unfold bt at this
 rw [Int.toNat_natCast, dif_pos hj2] at this
 have e2 : s[j]'hj2 = x := by rw [← e]; simp; rfl
 rw [e2] at this
 omega
theorem line_of {r : S37} (h : rowB r = true) : Line r ∧ r.f1 ≤ 100 ∧ r.f2.size ≤ 100 := by
 unfold rowB at h
 split at h
 ·rename_i hr
  rw [Bool.and_eq_true, decide_eq_true_eq] at h
  unfold rootB at hr
  rw [Bool.and_eq_true, decide_eq_true_eq, decide_eq_true_eq] at hr
  have e : r.f2.toList = [] := by simpa using h.2
  have e2 : r.f2.data.toList = [] := by rw [← Go.ByteArray.toList_eq]; exact e
  have e3 : r.f2.size = 0 := by show r.f2.data.size = 0; rw [← Array.length_toList, e2]; rfl
  exact ⟨⟨by omega, by omega, by omega, fun x hx => by rw [e2] at hx; cases hx⟩, by omega, by omega⟩
 ·simp only [Bool.and_eq_true, decide_eq_true_eq] at h
  obtain ⟨h1, h2, h3, h4⟩ := h
  obtain ⟨h5, h6⟩ := made_small _ h1
  obtain ⟨h7, h8⟩ := textB_bytes h4
  exact ⟨⟨h5, by omega, by omega, h8⟩, by omega, by omega⟩
structure Dk (t : List S37) (id : Int) : Prop where
 wf : ∀ r ∈ t, wfD r
 few : t.length ≤ 21
 id64 : I64 id
theorem Dk.wfR {t : List S37} {id : Int} (d : Dk t id) : ∀ r ∈ t, wfR r := fun r hr => ⟨(d.wf r hr).1, by have := (d.wf r hr).2; omega⟩
theorem Dk.tree {t : List S37} {id : Int} (d : Dk t id) : Ev (fun n => spec_TreeOk.f n t) (treeB t) := stree_f t (by have := d.few; omega) d.wfR
theorem row_dk (b : List Int) (hb : Bytes b) (p : Int) (m : Nat) (hp : Rd p (m + 1500)) : ∃ (t : List S37) (id p' : Int), Ev (fun k => spec_l71Row.f k b p) (t, id, p') ∧ Dk t id ∧ Rd p' m := by
 obtain ⟨t, id, p', h1, h2, _, h3, h4, h5⟩ := row71_f b hb p m hp
 exact ⟨t, id, p', h1, ⟨h2, h3, h4⟩, h5⟩
theorem drawAhead_l0 (b : List Int) (hb : Bytes b) : ∀ (n i : Nat) (t : List S37) (id p : Int), i + n = 5 → Dk t id → Rd p (1501 * n + 1) →
  ∃ (t' : List S37) (id' : Int), Ev (fun m => spec_DrawTreeAhead.l0 m t id i b p) (t', id') ∧ Dk t' id'
 | 0, i, t, id, p, h, d, hp => by
  refine ⟨t, id, ?_, d⟩
  refine Ev.step (f := fun m => spec_DrawTreeAhead.j1 m t id i false b p) (fun m => ?_) ?_
  ·simp only [spec_DrawTreeAhead.l0]; rw [if_neg (by omega)]
  ·refine Ev.step (f := fun _ => some (t, id)) (fun m => ?_) (evnow _)
   simp only [spec_DrawTreeAhead.j1]; rfl
 | n + 1, i, t, id, p, h, d, hp => by
  obtain ⟨x, hx, hX, x0, x1, _⟩ := pick_f b p 6 (1501 * n + 1501) hb (hp.less (by omega))
  have stop : Ev (fun m => spec_DrawTreeAhead.j1 m t id i false b (p + 1)) (t, id) := by
   refine Ev.step (f := fun _ => some (t, id)) (fun m => ?_) (evnow _)
   simp only [spec_DrawTreeAhead.j1]; rfl
  by_cases e0 : x > 0
  ·by_cases e1 : (aheadR t id).1 > 0
   ·refine ⟨t, id, ?_, d⟩
    refine Ev.step (fun m => by simp only [spec_DrawTreeAhead.l0]; rfl) ?_
    refine ev_pos (by omega) (Ev.bind hx ?_)
    rw [decide_eq_true e0]
    refine Ev.step (fun m => by simp only [spec_DrawTreeAhead.j1]; rfl) ?_
    exact ev_pos (by simp) (Ev.bind (stahead_f t id (by have := d.few; omega) d.wfR) (ev_pos e1 (evnow _)))
   ·obtain ⟨t1, id1, p1, h1, d1, r1⟩ := row_dk b hb (p + 1) (1501 * n + 1) (hX.less (by omega))
    obtain ⟨t', id', h2, d2⟩ := drawAhead_l0 b hb n (i + 1) t1 id1 p1 (by omega) d1 r1
    refine ⟨t', id', ?_, d2⟩
    refine Ev.step (fun m => by simp only [spec_DrawTreeAhead.l0]; rfl) ?_
    refine ev_pos (by omega) (Ev.bind hx ?_)
    rw [decide_eq_true e0]
    refine Ev.step (fun m => by simp only [spec_DrawTreeAhead.j1]; rfl) ?_
    refine ev_pos (by simp) (Ev.bind (stahead_f t id (by have := d.few; omega) d.wfR) (ev_neg e1 (Ev.bind h1 ?_)))
    rw [wrapS i (by omega) (by omega)]
    exact h2
  ·refine ⟨t, id, ?_, d⟩
   refine Ev.step (fun m => by simp only [spec_DrawTreeAhead.l0]; rfl) ?_
   refine ev_pos (by omega) (Ev.bind hx ?_)
   rw [decide_eq_false e0]
   exact stop
theorem drawIn_f (code : List Int) (h : ∀ x ∈ code, (Lit.int .u8 x).wf = true) : ∃ (t : List S37) (id : Int), Ev (fun n => spec_DrawKeyIn.f n code) (t, id) ∧ Dk t id := by
 obtain ⟨b, hb, hB⟩ := open_f code (fun x hx => byte_of (h x hx))
 obtain ⟨t, id, p, h1, d1, r1⟩ := row_dk b hB 0 7600 ⟨by omega, by omega⟩
 obtain ⟨t', id', h2, d2⟩ := drawAhead_l0 b hB 5 0 t id p (by omega) d1 (r1.less (by omega))
 refine ⟨t', id', ?_, d2⟩
 unfold spec_DrawKeyIn.f spec_DrawTreeAhead.f
 rw [hb]
 simp only [Option.bind_some]
 exact Ev.bind (Ev.bind h1 h2) (evnow _)
end Go.Proofs.YtlkheeegkifblaaDoor.PL
namespace Go.Proofs.YtlkheeegkifblaaDoor.P
open Go.RowKit Go.Shelf Go.Proofs.YtlkheeegkifblaaDoorW.PrintWords Go.Proofs.YtlkheeegkifblaaDoorW.PrintLast Go.Proofs.YtlkheeegkifblaaDoorW.PrintMore Go.Proofs.YtlkheeegkifblaaDoor.PL Go.Proofs.YtlkheeegkifblaaDoor.FP
attribute [local go_sem] Oper.semAt_some

attribute [local go_sem] Oper.semAt_some

end Go.Proofs.YtlkheeegkifblaaDoor.P
namespace Go.Proofs.YtlkheeegkifblaaDoor.PL
open Go.RowKit Go.Proofs.YtlkheeegkifblaaDoor.P Go.Proofs.YtlkheeegkifblaaDoorW.PrintWords Go.Proofs.YtlkheeegkifblaaDoorW.PrintLast Go.Proofs.YtlkheeegkifblaaDoor.FP
structure Mk (l : List S37) (m : Nat) : Prop where
 tree : treeB l = true
 made : madeB (m : Int) = true
 mem : m ∈ (toFo l).ids
theorem Mk.v {l : List S37} {m : Nat} (k : Mk l m) : Val (toFo l) := val_of k.tree
theorem Mk.top {l : List S37} {m : Nat} (k : Mk l m) : m ∉ (toFo l).tops := k.v.top k.made
theorem Mk.ne {l : List S37} {m : Nat} (k : Mk l m) : m ≠ 0 := k.v.ne0 m k.mem
theorem Mk.par {l : List S37} {m : Nat} (k : Mk l m) : FP.par m 0 (toFo l) ∈ (toFo l).ids := (back_top k.ne (toFo l) k.v.nd k.v.ne0 k.mem k.top).up
theorem Mk.fnd {l : List S37} {m : Nat} (k : Mk l m) : fndF (toFo l) (m : Int) = m := fnd_nat k.mem
theorem Mk.key {l : List S37} {m : Nat} (k : Mk l m) (K : Fo → Nat → Int × Int × Int × Int × ByteArray × Bool) : keyR K l m = K (toFo l) m := by
 unfold keyR; rw [k.tree, k.made, if_pos rfl, if_pos rfl, k.fnd, if_neg k.ne]
theorem key_yes {K : Fo → Nat → Int × Int × Int × Int × ByteArray × Bool} {l : List S37} {id : Int} (h : (keyR K l id).2.2.2.2.2 = true) : ∃ m : Nat, id = (m : Int) ∧ Mk l m ∧ (K (toFo l) m).2.2.2.2.2 = true ∧ keyR K l id = K (toFo l) m := by
 unfold keyR at h ⊢
 cases ht : treeB l with
 | false => rw [ht, if_neg (by decide)] at h; cases h
 | true =>
  rw [ht, if_pos rfl] at h
  cases hm : madeB id with
  | false => rw [hm, if_neg (by decide)] at h; cases h
  | true =>
   rw [hm, if_pos rfl] at h
   by_cases h0 : fndF (toFo l) id = 0
   ·rw [if_pos h0] at h; cases h
   ·rw [if_neg h0] at h
    obtain ⟨h1, h2⟩ := fndF_mem h0
    refine ⟨fndF (toFo l) id, h2.symm, ⟨ht, by rw [h2]; exact hm, h1⟩, h, ?_⟩
    rw [if_pos rfl, if_pos rfl, if_neg h0]
theorem keyIn_yes {G : Fo} {m : Nat} (h : (keyInF G m).2.2.2.2.2 = true) : sibT m G ≠ 0 ∧ keyInF G m = kMv m (sibT m G : Nat) (lastK (sibT m G) G : Nat) := by
 unfold keyInF at h ⊢
 by_cases h0 : sibT m G = 0
 ·rw [if_pos h0] at h; cases h
 ·rw [if_neg h0]; exact ⟨h0, rfl⟩
theorem id_of {G : Fo} (v : Val G) {x : Nat} (hx : x ∈ G.ids) : idB (x : Int) = true := by
 unfold idB
 by_cases h4 : 4 ≤ x
 ·rw [(made_of_ok (v.ok x hx) h4).1, Bool.or_true]
 ·have := v.ne0 x hx
  have hc : x = 1 ∨ x = 2 ∨ x = 3 := by omega
  rcases hc with rfl | rfl | rfl <;> decide
theorem made_of_top {G : Fo} (v : Val G) {x : Nat} (hx : x ∈ G.ids) (ht : x ∉ G.tops) : madeB (x : Int) = true := by
 have h4 : 4 ≤ x := by
  rw [v.tops] at ht
  simp only [List.mem_cons, List.not_mem_nil, or_false, not_or] at ht
  have := v.ne0 x hx
  omega
 exact (made_of_ok (v.ok x hx) h4).1
theorem opB_mv {G : Fo} (v : Val G) {m u a : Nat} (hm : madeB (m : Int) = true) (hu : u ∈ G.ids) (ha : a = 0 ∨ (a ∈ G.ids ∧ a ∉ G.tops)) : opB 3 (m : Int) (u : Int) (a : Int) ⟨#[]⟩ = true := by
 have he : (⟨#[]⟩ : ByteArray).toList.isEmpty = true := by rw [Go.ByteArray.toList_eq]; rfl
 unfold opB placeB
 rw [hm, id_of v hu, he]
 rcases ha with rfl | ⟨h1, h2⟩
 ·simp
 ·rw [made_of_top v h1 h2]; simp
theorem mv_do {l : List S37} {m u a : Nat} (k : Mk l m) (hu : u ∈ (toFo l).ids) (ha : a = 0 ∨ (a ∈ (toFo l).ids ∧ a ∉ (toFo l).tops)) (hw : ¬ under m u (toFo l)) (hn : nearF (toFo l) (m : Int) (u : Int) (a : Int) = (u, a)) :
  opB 3 (m : Int) (u : Int) (a : Int) ⟨#[]⟩ = true ∧ opDoR l 3 m u a ⟨#[]⟩ = (mvF (toFo l) (u, a) m).fl 0 ∧ treeB (opDoR l 3 m u a ⟨#[]⟩) = true ∧ toFo (opDoR l 3 m u a ⟨#[]⟩) = mvF (toFo l) (u, a) m ∧ Val (mvF (toFo l) (u, a) m) := by
 have ho := opB_mv k.v k.made hu ha
 obtain ⟨e, h2, h3, v'⟩ := opDo_val ho k.tree
 have e2 : FP.doF (toFo l) 3 (m : Int) (u : Int) (a : Int) ⟨#[]⟩ = mvF (toFo l) (u, a) m := by
  rw [doF_move k.mem k.ne _ _ _ (by rw [fnd_nat hu]; exact hw), hn]
 rw [e2] at e h3 v'
 exact ⟨ho, e, h2, h3, v'⟩
theorem empty_size : (⟨#[]⟩ : ByteArray).size ≤ 9223372036854775807 := by show 0 ≤ _; omega
structure In (t : List S37) (m a b : Nat) : Prop where
 k : Mk t m
 key : keyR keyInF t m = kMv m a b
 ea : sibT m (toFo t) = a
 eb : lastK a (toFo t) = b
 ok : InOk (toFo t) m a b
 op : opB 3 (m : Int) (a : Int) (b : Int) ⟨#[]⟩ = true
 all : opDoR t 3 m a b ⟨#[]⟩ = (mvF (toFo t) (a, b) m).fl 0
 tree : treeB (opDoR t 3 m a b ⟨#[]⟩) = true
 fo : toFo (opDoR t 3 m a b ⟨#[]⟩) = mvF (toFo t) (a, b) m
 val : Val (mvF (toFo t) (a, b) m)
theorem in_yes {t : List S37} {id : Int} (h : (keyR keyInF t id).2.2.2.2.2 = true) : ∃ (m a b : Nat), id = (m : Int) ∧ In t m a b := by
 obtain ⟨m, rfl, k, h1, h2⟩ := key_yes h
 obtain ⟨h3, h4⟩ := keyIn_yes h1
 have io := in_ok k.v.nd k.v.ne0 k.v.three k.mem k.top h3
 have so := io.sib
 have hlast : lastK (sibT m (toFo t)) (toFo t) = 0 ∨ (lastK (sibT m (toFo t)) (toFo t) ∈ (toFo t).ids ∧ lastK (sibT m (toFo t)) (toFo t) ∉ (toFo t).tops) := by
  rcases lastK_par k.v.nd k.v.ne0 so.mem with ⟨e, _⟩ | ⟨e1, e2, _⟩
  ·exact Or.inl e
  ·exact Or.inr ⟨e1, fun g => by rw [par_top0 (G := toFo t) k.v.nd g] at e2; exact k.v.ne0 _ so.mem e2.symm⟩
 obtain ⟨o1, o2, o3, o4, o5⟩ := mv_do k so.mem hlast so.out io.near
 exact ⟨m, sibT m (toFo t), lastK (sibT m (toFo t)) (toFo t), rfl, k, by rw [h2, h4], rfl, rfl, io, o1, o2, o3, o4, o5⟩
theorem in_rows {t : List S37} {m a b : Nat} (o : In t m a b) : opDoR t 3 m a b ⟨#[]⟩ = t.map (deeper (m :: (sub m (toFo t)).ids)) := by
 have h3 : sibT m (toFo t) ≠ 0 := by rw [o.ea]; exact o.k.v.ne0 a o.ok.sib.mem
 have e1 := in_mvT o.k.ne (toFo t) o.k.v.nd o.k.v.ne0 o.k.mem o.k.top h3
 have e2 := in_flT o.k.ne (toFo t) 0 o.k.v.nd o.k.v.ne0 o.k.mem o.k.top h3
 rw [o.ea, o.eb] at e1
 have e3 : mvF (toFo t) (a, b) m = inF m (toFo t) := e1
 rw [o.all, e3, e2, toFo_fl o.k.tree]
theorem under_deep {t : List S37} {m : Nat} (k : Mk t m) {r : S37} (hr : r ∈ t) : underR t r.f0 m = decide (r.f0 ∈ (m :: (sub m (toFo t)).ids).map Int.ofNat) := by
 obtain ⟨y, hy, rfl⟩ := ids_row k.tree hr
 unfold underR
 simp only
 rw [k.tree, k.fnd, fnd_nat hy, decide_eq_true (k.v.ne0 y hy), decide_eq_true k.ne, Bool.true_and, Bool.true_and, Bool.true_and]
 refine decide_eq_decide.2 ?_
 rw [under_iff k.mem]
 constructor
 ·intro h
  exact List.mem_map.2 ⟨y, by rcases h with rfl | h; exact List.mem_cons_self; exact List.mem_cons_of_mem _ h, rfl⟩
 ·intro h
  obtain ⟨z, hz, e⟩ := List.mem_map.1 h
  have e2 : z = y := Int.ofNat.inj e
  subst e2
  exact List.mem_cons.1 hz
theorem inDepth_l0 {t : List S37} {m a b : Nat} (o : In t m a b) (hl : t.length ≤ 1000) : ∀ (n i : Nat), i + n = t.length → Ev (fun k => laws_FnInDepth.l0 k t m (opDoR t 3 m a b ⟨#[]⟩) i) true
 | 0, i, h => by
  refine Ev.step (fun k => by simp only [laws_FnInDepth.l0]; rfl) ?_
  refine ev_neg (by omega) ?_
  rw [in_rows o, List.length_map, BEq.rfl]
  exact evnow _
 | n + 1, i, h => by
  have hi : i < t.length := by omega
  have hx : i < (opDoR t 3 m a b ⟨#[]⟩).length := by rw [in_rows o, List.length_map]; exact hi
  have hxi : (opDoR t 3 m a b ⟨#[]⟩)[i] = deeper (m :: (sub m (toFo t)).ids) t[i] := by
   have e := in_rows o
   have : (opDoR t 3 m a b ⟨#[]⟩)[i] = (t.map (deeper (m :: (sub m (toFo t)).ids)))[i]'(by rw [List.length_map]; exact hi) := by congr 1
   rw [this, List.getElem_map]
  have hrow := (line_of (treeGo_rows t _ _ _ o.k.tree t[i] (List.getElem_mem hi)))
  have hd1 := hrow.2.1
  have hd0 := hrow.1.deep
  have ih := inDepth_l0 o hl n (i + 1) (by omega)
  refine Ev.step (fun k => by simp only [laws_FnInDepth.l0]; rfl) ?_
  refine ev_pos (by omega) (ev_pos (by omega) ?_)
  rw [rdR_get t i hi, rdR_get _ i hx, hxi]
  refine Ev.bind (evnow (underR t t[i].f0 m)) ?_
  rw [under_deep o.k (List.getElem_mem hi), wrapS i (by omega) (by omega)]
  unfold deeper
  by_cases hu : t[i].f0 ∈ (m :: (sub m (toFo t)).ids).map Int.ofNat
  ·rw [decide_eq_true hu]
   simp only [if_pos hu]
   refine ev_pos (by simp) (ev_pos (by omega) (ev_pos (by simp) (ev_pos ?_ ih)))
   rw [wrapS _ hd0 (by omega)]
  ·rw [decide_eq_false hu]
   simp only [if_neg hu]
   refine ev_neg (by simp) (ev_pos (by omega) (ev_pos (by simp) (ev_pos ?_ ih)))
   rw [Int.add_zero, wrap_id _ (by omega) (by omega)]
theorem inDepth_j0 {t : List S37} {id : Int} (d : Dk t id) (r : Int × Int × Int × Int × ByteArray × Bool) (hr : r = keyR keyInF t id) (f : Bool) (hf : f = false → r.2.2.2.2.2 = true) : Ev (fun n => laws_FnInDepth.j0 n t id r.2.2.2.2.2 r.2.2.2.2.2 f r.1 r.2.1 r.2.2.1 r.2.2.2.1 r.2.2.2.2.1 r.1 r.2.1 r.2.2.1 r.2.2.2.1 r.2.2.2.2.1) true := by
 cases f with
 | true => exact Ev.step (f := fun _ => some true) (fun n => by simp [laws_FnInDepth.j0]) (evnow _)
 | false =>
  have h := hf rfl
  rw [hr] at h
  obtain ⟨m, a, b, rfl, o⟩ := in_yes h
  rw [hr, o.key]
  refine Ev.step (fun n => by simp only [laws_FnInDepth.j0]; rfl) ?_
  exact ev_neg (by decide) (Ev.bind (iopDo_f t 3 m a b ⟨#[]⟩ empty_size) (inDepth_l0 o (by have := d.few; omega) t.length 0 (by omega)))
theorem FnInDepth : laws_FnInDepth.Pure := by
 intro l0 _ _ h0
 refine pure_of ?_
 unfold laws_FnInDepth.f
 by_cases h : (l0.length : Int) > 1048576
 ·exact ev_pos h (evnow _)
 ·obtain ⟨t, id, hd, d⟩ := drawIn_f l0 h0
  refine ev_neg h (Ev.bind hd (Ev.bind (skeyIn_f t id (by have := d.few; omega) d.wfR) (Ev.bind (evnow (keyR keyInF t id)) (ev_neg (by simp) (ev_neg (by simp) ?_)))))
  exact inDepth_j0 d _ rfl _ fun h => by simpa using h
end Go.Proofs.YtlkheeegkifblaaDoor.PL
namespace Go.Proofs.YtlkheeegkifblaaDoor.P
open Go.ChangeShapes Go.WideShapes Go.ChangeAt Go.RowKit
theorem tOwners : (Tryd.prog.globals[0]?).map (·.type) = some 66 := by kernel_rfl
theorem cOwners : Tryd.prog.cellsOf 66 = 37 := by kernel_rfl
theorem cInt : Tryd.prog.cellsOf 3 = 1 := by kernel_rfl
abbrev ownCells : Array Value := (owners.map fun z => Value.int .i64 z).toArray
theorem glob_of_laid {W : World} (h : laidMet Tryd.prog [("loop.example/plashet/impl.rowOwners", Rows.laid_loop_example_plashet_impl_rowOwners)] W) : Glob W :=
 Lib.tabIs_of_head gOwners tOwners Tryd.underlying66 Tryd.underlying3 cInt cOwners h
theorem door_met (os : Os) (args : Array Value) : laidMet Tryd.prog [("loop.example/plashet/impl.rowOwners", Rows.laid_loop_example_plashet_impl_rowOwners)] ((World.doorLaid Tryd.prog 400 os).forCall (fun _ _ => 0) ⟨#[], args, []⟩).memory :=
 laidMet_of_run' 8 (by kernel_rfl) (by kernel_rfl)
abbrev tableH {H : Type} : DataW H := .agg (owners.map fun z => .lit (.int .i64 z))
theorem reads_table {H : Type} (enc : TypeId × Value → H) (W : World) (sp : Nat → Bool) : DataW.trod enc Tryd.prog W 0 sp true 3 66 ownCells.toList = some (tableH, []) := by kernel_rfl
theorem tab_vars {H : Type} (enc : TypeId × Value → H) {W : World} (h : Glob W) {sp : Nat → Bool} : DataW.TrodVars enc Tryd.prog W sp ["loop.example/plashet/impl.rowOwners"] [tableH] (MemPlace.row ⟨0, 0, none⟩ ownCells.size ++ [] ++ []) :=
 ⟨0, 66, ownCells, 3, [], [], gOwners, tOwners, h, reads_table enc W sp, rfl, rfl⟩
end Go.Proofs.YtlkheeegkifblaaDoor.P
namespace Go.Proofs.YtlkheeegkifblaaDoor.fnInDepth
open Go.ChangeMaps (open_string shut_string)
open Go.ChangeShapes Go.WideShapes Go.ChangeAt Go.RowKit
theorem own : ownKnob Tryd.prog.godebug = none := by kernel_rfl
theorem laidOut : laidOutB Tryd.prog = true := by kernel_rfl
def IsRow (k : IntKind) (w : World) (a : Option Addr) (len cap : Nat) (zs : List Int) : Prop :=
 (a = none ∧ len = 0 ∧ cap = 0 ∧ zs = []) ∨
 ∃ x, a = some x ∧ len ≤ cap ∧ cap ≤ maxLen ∧ zs.length = cap ∧ (∀ i, i < zs.length → w.cell? (x.add i) = some (.int k (zs.getD i 0))) ∧ ∀ n ∈ zs, (Lit.int k n).wf = true
set_option maxRecDepth 100000 in
theorem lifted (os : Os) (started : os.Started) (H : Type) (enc : TypeId × Value → H) :
  ReturnsInHanded {} Tryd.checked os 4 .any (fun w args => (Rows.fnInDepthSpec.pre enc Tryd.prog Tryd.f4 [] false w args ∧ laidMet Tryd.prog [("loop.example/plashet/impl.rowOwners", Rows.laid_loop_example_plashet_impl_rowOwners)] w) ∧ sizedMet enc Tryd.prog Tryd.f4 (OpenSpec.ofChange Rows.fnInDepthSpec) false w args) (Rows.fnInDepthSpec.post enc Tryd.prog Tryd.f4 false true false false) := by
 refine returnsInHanded_of_change_and (C := Tryd.checked) (X := fun w _ => laidMet Tryd.prog [("loop.example/plashet/impl.rowOwners", Rows.laid_loop_example_plashet_impl_rowOwners)] w) (fun _ _ _ hh h => h.of_heap hh) own started (by kernel_rfl) Tryd.func4
  (ChangeSpec.witness_shaped (enc := enc) (C := Tryd.checked) (os := os) (X := fun w _ => laidMet Tryd.prog [("loop.example/plashet/impl.rowOwners", Rows.laid_loop_example_plashet_impl_rowOwners)] w) false (World.doorLaid Tryd.prog 400 os) #[.slice none 0 0] 8 rfl (World.shaped_of_RefB (by kernel_rfl) (by kernel_rfl)) (by kernel_rfl) (by kernel_rfl) (by kernel_rfl) (P.door_met os _)) ?_
 intro W base args ds gs before hval0 hW _ hsz0 hL _
 have hsz : (DataW.weightsEach Tryd.prog (Tryd.f4.params.toList ++ Rows.fnInDepthSpec.plain.varTypes Tryd.prog) (ds ++ gs)).all (· ≤ reachBytes) = true := hsz0
 have hval : ∀ (j : Nat) t v, Tryd.f4.params[j]? = some t → args[j]? = some v → Value.okWide Tryd.prog W .any base t v := hval0
 have hW' := hW
 obtain ⟨p, q, hA0, hV, rfl, hfz, hnd⟩ := hW
 have hA : DataW.TrodAll enc Tryd.prog W 0 (fun _ => true) true Tryd.f4.params.toList args.toList ds p := hA0
 rw [Tryd.params4] at hA hval hsz
 obtain ⟨v0, vs0, d0, ds0, p0, q0, hargs, rfl, rfl, h0, r0⟩ := trodAll_cons hA
 obtain ⟨rfl, rfl, rfl⟩ := trodAll_nil r0
 obtain rfl : args = #[v0] := by cases args; simp_all
 have hG : P.Glob W := P.glob_of_laid hL
 obtain ⟨gv, tv, csv, fuelv, dv, pv, rfl, hgv, htv, hvarv, hdv, rfl⟩ := trodVars_one hV
 obtain rfl : csv = P.ownCells := Option.some.inj (hvarv.symm.trans hG)
 obtain rfl := Option.some.inj (P.tOwners.symm.trans (by rw [Option.some.inj (P.gOwners.symm.trans hgv)]; exact htv))
 obtain ⟨rfl, rfl⟩ := DataW.Trod.unique (v := .agg P.ownCells) ⟨fuelv, hdv⟩ ⟨3, P.reads_table enc W _⟩
 obtain ⟨a0, len0, cap0, rfl⟩ := okWide_slice Tryd.underlying22 (hval 0 22 v0 rfl rfl)
 have k0 := h0
 have lt0 : ∀ x ∈ p0, x.block < W.heap.size := by obtain ⟨m, hm⟩ := k0; exact DataW.trod_lt m _ _ _ hm
 obtain ⟨z0, w0⟩ : ∃ zs, IsRow .u8 W a0 len0 cap0 zs := by
  obtain ⟨fuel, hf⟩ := h0
  rcases open_ints Tryd.underlying22 Tryd.underlying5 (by kernel_rfl) hf with ⟨hcs, _⟩ | ⟨x, l, c, zs, hcs, _, hl, hm, hz, _, hcell, hwz⟩
  ·simp [Value.cells] at hcs
   obtain ⟨rfl, rfl, rfl⟩ := hcs
   exact ⟨[], .inl ⟨rfl, rfl, rfl, rfl⟩⟩
  ·simp [Value.cells] at hcs
   obtain ⟨rfl, rfl, rfl⟩ := hcs
   exact ⟨zs, .inr ⟨_, rfl, hl, hm, by simpa using hz, hcell, hwz⟩⟩
 have y0 : len0 * 1 ≤ 140737488351232 := Go.Proofs.YtlkheeegkifblaaDoorW.PrintWords.sized_ints hsz (j := 0) (t := 22) rfl rfl Tryd.underlying22 Tryd.underlying5 (by kernel_rfl) (by kernel_rfl) h0
 clear hA0 hval0 hsz0 hsz
 refine (P.laws_FnInDepth.walk PL.FnInDepth a0 len0 cap0 z0 W w0 y0 hG).mono fun e W' ⟨he, bel⟩ => ?_
 subst he
 exact ⟨_, rfl, _, _, _, _, _, _, hW', trodAll_mk1 (shut_bool Tryd.underlying4 _), (trodAll_cons_mk (Below.trod laidOut (by kernel_rfl) (of_decide_eq_true (by kernel_rfl)) k0 bel lt0) trodAll_mk0), P.tab_vars enc (hG.below bel), bel.frame _, fun h => by cases h⟩
theorem over : Rows.fnInDepthRow.holds Tryd.pinned (OpenSpec.ofChange Rows.fnInDepthSpec) :=
 OpenClaim.holds_of_wide 4 Tryd.f4 rfl rfl rfl rfl rfl rfl rfl ⟨rfl, rfl, rfl, rfl, rfl⟩ rfl rfl rfl rfl rfl (by kernel_rfl) Tryd.func4 (by kernel_rfl)
  (of_decide_eq_true (by kernel_rfl)) (by unfold Func.isWrapper; first | (rw [if_pos (by decide +kernel)]; kernel_rfl) | (rw [if_neg (by decide +kernel)]; exact ⟨rfl, rfl⟩))
  (fun os started H enc _ => lifted os started H enc)
theorem proved : Rows.FnInDepthSaid := over
#print axioms proved
end Go.Proofs.YtlkheeegkifblaaDoor.fnInDepth
namespace Go.Proofs.YtlkheeegkifblaaDoor
theorem fnInDepth_holds : Rows.FnInDepthSaid := fnInDepth.proved
end Go.Proofs.YtlkheeegkifblaaDoor
namespace Go.Proofs.YtlkheeegkifblaaDoor
open Go
theorem fnInDepthCard_holds : Rows.FnInDepthCardSaid :=
 Claim7.holds_tied_plain_at .later [] [.data] true (true, "eaacb49e37206468e585e4739738b6d4558eee5b1031375a36bb2efdb5ba73e0") true
  fnInDepth_holds (fun _ h => by cases h) (by kernel_rfl) (fun _ h => by cases h) fnInDepth_row_tie rfl ⟨rfl, rfl⟩ (by kernel_rfl) rfl
  (fun f fn hf hfn => by
   obtain rfl : f = 4 := Option.some.inj ((show Tryd.prog.funcNamed "loop.example/plashet/laws.FnInDepth" = some 4 by kernel_rfl).symm.trans hf) |>.symm
   obtain rfl : fn = Tryd.f4 := (Option.some.inj (Tryd.func4.symm.trans hfn)).symm
   exact ⟨by kernel_rfl, fun j t ht => by
    rw [Tryd.params4] at ht
    have hm : t ∈ [22] := by have := Array.mem_of_getElem? ht; simp at this; first | (subst this; simp; done) | (rcases this with h | h <;> simp [h]; done) | (rcases this with h | h | h <;> simp [h]; done)
    have hall : ([22].all fun u => !Tryd.prog.wantsStandIn u) = true := by kernel_rfl
    exact (show Tryd.prog.wantsStandIn t = false by simpa using List.all_eq_true.1 hall t hm)⟩)
  (by kernel_rfl)
#print axioms fnInDepthCard_holds
end Go.Proofs.YtlkheeegkifblaaDoor
