/- Joined by a program (wip/shake.py): the declarations that 'YtkopimbbgckcnaaDoorCardFnTextOnly' reaches. -/
import Derived.Test.YtkopimbbgckcnaaDoorZDg5
set_option linter.unusedVariables false
set_option linter.unusedSimpArgs false
set_option linter.unusedSectionVars false
namespace Go.Proofs.YtkopimbbgckcnaaDoor.P
open Go.RowKit Go.Proofs.YtkopimbbgckcnaaDoorW.PrintWords Go.Proofs.YtkopimbbgckcnaaDoorW.PrintLast
def laws_FnTextOnly.j0 : Nat → List (S43) → List (S43) → Bool → Int → Int → Int → Int → ByteArray → Option (Bool)
 | 0, _, _, _, _, _, _, _, _ => none
 | k + 1, x3, x5, x39, x716000, x716001, x716002, x716003, x716004 => if x39 = true then ((spec_OpDo.f k x3 x716000 x716001 x716002 x716003 x716004).bind fun t725 => ((laws_lpRows.f k x5 t725).bind fun t728 => (some t728))) else ((laws_lpAt.f k x3 x716001).bind fun t729 => (if t729 < 0 then ((laws_lpRows.f k x5 x3).bind fun t730 => (some t730)) else ((some (([] : List (S43)) : List (S43))).bind fun y731 => (if y731.length + x5.length < 4398046511104 then ((some (y731 ++ x5 : List (S43))).bind fun y734 => (if 0 ≤ t729 then (if t729 < (x3.length : Int) then (if t729 < (y734.length : Int) then (if t729 < (x5.length : Int) then (if ((rd_T43 x5 t729).f2).toList = x716004.toList then ((laws_lpRows.f k (y734.set (t729 : Int).toNat (⟨(rd_T43 y734 t729).f0, (rd_T43 y734 t729).f1, (rd_T43 x3 t729).f2⟩ : S43)) x3).bind fun t740 => (some t740)) else (none)) else (none)) else (none)) else (none)) else (none))) else (none)))))
def laws_FnTextOnly.f (k : Nat) (l0 : List Int) : Option (Bool) := if (l0.length : Int) > 1048576 then (some true) else ((spec_DrawOpDo.f k l0).bind fun bt707 => ((impl_OpDo.f k bt707.1 bt707.2.1 bt707.2.2.1 bt707.2.2.2.1 bt707.2.2.2.2.1 bt707.2.2.2.2.2).bind fun t716 => ((spec_OpDo.f k bt707.1 bt707.2.1 bt707.2.2.1 bt707.2.2.2.1 bt707.2.2.2.2.1 bt707.2.2.2.2.2).bind fun t719 => ((laws_lpRows.f k t716 t719).bind fun t722 => (if t722 = true then ((spec_TreeOk.f k bt707.1).bind fun t723 => (if t723 = true then ((spec_OpOk.f k bt707.2.1 bt707.2.2.1 bt707.2.2.2.1 bt707.2.2.2.2.1 bt707.2.2.2.2.2).bind fun t724 => (if t724 = true then (laws_FnTextOnly.j0 k bt707.1 t716 (bt707.2.1 != 2) bt707.2.1 bt707.2.2.1 bt707.2.2.2.1 bt707.2.2.2.2.1 bt707.2.2.2.2.2) else (laws_FnTextOnly.j0 k bt707.1 t716 true bt707.2.1 bt707.2.2.1 bt707.2.2.2.1 bt707.2.2.2.2.1 bt707.2.2.2.2.2))) else (laws_FnTextOnly.j0 k bt707.1 t716 true bt707.2.1 bt707.2.2.1 bt707.2.2.2.1 bt707.2.2.2.2.1 bt707.2.2.2.2.2))) else (none))))))
theorem laws_FnTextOnly.mono_l : ∀ k, (∀ y0 y1 y2 y3 y4 y5 y6 y7, LeO (laws_FnTextOnly.j0 k y0 y1 y2 y3 y4 y5 y6 y7) (laws_FnTextOnly.j0 (k + 1) y0 y1 y2 y3 y4 y5 y6 y7))
 | 0 => fun _ _ _ _ _ _ _ _ r h => by simp [laws_FnTextOnly.j0] at h
 | k + 1 => by
  have ih0 := laws_FnTextOnly.mono_l k
  ·intro y0 y1 y2 y3 y4 y5 y6 y7
   unfold laws_FnTextOnly.j0
   repeat' first
   | (with_reducible exact ih0 _ _ _ _ _ _ _ _)
   | (with_reducible exact impl_OpDo.mono _ _ _ _ _ _ _)
   | (with_reducible exact laws_lpAt.mono _ _ _)
   | (with_reducible exact laws_lpRows.mono _ _ _)
   | (with_reducible exact spec_DrawOpDo.mono _ _)
   | (with_reducible exact spec_OpDo.mono _ _ _ _ _ _ _)
   | (with_reducible exact spec_OpOk.mono _ _ _ _ _ _)
   | (with_reducible exact spec_TreeOk.mono _ _)
   | (with_reducible exact LeO.refl _)
   | (with_reducible exact LeO.none _)
   | (with_reducible refine LeO.ite ?_ ?_)
   | (with_reducible refine LeO.bind ?_ (fun _ => ?_))
   | exact ih0 _ _ _ _ _ _ _ _
   | exact impl_OpDo.mono _ _ _ _ _ _ _
   | exact laws_lpAt.mono _ _ _
   | exact laws_lpRows.mono _ _ _
   | exact spec_DrawOpDo.mono _ _
   | exact spec_OpDo.mono _ _ _ _ _ _ _
   | exact spec_OpOk.mono _ _ _ _ _ _
   | exact spec_TreeOk.mono _ _
   | exact LeO.none _
   | refine LeO.ite ?_ ?_
   | refine LeO.bind ?_ (fun _ => ?_)
theorem laws_FnTextOnly.mono : ∀ a0 k, LeO (laws_FnTextOnly.f k a0) (laws_FnTextOnly.f (k + 1) a0) := by
 intro a0 k
 have ih0 := laws_FnTextOnly.mono_l k
 unfold laws_FnTextOnly.f
 repeat' first
   | (with_reducible exact ih0 _ _ _ _ _ _ _ _)
   | (with_reducible exact impl_OpDo.mono _ _ _ _ _ _ _)
   | (with_reducible exact laws_lpAt.mono _ _ _)
   | (with_reducible exact laws_lpRows.mono _ _ _)
   | (with_reducible exact spec_DrawOpDo.mono _ _)
   | (with_reducible exact spec_OpDo.mono _ _ _ _ _ _ _)
   | (with_reducible exact spec_OpOk.mono _ _ _ _ _ _)
   | (with_reducible exact spec_TreeOk.mono _ _)
   | (with_reducible exact LeO.refl _)
   | (with_reducible exact LeO.none _)
   | (with_reducible refine LeO.ite ?_ ?_)
   | (with_reducible refine LeO.bind ?_ (fun _ => ?_))
   | exact ih0 _ _ _ _ _ _ _ _
   | exact impl_OpDo.mono _ _ _ _ _ _ _
   | exact laws_lpAt.mono _ _ _
   | exact laws_lpRows.mono _ _ _
   | exact spec_DrawOpDo.mono _ _
   | exact spec_OpDo.mono _ _ _ _ _ _ _
   | exact spec_OpOk.mono _ _ _ _ _ _
   | exact spec_TreeOk.mono _ _
   | exact LeO.none _
   | refine LeO.ite ?_ ?_
   | refine LeO.bind ?_ (fun _ => ?_)
set_option maxHeartbeats 8000000 in
set_option maxRecDepth 100000 in
theorem laws_FnTextOnly.calls (k : Nat) (A0 : Option Addr) (c0 : Nat) (l0 : List Int) (r : Bool) (w : World) (hr0 : Kd.C (Kd.int .u8) w A0 l0.length l0) (hc0 : l0.length ≤ c0) (h : laws_FnTextOnly.f k l0 = some r) (hG : Glob w) :
  Calls Tryd.prog 10 #[.slice A0 l0.length c0] w fun e w' => e = .returned (.bool r) ∧ Below w.heap.size w w' := by
 have hu30 := Tryd.underlying30
 have HR0 := Aside0.mk hr0
 have HC0 := Aside0.mk hc0
 clear hr0 hc0
 have HB := Aside0.mk (Below.refl w.heap.size w)
 have HG := Aside0.mk hG
 clear hG
 unfold laws_FnTextOnly.f at h
 have H := h
 clear h
 by_cases c2 : (l0.length : Int) > 1048576
 ·rw [if_pos c2] at H
  have c2b0 : decide (1048576 < (l0.length : Int)) = true := decide_eq_true c2
  have c2b1 : decide (1048576 < l0.length) = true := decide_eq_true (by omega)
  clear c2
  obtain rfl := Option.some.inj H
  go_enter Tryd.func10, Tryd.ntmps10
  go_wp2
  repeat (go_quiet (fail); try go_wp2)
  go_ret
  exact ⟨fi_, bel_⟩
 ·rw [if_neg c2] at H
  have c2b0 : decide (1048576 < (l0.length : Int)) = false := decide_eq_false c2
  have c2b1 : decide (1048576 < l0.length) = false := decide_eq_false (by omega)
  clear c2
  replace H := Option.bind_eq_some_iff.mp H
  obtain ⟨⟨t707, t710, t711, t712, t713, t714⟩, A30, H⟩ := H
  try dsimp only at H
  have A3 := Aside0.mk A30
  clear A30
  replace H := Option.bind_eq_some_iff.mp H
  obtain ⟨t716, A40, H⟩ := H
  try dsimp only at H
  have A4 := Aside0.mk A40
  clear A40
  have HC5 := Aside0.mk H
  clear H
  go_enter Tryd.func10, Tryd.ntmps10
  go_upto_region 5 with (first | (go_at_call 24; (with_reducible refine (spec_DrawOpDo.calls k _ _ l0 t707 t710 t711 t712 t713 t714 _ ?side1 ?side2 A3.out).mono ?_); (case side1 => exact cx_ HR0.out); (case side2 => exact HC0.out); rintro e w6 ⟨v708, rfl, ho0, hb⟩; have HO709 := Aside0.mk (Kd.Q_lower ho0 (below_size (bel_))); replace HB := Aside0.mk (below_step (bel_) hb); (try clear hb ho0)) | ((with_reducible refine gate_dst (N := 4) rfl ?_); refine bx_ 4 (#[.int .i64 0, .int .i64 0, .int .i64 0, .int .i64 0, .string (⟨#[]⟩ : ByteArray)]) 30 ?_; intro gb715 hg w7 hbox hb; have n0_ := Aside0.mk (Kd.Q_below (qp_ HO709.out) hb); have n1_ := Aside0.mk (below_step (bel_) hb); have n2_ := Aside0.mk (hbox); have n3_ := Aside0.mk ((by rw [hg]; exact (below_size (bel_)) : w.heap.size ≤ gb715)); have n4_ := Aside0.mk ((by rw [hg]; exact (below_size (bel_)) : w.heap.size ≤ gb715)); clear HO709; clear HB; have HO709 := n0_; have HB := n1_; have BK715 := n2_; have GW715 := n3_; have GE715 := n4_; clear n0_ n1_ n2_ n3_ n4_; clear hb hbox hg; have hcz8_0 := cz_ BK715.out 0 (.int .i64 0); have hcz8_1 := cz_ BK715.out 1 (.int .i64 0); have hcz8_2 := cz_ BK715.out 2 (.int .i64 0); have hcz8_3 := cz_ BK715.out 3 (.int .i64 0); have hcz8_4 := cz_ BK715.out 4 (.string (⟨#[]⟩ : ByteArray)); have hfz8_0 := blk_frozen BK715.out 0; have hfz8_1 := blk_frozen BK715.out 1; have hfz8_2 := blk_frozen BK715.out 2; have hfz8_3 := blk_frozen BK715.out 3; have hfz8_4 := blk_frozen BK715.out 4; obtain ⟨Ao9, co9, eo9, _⟩ := Kd.Q_slice HO709.out; subst eo9) | (go_at_call 20; (with_reducible refine (impl_OpDo.calls k _ _ t707 t710 t711 t712 t713 t714 t716 _ ?side1 ?side2 A4.out ?side3).mono ?_); (case side1 => refine (Kd.Q_reads' (e := 43) (base := w.heap.size) (ok := fun k_ => True) (n := t707.length) (c := co9) ?_).2.2; exact (by (with_reducible repeat (first | apply Kd.Q_alloc | apply Kd.Q_drewN | apply Kd.Q_drew)); exact (Kd.Q_mono (Kd.Q_far (p := ⟨gb715, 4, none⟩) (Kd.Q_far (p := ⟨gb715, 3, none⟩) (Kd.Q_far (p := ⟨gb715, 2, none⟩) (Kd.Q_far (p := ⟨gb715, 1, none⟩) (Kd.Q_far (p := ⟨gb715, 0, none⟩) (Kd.Q_types HO709.out BK715.out (by decide)) (fun _ hk => hk.2) (.int .i64 t710)) (fun _ hk => hk.2) (.int .i64 t711)) (fun _ hk => hk.2) (.int .i64 t712)) (fun _ hk => hk.2) (.int .i64 t713)) (fun _ hk => hk.2) (.string t714)) (fun _ h_ => h_.1)))); (case side2 => exact (Kd.Q_reads' HO709.out).2.1); (case side3 => exact Glob.below HG.out (bel_)); rintro e w10 ⟨v717, rfl, ho0, hb⟩; have n0_ := Aside0.mk (Kd.Q_elder' (by (with_reducible repeat (first | apply Kd.Q_alloc | apply Kd.Q_drewN | apply Kd.Q_drew)); exact (Kd.Q_mono (Kd.Q_far (p := ⟨gb715, 4, none⟩) (Kd.Q_far (p := ⟨gb715, 3, none⟩) (Kd.Q_far (p := ⟨gb715, 2, none⟩) (Kd.Q_far (p := ⟨gb715, 1, none⟩) (Kd.Q_far (p := ⟨gb715, 0, none⟩) (Kd.Q_types HO709.out BK715.out (by decide)) (fun _ hk => hk.2) (.int .i64 t710)) (fun _ hk => hk.2) (.int .i64 t711)) (fun _ hk => hk.2) (.int .i64 t712)) (fun _ hk => hk.2) (.int .i64 t713)) (fun _ hk => hk.2) (.string t714)) (fun _ h_ => h_.1))) (Kd.R_base ho0) hb); have n1_ := Aside0.mk (Kd.R_lower (Kd.R_new' ho0 (Kd.Q_lt (by (with_reducible repeat (first | apply Kd.Q_alloc | apply Kd.Q_drewN | apply Kd.Q_drew)); exact (Kd.Q_mono (Kd.Q_far (p := ⟨gb715, 4, none⟩) (Kd.Q_far (p := ⟨gb715, 3, none⟩) (Kd.Q_far (p := ⟨gb715, 2, none⟩) (Kd.Q_far (p := ⟨gb715, 1, none⟩) (Kd.Q_far (p := ⟨gb715, 0, none⟩) (Kd.Q_types HO709.out BK715.out (by decide)) (fun _ hk => hk.2) (.int .i64 t710)) (fun _ hk => hk.2) (.int .i64 t711)) (fun _ hk => hk.2) (.int .i64 t712)) (fun _ hk => hk.2) (.int .i64 t713)) (fun _ hk => hk.2) (.string t714)) (fun _ h_ => h_.1))))) (below_size (bel_))); have n2_ := Aside0.mk (blk_below (g := gb715) (o := .cells #[.int .i64 t710, .int .i64 t711, .int .i64 t712, .int .i64 t713, .string t714] 30 (0, 0)) (by (with_reducible repeat (first | refine blk_drewN ?_ _ | refine blk_drew ?_ | refine blk_alloc ?_ _)); refine blk_put (cs := #[.int .i64 t710, .int .i64 t711, .int .i64 t712, .int .i64 t713, .string (⟨#[]⟩ : ByteArray)]) ?_ 4 _ rfl; (with_reducible repeat (first | refine blk_drewN ?_ _ | refine blk_drew ?_ | refine blk_alloc ?_ _)); refine blk_put (cs := #[.int .i64 t710, .int .i64 t711, .int .i64 t712, .int .i64 0, .string (⟨#[]⟩ : ByteArray)]) ?_ 3 _ rfl; (with_reducible repeat (first | refine blk_drewN ?_ _ | refine blk_drew ?_ | refine blk_alloc ?_ _)); refine blk_put (cs := #[.int .i64 t710, .int .i64 t711, .int .i64 0, .int .i64 0, .string (⟨#[]⟩ : ByteArray)]) ?_ 2 _ rfl; (with_reducible repeat (first | refine blk_drewN ?_ _ | refine blk_drew ?_ | refine blk_alloc ?_ _)); refine blk_put (cs := #[.int .i64 t710, .int .i64 0, .int .i64 0, .int .i64 0, .string (⟨#[]⟩ : ByteArray)]) ?_ 1 _ rfl; (with_reducible repeat (first | refine blk_drewN ?_ _ | refine blk_drew ?_ | refine blk_alloc ?_ _)); refine blk_put (cs := #[.int .i64 0, .int .i64 0, .int .i64 0, .int .i64 0, .string (⟨#[]⟩ : ByteArray)]) ?_ 0 _ rfl; (with_reducible repeat (first | refine blk_drewN ?_ _ | refine blk_drew ?_ | refine blk_alloc ?_ _)); exact BK715.out) hb); have n3_ := Aside0.mk (below_step (bel_) hb); clear HO709; clear BK715; clear HB; have HO709 := n0_; have HO718 := n1_; have BK715 := n2_; have HB := n3_; clear n0_ n1_ n2_ n3_; (try clear hb ho0)))
  repeat (go_quiet (first | (go_at_call 24; (with_reducible refine (spec_DrawOpDo.calls k _ _ l0 t707 t710 t711 t712 t713 t714 _ ?side1 ?side2 A3.out).mono ?_); (case side1 => exact cx_ HR0.out); (case side2 => exact HC0.out); rintro e w6 ⟨v708, rfl, ho0, hb⟩; have HO709 := Aside0.mk (Kd.Q_lower ho0 (below_size (bel_))); replace HB := Aside0.mk (below_step (bel_) hb); (try clear hb ho0)) | ((with_reducible refine gate_dst (N := 4) rfl ?_); refine bx_ 4 (#[.int .i64 0, .int .i64 0, .int .i64 0, .int .i64 0, .string (⟨#[]⟩ : ByteArray)]) 30 ?_; intro gb715 hg w7 hbox hb; have n0_ := Aside0.mk (Kd.Q_below (qp_ HO709.out) hb); have n1_ := Aside0.mk (below_step (bel_) hb); have n2_ := Aside0.mk (hbox); have n3_ := Aside0.mk ((by rw [hg]; exact (below_size (bel_)) : w.heap.size ≤ gb715)); have n4_ := Aside0.mk ((by rw [hg]; exact (below_size (bel_)) : w.heap.size ≤ gb715)); clear HO709; clear HB; have HO709 := n0_; have HB := n1_; have BK715 := n2_; have GW715 := n3_; have GE715 := n4_; clear n0_ n1_ n2_ n3_ n4_; clear hb hbox hg; have hcz8_0 := cz_ BK715.out 0 (.int .i64 0); have hcz8_1 := cz_ BK715.out 1 (.int .i64 0); have hcz8_2 := cz_ BK715.out 2 (.int .i64 0); have hcz8_3 := cz_ BK715.out 3 (.int .i64 0); have hcz8_4 := cz_ BK715.out 4 (.string (⟨#[]⟩ : ByteArray)); have hfz8_0 := blk_frozen BK715.out 0; have hfz8_1 := blk_frozen BK715.out 1; have hfz8_2 := blk_frozen BK715.out 2; have hfz8_3 := blk_frozen BK715.out 3; have hfz8_4 := blk_frozen BK715.out 4; obtain ⟨Ao9, co9, eo9, _⟩ := Kd.Q_slice HO709.out; subst eo9) | (go_at_call 20; (with_reducible refine (impl_OpDo.calls k _ _ t707 t710 t711 t712 t713 t714 t716 _ ?side1 ?side2 A4.out ?side3).mono ?_); (case side1 => refine (Kd.Q_reads' (e := 43) (base := w.heap.size) (ok := fun k_ => True) (n := t707.length) (c := co9) ?_).2.2; exact (by (with_reducible repeat (first | apply Kd.Q_alloc | apply Kd.Q_drewN | apply Kd.Q_drew)); exact (Kd.Q_mono (Kd.Q_far (p := ⟨gb715, 4, none⟩) (Kd.Q_far (p := ⟨gb715, 3, none⟩) (Kd.Q_far (p := ⟨gb715, 2, none⟩) (Kd.Q_far (p := ⟨gb715, 1, none⟩) (Kd.Q_far (p := ⟨gb715, 0, none⟩) (Kd.Q_types HO709.out BK715.out (by decide)) (fun _ hk => hk.2) (.int .i64 t710)) (fun _ hk => hk.2) (.int .i64 t711)) (fun _ hk => hk.2) (.int .i64 t712)) (fun _ hk => hk.2) (.int .i64 t713)) (fun _ hk => hk.2) (.string t714)) (fun _ h_ => h_.1)))); (case side2 => exact (Kd.Q_reads' HO709.out).2.1); (case side3 => exact Glob.below HG.out (bel_)); rintro e w10 ⟨v717, rfl, ho0, hb⟩; have n0_ := Aside0.mk (Kd.Q_elder' (by (with_reducible repeat (first | apply Kd.Q_alloc | apply Kd.Q_drewN | apply Kd.Q_drew)); exact (Kd.Q_mono (Kd.Q_far (p := ⟨gb715, 4, none⟩) (Kd.Q_far (p := ⟨gb715, 3, none⟩) (Kd.Q_far (p := ⟨gb715, 2, none⟩) (Kd.Q_far (p := ⟨gb715, 1, none⟩) (Kd.Q_far (p := ⟨gb715, 0, none⟩) (Kd.Q_types HO709.out BK715.out (by decide)) (fun _ hk => hk.2) (.int .i64 t710)) (fun _ hk => hk.2) (.int .i64 t711)) (fun _ hk => hk.2) (.int .i64 t712)) (fun _ hk => hk.2) (.int .i64 t713)) (fun _ hk => hk.2) (.string t714)) (fun _ h_ => h_.1))) (Kd.R_base ho0) hb); have n1_ := Aside0.mk (Kd.R_lower (Kd.R_new' ho0 (Kd.Q_lt (by (with_reducible repeat (first | apply Kd.Q_alloc | apply Kd.Q_drewN | apply Kd.Q_drew)); exact (Kd.Q_mono (Kd.Q_far (p := ⟨gb715, 4, none⟩) (Kd.Q_far (p := ⟨gb715, 3, none⟩) (Kd.Q_far (p := ⟨gb715, 2, none⟩) (Kd.Q_far (p := ⟨gb715, 1, none⟩) (Kd.Q_far (p := ⟨gb715, 0, none⟩) (Kd.Q_types HO709.out BK715.out (by decide)) (fun _ hk => hk.2) (.int .i64 t710)) (fun _ hk => hk.2) (.int .i64 t711)) (fun _ hk => hk.2) (.int .i64 t712)) (fun _ hk => hk.2) (.int .i64 t713)) (fun _ hk => hk.2) (.string t714)) (fun _ h_ => h_.1))))) (below_size (bel_))); have n2_ := Aside0.mk (blk_below (g := gb715) (o := .cells #[.int .i64 t710, .int .i64 t711, .int .i64 t712, .int .i64 t713, .string t714] 30 (0, 0)) (by (with_reducible repeat (first | refine blk_drewN ?_ _ | refine blk_drew ?_ | refine blk_alloc ?_ _)); refine blk_put (cs := #[.int .i64 t710, .int .i64 t711, .int .i64 t712, .int .i64 t713, .string (⟨#[]⟩ : ByteArray)]) ?_ 4 _ rfl; (with_reducible repeat (first | refine blk_drewN ?_ _ | refine blk_drew ?_ | refine blk_alloc ?_ _)); refine blk_put (cs := #[.int .i64 t710, .int .i64 t711, .int .i64 t712, .int .i64 0, .string (⟨#[]⟩ : ByteArray)]) ?_ 3 _ rfl; (with_reducible repeat (first | refine blk_drewN ?_ _ | refine blk_drew ?_ | refine blk_alloc ?_ _)); refine blk_put (cs := #[.int .i64 t710, .int .i64 t711, .int .i64 0, .int .i64 0, .string (⟨#[]⟩ : ByteArray)]) ?_ 2 _ rfl; (with_reducible repeat (first | refine blk_drewN ?_ _ | refine blk_drew ?_ | refine blk_alloc ?_ _)); refine blk_put (cs := #[.int .i64 t710, .int .i64 0, .int .i64 0, .int .i64 0, .string (⟨#[]⟩ : ByteArray)]) ?_ 1 _ rfl; (with_reducible repeat (first | refine blk_drewN ?_ _ | refine blk_drew ?_ | refine blk_alloc ?_ _)); refine blk_put (cs := #[.int .i64 0, .int .i64 0, .int .i64 0, .int .i64 0, .string (⟨#[]⟩ : ByteArray)]) ?_ 0 _ rfl; (with_reducible repeat (first | refine blk_drewN ?_ _ | refine blk_drew ?_ | refine blk_alloc ?_ _)); exact BK715.out) hb); have n3_ := Aside0.mk (below_step (bel_) hb); clear HO709; clear BK715; clear HB; have HO709 := n0_; have HO718 := n1_; have BK715 := n2_; have HB := n3_; clear n0_ n1_ n2_ n3_; (try clear hb ho0))); go_upto_region 5 with (first | (go_at_call 24; (with_reducible refine (spec_DrawOpDo.calls k _ _ l0 t707 t710 t711 t712 t713 t714 _ ?side1 ?side2 A3.out).mono ?_); (case side1 => exact cx_ HR0.out); (case side2 => exact HC0.out); rintro e w6 ⟨v708, rfl, ho0, hb⟩; have HO709 := Aside0.mk (Kd.Q_lower ho0 (below_size (bel_))); replace HB := Aside0.mk (below_step (bel_) hb); (try clear hb ho0)) | ((with_reducible refine gate_dst (N := 4) rfl ?_); refine bx_ 4 (#[.int .i64 0, .int .i64 0, .int .i64 0, .int .i64 0, .string (⟨#[]⟩ : ByteArray)]) 30 ?_; intro gb715 hg w7 hbox hb; have n0_ := Aside0.mk (Kd.Q_below (qp_ HO709.out) hb); have n1_ := Aside0.mk (below_step (bel_) hb); have n2_ := Aside0.mk (hbox); have n3_ := Aside0.mk ((by rw [hg]; exact (below_size (bel_)) : w.heap.size ≤ gb715)); have n4_ := Aside0.mk ((by rw [hg]; exact (below_size (bel_)) : w.heap.size ≤ gb715)); clear HO709; clear HB; have HO709 := n0_; have HB := n1_; have BK715 := n2_; have GW715 := n3_; have GE715 := n4_; clear n0_ n1_ n2_ n3_ n4_; clear hb hbox hg; have hcz8_0 := cz_ BK715.out 0 (.int .i64 0); have hcz8_1 := cz_ BK715.out 1 (.int .i64 0); have hcz8_2 := cz_ BK715.out 2 (.int .i64 0); have hcz8_3 := cz_ BK715.out 3 (.int .i64 0); have hcz8_4 := cz_ BK715.out 4 (.string (⟨#[]⟩ : ByteArray)); have hfz8_0 := blk_frozen BK715.out 0; have hfz8_1 := blk_frozen BK715.out 1; have hfz8_2 := blk_frozen BK715.out 2; have hfz8_3 := blk_frozen BK715.out 3; have hfz8_4 := blk_frozen BK715.out 4; obtain ⟨Ao9, co9, eo9, _⟩ := Kd.Q_slice HO709.out; subst eo9) | (go_at_call 20; (with_reducible refine (impl_OpDo.calls k _ _ t707 t710 t711 t712 t713 t714 t716 _ ?side1 ?side2 A4.out ?side3).mono ?_); (case side1 => refine (Kd.Q_reads' (e := 43) (base := w.heap.size) (ok := fun k_ => True) (n := t707.length) (c := co9) ?_).2.2; exact (by (with_reducible repeat (first | apply Kd.Q_alloc | apply Kd.Q_drewN | apply Kd.Q_drew)); exact (Kd.Q_mono (Kd.Q_far (p := ⟨gb715, 4, none⟩) (Kd.Q_far (p := ⟨gb715, 3, none⟩) (Kd.Q_far (p := ⟨gb715, 2, none⟩) (Kd.Q_far (p := ⟨gb715, 1, none⟩) (Kd.Q_far (p := ⟨gb715, 0, none⟩) (Kd.Q_types HO709.out BK715.out (by decide)) (fun _ hk => hk.2) (.int .i64 t710)) (fun _ hk => hk.2) (.int .i64 t711)) (fun _ hk => hk.2) (.int .i64 t712)) (fun _ hk => hk.2) (.int .i64 t713)) (fun _ hk => hk.2) (.string t714)) (fun _ h_ => h_.1)))); (case side2 => exact (Kd.Q_reads' HO709.out).2.1); (case side3 => exact Glob.below HG.out (bel_)); rintro e w10 ⟨v717, rfl, ho0, hb⟩; have n0_ := Aside0.mk (Kd.Q_elder' (by (with_reducible repeat (first | apply Kd.Q_alloc | apply Kd.Q_drewN | apply Kd.Q_drew)); exact (Kd.Q_mono (Kd.Q_far (p := ⟨gb715, 4, none⟩) (Kd.Q_far (p := ⟨gb715, 3, none⟩) (Kd.Q_far (p := ⟨gb715, 2, none⟩) (Kd.Q_far (p := ⟨gb715, 1, none⟩) (Kd.Q_far (p := ⟨gb715, 0, none⟩) (Kd.Q_types HO709.out BK715.out (by decide)) (fun _ hk => hk.2) (.int .i64 t710)) (fun _ hk => hk.2) (.int .i64 t711)) (fun _ hk => hk.2) (.int .i64 t712)) (fun _ hk => hk.2) (.int .i64 t713)) (fun _ hk => hk.2) (.string t714)) (fun _ h_ => h_.1))) (Kd.R_base ho0) hb); have n1_ := Aside0.mk (Kd.R_lower (Kd.R_new' ho0 (Kd.Q_lt (by (with_reducible repeat (first | apply Kd.Q_alloc | apply Kd.Q_drewN | apply Kd.Q_drew)); exact (Kd.Q_mono (Kd.Q_far (p := ⟨gb715, 4, none⟩) (Kd.Q_far (p := ⟨gb715, 3, none⟩) (Kd.Q_far (p := ⟨gb715, 2, none⟩) (Kd.Q_far (p := ⟨gb715, 1, none⟩) (Kd.Q_far (p := ⟨gb715, 0, none⟩) (Kd.Q_types HO709.out BK715.out (by decide)) (fun _ hk => hk.2) (.int .i64 t710)) (fun _ hk => hk.2) (.int .i64 t711)) (fun _ hk => hk.2) (.int .i64 t712)) (fun _ hk => hk.2) (.int .i64 t713)) (fun _ hk => hk.2) (.string t714)) (fun _ h_ => h_.1))))) (below_size (bel_))); have n2_ := Aside0.mk (blk_below (g := gb715) (o := .cells #[.int .i64 t710, .int .i64 t711, .int .i64 t712, .int .i64 t713, .string t714] 30 (0, 0)) (by (with_reducible repeat (first | refine blk_drewN ?_ _ | refine blk_drew ?_ | refine blk_alloc ?_ _)); refine blk_put (cs := #[.int .i64 t710, .int .i64 t711, .int .i64 t712, .int .i64 t713, .string (⟨#[]⟩ : ByteArray)]) ?_ 4 _ rfl; (with_reducible repeat (first | refine blk_drewN ?_ _ | refine blk_drew ?_ | refine blk_alloc ?_ _)); refine blk_put (cs := #[.int .i64 t710, .int .i64 t711, .int .i64 t712, .int .i64 0, .string (⟨#[]⟩ : ByteArray)]) ?_ 3 _ rfl; (with_reducible repeat (first | refine blk_drewN ?_ _ | refine blk_drew ?_ | refine blk_alloc ?_ _)); refine blk_put (cs := #[.int .i64 t710, .int .i64 t711, .int .i64 0, .int .i64 0, .string (⟨#[]⟩ : ByteArray)]) ?_ 2 _ rfl; (with_reducible repeat (first | refine blk_drewN ?_ _ | refine blk_drew ?_ | refine blk_alloc ?_ _)); refine blk_put (cs := #[.int .i64 t710, .int .i64 0, .int .i64 0, .int .i64 0, .string (⟨#[]⟩ : ByteArray)]) ?_ 1 _ rfl; (with_reducible repeat (first | refine blk_drewN ?_ _ | refine blk_drew ?_ | refine blk_alloc ?_ _)); refine blk_put (cs := #[.int .i64 0, .int .i64 0, .int .i64 0, .int .i64 0, .string (⟨#[]⟩ : ByteArray)]) ?_ 0 _ rfl; (with_reducible repeat (first | refine blk_drewN ?_ _ | refine blk_drew ?_ | refine blk_alloc ?_ _)); exact BK715.out) hb); have n3_ := Aside0.mk (below_step (bel_) hb); clear HO709; clear BK715; clear HB; have HO709 := n0_; have HO718 := n1_; have BK715 := n2_; have HB := n3_; clear n0_ n1_ n2_ n3_; (try clear hb ho0))))
  (try simp only [Act.put, List.setIfInBounds_toArray, List.set_cons_zero, List.set_cons_succ])
  go_cut [39] (fun v39 wc => ∃ (kq : Nat) (x39_4 : Bool), v39 = .bool x39_4 ∧ Aside0 (laws_FnTextOnly.j0 kq t707 t716 x39_4 t710 t711 t712 t713 t714 = some r) ∧ Aside0 (kq ≤ k) ∧ Aside0 (Kd.Q k43 43 wc w.heap.size (fun k_ => some k_ ≠ (v717 : Value).ownBlock) (.slice Ao9 t707.length co9) t707) ∧ Aside0 (Kd.R k43 43 wc w.heap.size (fun k_ => some k_ ≠ ((.slice Ao9 t707.length co9) : Value).ownBlock) v717 t716) ∧ Aside0 (wc.heap[gb715]? = some (.cells #[.int .i64 t710, .int .i64 t711, .int .i64 t712, .int .i64 t713, .string t714] 30 (0, 0))) ∧ Aside0 (Below w.heap.size w wc))
  case first =>
   have H := HC5.out
   clear HC5
   replace H := Option.bind_eq_some_iff.mp H
   obtain ⟨t719, A110, H⟩ := H
   try dsimp only at H
   have A11 := Aside0.mk A110
   clear A110
   replace H := Option.bind_eq_some_iff.mp H
   obtain ⟨t722, A120, H⟩ := H
   try dsimp only at H
   have A12 := Aside0.mk A120
   clear A120
   by_cases c13 : t722 = true
   ·subst c13
    have H1 : ((spec_TreeOk.f k t707).bind fun t723 => (if t723 = true then ((spec_OpOk.f k t710 t711 t712 t713 t714).bind fun t724 => (if t724 = true then (laws_FnTextOnly.j0 k t707 t716 (t710 != 2) t710 t711 t712 t713 t714) else (laws_FnTextOnly.j0 k t707 t716 true t710 t711 t712 t713 t714))) else (laws_FnTextOnly.j0 k t707 t716 true t710 t711 t712 t713 t714))) = some r := by rw [if_pos rfl] at H; exact H
    clear H
    have H := H1
    clear H1
    replace H := Option.bind_eq_some_iff.mp H
    obtain ⟨t723, A140, H⟩ := H
    try dsimp only at H
    have A14 := Aside0.mk A140
    clear A140
    by_cases c15 : t723 = true
    ·subst c15
     have H1 : ((spec_OpOk.f k t710 t711 t712 t713 t714).bind fun t724 => (if t724 = true then (laws_FnTextOnly.j0 k t707 t716 (t710 != 2) t710 t711 t712 t713 t714) else (laws_FnTextOnly.j0 k t707 t716 true t710 t711 t712 t713 t714))) = some r := by rw [if_pos rfl] at H; exact H
     clear H
     have H := H1
     clear H1
     replace H := Option.bind_eq_some_iff.mp H
     obtain ⟨t724, A160, H⟩ := H
     try dsimp only at H
     have A16 := Aside0.mk A160
     clear A160
     by_cases c17 : t724 = true
     ·subst c17
      have H1 : (laws_FnTextOnly.j0 k t707 t716 (t710 != 2) t710 t711 t712 t713 t714) = some r := by rw [if_pos rfl] at H; exact H
      clear H
      have H := H1
      clear H1
      have H' := Aside0.mk H
      clear H
      have hcz18_0 := cz_ BK715.out 0 (.int .i64 t710)
      have hcz18_1 := cz_ BK715.out 1 (.int .i64 t711)
      have hcz18_2 := cz_ BK715.out 2 (.int .i64 t712)
      have hcz18_3 := cz_ BK715.out 3 (.int .i64 t713)
      have hcz18_4 := cz_ BK715.out 4 (.string t714)
      have hfz18_0 := blk_frozen BK715.out 0
      have hfz18_1 := blk_frozen BK715.out 1
      have hfz18_2 := blk_frozen BK715.out 2
      have hfz18_3 := blk_frozen BK715.out 3
      have hfz18_4 := blk_frozen BK715.out 4
      go_wp2_with (first | (go_at_call 17; (with_reducible refine (spec_OpDo.calls k _ _ t707 t710 t711 t712 t713 t714 t719 _ ?side1 ?side2 A11.out).mono ?_); (case side1 => exact cx_ (Kd.Q_reads' HO709.out).2.2); (case side2 => exact (Kd.Q_reads' HO709.out).2.1); rintro e w19 ⟨v720, rfl, ho0, hb⟩; have HO721 := Aside0.mk (Kd.R_lower (Kd.R_new' (Kd.R_new' ho0 (Kd.Q_lt (qp_ HO709.out))) (Kd.R_lt (rp_ HO718.out))) (below_size (bel_))); replace HO709 := Aside0.mk (Kd.Q_elder' (qp_ HO709.out) (Kd.R_base ho0) hb); replace HO718 := Aside0.mk (Kd.R_elder' (rp_ HO718.out) (Kd.R_base ho0) hb); replace HB := Aside0.mk (below_step (bel_) hb); replace BK715 := Aside0.mk (bb_ BK715.out hb); (try clear hb ho0); obtain ⟨Ao20, co20, eo20⟩ := Kd.R_slice HO718.out; subst eo20; obtain ⟨Ao21, co21, eo21⟩ := Kd.R_slice HO721.out; subst eo21) | (go_at_call 25; (with_reducible refine (laws_lpRows.calls k _ _ t716 _ _ t719 true _ ?side1 ?side2 ?side3 ?side4 A12.out).mono ?_); (case side1 => exact cx_ (Kd.R_reads' HO718.out).2.2); (case side2 => exact (Kd.R_reads' HO718.out).2.1); (case side3 => exact cx_ (Kd.R_reads' HO721.out).2.2); (case side4 => exact (Kd.R_reads' HO721.out).2.1); rintro e w' ⟨rfl, ⟨nd, rfl⟩⟩; (try first | exact ⟨rfl, _, World.drewN_drewN _ _ _⟩ | exact ⟨rfl, _, Eq.trans (World.drewN_drewN _ _ _) (congrArg (World.drewN _) (Nat.add_assoc _ _ _))⟩)) | (go_at_call 26; (with_reducible refine (spec_TreeOk.calls k _ _ t707 true _ ?side1 ?side2 A14.out).mono ?_); (case side1 => exact cx_ (Kd.Q_reads' HO709.out).2.2); (case side2 => exact (Kd.Q_reads' HO709.out).2.1); rintro e w22 ⟨rfl, hb⟩; replace HO709 := Aside0.mk (Kd.Q_below (qp_ HO709.out) hb); replace HO718 := Aside0.mk (Kd.R_below (rp_ HO718.out) hb); replace HO721 := Aside0.mk (Kd.R_below (rp_ HO721.out) hb); replace HB := Aside0.mk (below_step (bel_) hb); replace BK715 := Aside0.mk (bb_ BK715.out hb); (try clear hb); have hcz23_0 := cz_ BK715.out 0 (.int .i64 t710); have hcz23_1 := cz_ BK715.out 1 (.int .i64 t711); have hcz23_2 := cz_ BK715.out 2 (.int .i64 t712); have hcz23_3 := cz_ BK715.out 3 (.int .i64 t713); have hcz23_4 := cz_ BK715.out 4 (.string t714); have hfz23_0 := blk_frozen BK715.out 0; have hfz23_1 := blk_frozen BK715.out 1; have hfz23_2 := blk_frozen BK715.out 2; have hfz23_3 := blk_frozen BK715.out 3; have hfz23_4 := blk_frozen BK715.out 4) | (go_at_call 27; (with_reducible refine (spec_OpOk.calls k t710 t711 t712 t713 t714 true _ A16.out).mono ?_); rintro e w24 ⟨rfl, hb⟩; replace HO709 := Aside0.mk (Kd.Q_below (qp_ HO709.out) hb); replace HO718 := Aside0.mk (Kd.R_below (rp_ HO718.out) hb); replace HO721 := Aside0.mk (Kd.R_below (rp_ HO721.out) hb); replace HB := Aside0.mk (below_step (bel_) hb); replace BK715 := Aside0.mk (bb_ BK715.out hb); (try clear hb); have hcz25_0 := cz_ BK715.out 0 (.int .i64 t710); have hcz25_1 := cz_ BK715.out 1 (.int .i64 t711); have hcz25_2 := cz_ BK715.out 2 (.int .i64 t712); have hcz25_3 := cz_ BK715.out 3 (.int .i64 t713); have hcz25_4 := cz_ BK715.out 4 (.string t714); have hfz25_0 := blk_frozen BK715.out 0; have hfz25_1 := blk_frozen BK715.out 1; have hfz25_2 := blk_frozen BK715.out 2; have hfz25_3 := blk_frozen BK715.out 3; have hfz25_4 := blk_frozen BK715.out 4))
      repeat (go_quiet (first | (go_at_call 17; (with_reducible refine (spec_OpDo.calls k _ _ t707 t710 t711 t712 t713 t714 t719 _ ?side1 ?side2 A11.out).mono ?_); (case side1 => exact cx_ (Kd.Q_reads' HO709.out).2.2); (case side2 => exact (Kd.Q_reads' HO709.out).2.1); rintro e w19 ⟨v720, rfl, ho0, hb⟩; have HO721 := Aside0.mk (Kd.R_lower (Kd.R_new' (Kd.R_new' ho0 (Kd.Q_lt (qp_ HO709.out))) (Kd.R_lt (rp_ HO718.out))) (below_size (bel_))); replace HO709 := Aside0.mk (Kd.Q_elder' (qp_ HO709.out) (Kd.R_base ho0) hb); replace HO718 := Aside0.mk (Kd.R_elder' (rp_ HO718.out) (Kd.R_base ho0) hb); replace HB := Aside0.mk (below_step (bel_) hb); replace BK715 := Aside0.mk (bb_ BK715.out hb); (try clear hb ho0); obtain ⟨Ao20, co20, eo20⟩ := Kd.R_slice HO718.out; subst eo20; obtain ⟨Ao21, co21, eo21⟩ := Kd.R_slice HO721.out; subst eo21) | (go_at_call 25; (with_reducible refine (laws_lpRows.calls k _ _ t716 _ _ t719 true _ ?side1 ?side2 ?side3 ?side4 A12.out).mono ?_); (case side1 => exact cx_ (Kd.R_reads' HO718.out).2.2); (case side2 => exact (Kd.R_reads' HO718.out).2.1); (case side3 => exact cx_ (Kd.R_reads' HO721.out).2.2); (case side4 => exact (Kd.R_reads' HO721.out).2.1); rintro e w' ⟨rfl, ⟨nd, rfl⟩⟩; (try first | exact ⟨rfl, _, World.drewN_drewN _ _ _⟩ | exact ⟨rfl, _, Eq.trans (World.drewN_drewN _ _ _) (congrArg (World.drewN _) (Nat.add_assoc _ _ _))⟩)) | (go_at_call 26; (with_reducible refine (spec_TreeOk.calls k _ _ t707 true _ ?side1 ?side2 A14.out).mono ?_); (case side1 => exact cx_ (Kd.Q_reads' HO709.out).2.2); (case side2 => exact (Kd.Q_reads' HO709.out).2.1); rintro e w22 ⟨rfl, hb⟩; replace HO709 := Aside0.mk (Kd.Q_below (qp_ HO709.out) hb); replace HO718 := Aside0.mk (Kd.R_below (rp_ HO718.out) hb); replace HO721 := Aside0.mk (Kd.R_below (rp_ HO721.out) hb); replace HB := Aside0.mk (below_step (bel_) hb); replace BK715 := Aside0.mk (bb_ BK715.out hb); (try clear hb); have hcz23_0 := cz_ BK715.out 0 (.int .i64 t710); have hcz23_1 := cz_ BK715.out 1 (.int .i64 t711); have hcz23_2 := cz_ BK715.out 2 (.int .i64 t712); have hcz23_3 := cz_ BK715.out 3 (.int .i64 t713); have hcz23_4 := cz_ BK715.out 4 (.string t714); have hfz23_0 := blk_frozen BK715.out 0; have hfz23_1 := blk_frozen BK715.out 1; have hfz23_2 := blk_frozen BK715.out 2; have hfz23_3 := blk_frozen BK715.out 3; have hfz23_4 := blk_frozen BK715.out 4) | (go_at_call 27; (with_reducible refine (spec_OpOk.calls k t710 t711 t712 t713 t714 true _ A16.out).mono ?_); rintro e w24 ⟨rfl, hb⟩; replace HO709 := Aside0.mk (Kd.Q_below (qp_ HO709.out) hb); replace HO718 := Aside0.mk (Kd.R_below (rp_ HO718.out) hb); replace HO721 := Aside0.mk (Kd.R_below (rp_ HO721.out) hb); replace HB := Aside0.mk (below_step (bel_) hb); replace BK715 := Aside0.mk (bb_ BK715.out hb); (try clear hb); have hcz25_0 := cz_ BK715.out 0 (.int .i64 t710); have hcz25_1 := cz_ BK715.out 1 (.int .i64 t711); have hcz25_2 := cz_ BK715.out 2 (.int .i64 t712); have hcz25_3 := cz_ BK715.out 3 (.int .i64 t713); have hcz25_4 := cz_ BK715.out 4 (.string t714); have hfz25_0 := blk_frozen BK715.out 0; have hfz25_1 := blk_frozen BK715.out 1; have hfz25_2 := blk_frozen BK715.out 2; have hfz25_3 := blk_frozen BK715.out 3; have hfz25_4 := blk_frozen BK715.out 4)); try go_wp2_with (first | (go_at_call 17; (with_reducible refine (spec_OpDo.calls k _ _ t707 t710 t711 t712 t713 t714 t719 _ ?side1 ?side2 A11.out).mono ?_); (case side1 => exact cx_ (Kd.Q_reads' HO709.out).2.2); (case side2 => exact (Kd.Q_reads' HO709.out).2.1); rintro e w19 ⟨v720, rfl, ho0, hb⟩; have HO721 := Aside0.mk (Kd.R_lower (Kd.R_new' (Kd.R_new' ho0 (Kd.Q_lt (qp_ HO709.out))) (Kd.R_lt (rp_ HO718.out))) (below_size (bel_))); replace HO709 := Aside0.mk (Kd.Q_elder' (qp_ HO709.out) (Kd.R_base ho0) hb); replace HO718 := Aside0.mk (Kd.R_elder' (rp_ HO718.out) (Kd.R_base ho0) hb); replace HB := Aside0.mk (below_step (bel_) hb); replace BK715 := Aside0.mk (bb_ BK715.out hb); (try clear hb ho0); obtain ⟨Ao20, co20, eo20⟩ := Kd.R_slice HO718.out; subst eo20; obtain ⟨Ao21, co21, eo21⟩ := Kd.R_slice HO721.out; subst eo21) | (go_at_call 25; (with_reducible refine (laws_lpRows.calls k _ _ t716 _ _ t719 true _ ?side1 ?side2 ?side3 ?side4 A12.out).mono ?_); (case side1 => exact cx_ (Kd.R_reads' HO718.out).2.2); (case side2 => exact (Kd.R_reads' HO718.out).2.1); (case side3 => exact cx_ (Kd.R_reads' HO721.out).2.2); (case side4 => exact (Kd.R_reads' HO721.out).2.1); rintro e w' ⟨rfl, ⟨nd, rfl⟩⟩; (try first | exact ⟨rfl, _, World.drewN_drewN _ _ _⟩ | exact ⟨rfl, _, Eq.trans (World.drewN_drewN _ _ _) (congrArg (World.drewN _) (Nat.add_assoc _ _ _))⟩)) | (go_at_call 26; (with_reducible refine (spec_TreeOk.calls k _ _ t707 true _ ?side1 ?side2 A14.out).mono ?_); (case side1 => exact cx_ (Kd.Q_reads' HO709.out).2.2); (case side2 => exact (Kd.Q_reads' HO709.out).2.1); rintro e w22 ⟨rfl, hb⟩; replace HO709 := Aside0.mk (Kd.Q_below (qp_ HO709.out) hb); replace HO718 := Aside0.mk (Kd.R_below (rp_ HO718.out) hb); replace HO721 := Aside0.mk (Kd.R_below (rp_ HO721.out) hb); replace HB := Aside0.mk (below_step (bel_) hb); replace BK715 := Aside0.mk (bb_ BK715.out hb); (try clear hb); have hcz23_0 := cz_ BK715.out 0 (.int .i64 t710); have hcz23_1 := cz_ BK715.out 1 (.int .i64 t711); have hcz23_2 := cz_ BK715.out 2 (.int .i64 t712); have hcz23_3 := cz_ BK715.out 3 (.int .i64 t713); have hcz23_4 := cz_ BK715.out 4 (.string t714); have hfz23_0 := blk_frozen BK715.out 0; have hfz23_1 := blk_frozen BK715.out 1; have hfz23_2 := blk_frozen BK715.out 2; have hfz23_3 := blk_frozen BK715.out 3; have hfz23_4 := blk_frozen BK715.out 4) | (go_at_call 27; (with_reducible refine (spec_OpOk.calls k t710 t711 t712 t713 t714 true _ A16.out).mono ?_); rintro e w24 ⟨rfl, hb⟩; replace HO709 := Aside0.mk (Kd.Q_below (qp_ HO709.out) hb); replace HO718 := Aside0.mk (Kd.R_below (rp_ HO718.out) hb); replace HO721 := Aside0.mk (Kd.R_below (rp_ HO721.out) hb); replace HB := Aside0.mk (below_step (bel_) hb); replace BK715 := Aside0.mk (bb_ BK715.out hb); (try clear hb); have hcz25_0 := cz_ BK715.out 0 (.int .i64 t710); have hcz25_1 := cz_ BK715.out 1 (.int .i64 t711); have hcz25_2 := cz_ BK715.out 2 (.int .i64 t712); have hcz25_3 := cz_ BK715.out 3 (.int .i64 t713); have hcz25_4 := cz_ BK715.out 4 (.string t714); have hfz25_0 := blk_frozen BK715.out 0; have hfz25_1 := blk_frozen BK715.out 1; have hfz25_2 := blk_frozen BK715.out 2; have hfz25_3 := blk_frozen BK715.out 3; have hfz25_4 := blk_frozen BK715.out 4)))
      go_meet
      case rel => exact ⟨_, ((t710 != 2)), (si_), H', ⟨by first | omega | exact Nat.le_refl _⟩, ⟨by (with_reducible repeat (first | apply Kd.Q_alloc | apply Kd.Q_drewN | apply Kd.Q_drew)); exact Kd.Q_mono HO709.out (fun _ hk => hk.1.2)⟩, ⟨by (with_reducible repeat (first | apply Kd.R_alloc | apply Kd.R_drewN | apply Kd.R_drew)); exact Kd.R_mono HO718.out (fun _ hk => hk.1.2)⟩, ⟨by (with_reducible repeat (first | refine blk_drewN ?_ _ | refine blk_drew ?_ | refine blk_alloc ?_ _)); exact BK715.out⟩, ⟨bel_⟩⟩
     ·replace c17 := Bool.eq_false_iff.mpr c17
      subst c17
      have H1 : (laws_FnTextOnly.j0 k t707 t716 true t710 t711 t712 t713 t714) = some r := by rw [if_neg (show ¬ (false = true) by decide)] at H; exact H
      clear H
      have H := H1
      clear H1
      have H' := Aside0.mk H
      clear H
      have hcz26_0 := cz_ BK715.out 0 (.int .i64 t710)
      have hcz26_1 := cz_ BK715.out 1 (.int .i64 t711)
      have hcz26_2 := cz_ BK715.out 2 (.int .i64 t712)
      have hcz26_3 := cz_ BK715.out 3 (.int .i64 t713)
      have hcz26_4 := cz_ BK715.out 4 (.string t714)
      have hfz26_0 := blk_frozen BK715.out 0
      have hfz26_1 := blk_frozen BK715.out 1
      have hfz26_2 := blk_frozen BK715.out 2
      have hfz26_3 := blk_frozen BK715.out 3
      have hfz26_4 := blk_frozen BK715.out 4
      go_wp2_with (first | (go_at_call 17; (with_reducible refine (spec_OpDo.calls k _ _ t707 t710 t711 t712 t713 t714 t719 _ ?side1 ?side2 A11.out).mono ?_); (case side1 => exact cx_ (Kd.Q_reads' HO709.out).2.2); (case side2 => exact (Kd.Q_reads' HO709.out).2.1); rintro e w27 ⟨v720, rfl, ho0, hb⟩; have HO721 := Aside0.mk (Kd.R_lower (Kd.R_new' (Kd.R_new' ho0 (Kd.Q_lt (qp_ HO709.out))) (Kd.R_lt (rp_ HO718.out))) (below_size (bel_))); replace HO709 := Aside0.mk (Kd.Q_elder' (qp_ HO709.out) (Kd.R_base ho0) hb); replace HO718 := Aside0.mk (Kd.R_elder' (rp_ HO718.out) (Kd.R_base ho0) hb); replace HB := Aside0.mk (below_step (bel_) hb); replace BK715 := Aside0.mk (bb_ BK715.out hb); (try clear hb ho0); obtain ⟨Ao28, co28, eo28⟩ := Kd.R_slice HO718.out; subst eo28; obtain ⟨Ao29, co29, eo29⟩ := Kd.R_slice HO721.out; subst eo29) | (go_at_call 25; (with_reducible refine (laws_lpRows.calls k _ _ t716 _ _ t719 true _ ?side1 ?side2 ?side3 ?side4 A12.out).mono ?_); (case side1 => exact cx_ (Kd.R_reads' HO718.out).2.2); (case side2 => exact (Kd.R_reads' HO718.out).2.1); (case side3 => exact cx_ (Kd.R_reads' HO721.out).2.2); (case side4 => exact (Kd.R_reads' HO721.out).2.1); rintro e w' ⟨rfl, ⟨nd, rfl⟩⟩; (try first | exact ⟨rfl, _, World.drewN_drewN _ _ _⟩ | exact ⟨rfl, _, Eq.trans (World.drewN_drewN _ _ _) (congrArg (World.drewN _) (Nat.add_assoc _ _ _))⟩)) | (go_at_call 26; (with_reducible refine (spec_TreeOk.calls k _ _ t707 true _ ?side1 ?side2 A14.out).mono ?_); (case side1 => exact cx_ (Kd.Q_reads' HO709.out).2.2); (case side2 => exact (Kd.Q_reads' HO709.out).2.1); rintro e w30 ⟨rfl, hb⟩; replace HO709 := Aside0.mk (Kd.Q_below (qp_ HO709.out) hb); replace HO718 := Aside0.mk (Kd.R_below (rp_ HO718.out) hb); replace HO721 := Aside0.mk (Kd.R_below (rp_ HO721.out) hb); replace HB := Aside0.mk (below_step (bel_) hb); replace BK715 := Aside0.mk (bb_ BK715.out hb); (try clear hb); have hcz31_0 := cz_ BK715.out 0 (.int .i64 t710); have hcz31_1 := cz_ BK715.out 1 (.int .i64 t711); have hcz31_2 := cz_ BK715.out 2 (.int .i64 t712); have hcz31_3 := cz_ BK715.out 3 (.int .i64 t713); have hcz31_4 := cz_ BK715.out 4 (.string t714); have hfz31_0 := blk_frozen BK715.out 0; have hfz31_1 := blk_frozen BK715.out 1; have hfz31_2 := blk_frozen BK715.out 2; have hfz31_3 := blk_frozen BK715.out 3; have hfz31_4 := blk_frozen BK715.out 4) | (go_at_call 27; (with_reducible refine (spec_OpOk.calls k t710 t711 t712 t713 t714 false _ A16.out).mono ?_); rintro e w32 ⟨rfl, hb⟩; replace HO709 := Aside0.mk (Kd.Q_below (qp_ HO709.out) hb); replace HO718 := Aside0.mk (Kd.R_below (rp_ HO718.out) hb); replace HO721 := Aside0.mk (Kd.R_below (rp_ HO721.out) hb); replace HB := Aside0.mk (below_step (bel_) hb); replace BK715 := Aside0.mk (bb_ BK715.out hb); (try clear hb)))
      repeat (go_quiet (first | (go_at_call 17; (with_reducible refine (spec_OpDo.calls k _ _ t707 t710 t711 t712 t713 t714 t719 _ ?side1 ?side2 A11.out).mono ?_); (case side1 => exact cx_ (Kd.Q_reads' HO709.out).2.2); (case side2 => exact (Kd.Q_reads' HO709.out).2.1); rintro e w27 ⟨v720, rfl, ho0, hb⟩; have HO721 := Aside0.mk (Kd.R_lower (Kd.R_new' (Kd.R_new' ho0 (Kd.Q_lt (qp_ HO709.out))) (Kd.R_lt (rp_ HO718.out))) (below_size (bel_))); replace HO709 := Aside0.mk (Kd.Q_elder' (qp_ HO709.out) (Kd.R_base ho0) hb); replace HO718 := Aside0.mk (Kd.R_elder' (rp_ HO718.out) (Kd.R_base ho0) hb); replace HB := Aside0.mk (below_step (bel_) hb); replace BK715 := Aside0.mk (bb_ BK715.out hb); (try clear hb ho0); obtain ⟨Ao28, co28, eo28⟩ := Kd.R_slice HO718.out; subst eo28; obtain ⟨Ao29, co29, eo29⟩ := Kd.R_slice HO721.out; subst eo29) | (go_at_call 25; (with_reducible refine (laws_lpRows.calls k _ _ t716 _ _ t719 true _ ?side1 ?side2 ?side3 ?side4 A12.out).mono ?_); (case side1 => exact cx_ (Kd.R_reads' HO718.out).2.2); (case side2 => exact (Kd.R_reads' HO718.out).2.1); (case side3 => exact cx_ (Kd.R_reads' HO721.out).2.2); (case side4 => exact (Kd.R_reads' HO721.out).2.1); rintro e w' ⟨rfl, ⟨nd, rfl⟩⟩; (try first | exact ⟨rfl, _, World.drewN_drewN _ _ _⟩ | exact ⟨rfl, _, Eq.trans (World.drewN_drewN _ _ _) (congrArg (World.drewN _) (Nat.add_assoc _ _ _))⟩)) | (go_at_call 26; (with_reducible refine (spec_TreeOk.calls k _ _ t707 true _ ?side1 ?side2 A14.out).mono ?_); (case side1 => exact cx_ (Kd.Q_reads' HO709.out).2.2); (case side2 => exact (Kd.Q_reads' HO709.out).2.1); rintro e w30 ⟨rfl, hb⟩; replace HO709 := Aside0.mk (Kd.Q_below (qp_ HO709.out) hb); replace HO718 := Aside0.mk (Kd.R_below (rp_ HO718.out) hb); replace HO721 := Aside0.mk (Kd.R_below (rp_ HO721.out) hb); replace HB := Aside0.mk (below_step (bel_) hb); replace BK715 := Aside0.mk (bb_ BK715.out hb); (try clear hb); have hcz31_0 := cz_ BK715.out 0 (.int .i64 t710); have hcz31_1 := cz_ BK715.out 1 (.int .i64 t711); have hcz31_2 := cz_ BK715.out 2 (.int .i64 t712); have hcz31_3 := cz_ BK715.out 3 (.int .i64 t713); have hcz31_4 := cz_ BK715.out 4 (.string t714); have hfz31_0 := blk_frozen BK715.out 0; have hfz31_1 := blk_frozen BK715.out 1; have hfz31_2 := blk_frozen BK715.out 2; have hfz31_3 := blk_frozen BK715.out 3; have hfz31_4 := blk_frozen BK715.out 4) | (go_at_call 27; (with_reducible refine (spec_OpOk.calls k t710 t711 t712 t713 t714 false _ A16.out).mono ?_); rintro e w32 ⟨rfl, hb⟩; replace HO709 := Aside0.mk (Kd.Q_below (qp_ HO709.out) hb); replace HO718 := Aside0.mk (Kd.R_below (rp_ HO718.out) hb); replace HO721 := Aside0.mk (Kd.R_below (rp_ HO721.out) hb); replace HB := Aside0.mk (below_step (bel_) hb); replace BK715 := Aside0.mk (bb_ BK715.out hb); (try clear hb))); try go_wp2_with (first | (go_at_call 17; (with_reducible refine (spec_OpDo.calls k _ _ t707 t710 t711 t712 t713 t714 t719 _ ?side1 ?side2 A11.out).mono ?_); (case side1 => exact cx_ (Kd.Q_reads' HO709.out).2.2); (case side2 => exact (Kd.Q_reads' HO709.out).2.1); rintro e w27 ⟨v720, rfl, ho0, hb⟩; have HO721 := Aside0.mk (Kd.R_lower (Kd.R_new' (Kd.R_new' ho0 (Kd.Q_lt (qp_ HO709.out))) (Kd.R_lt (rp_ HO718.out))) (below_size (bel_))); replace HO709 := Aside0.mk (Kd.Q_elder' (qp_ HO709.out) (Kd.R_base ho0) hb); replace HO718 := Aside0.mk (Kd.R_elder' (rp_ HO718.out) (Kd.R_base ho0) hb); replace HB := Aside0.mk (below_step (bel_) hb); replace BK715 := Aside0.mk (bb_ BK715.out hb); (try clear hb ho0); obtain ⟨Ao28, co28, eo28⟩ := Kd.R_slice HO718.out; subst eo28; obtain ⟨Ao29, co29, eo29⟩ := Kd.R_slice HO721.out; subst eo29) | (go_at_call 25; (with_reducible refine (laws_lpRows.calls k _ _ t716 _ _ t719 true _ ?side1 ?side2 ?side3 ?side4 A12.out).mono ?_); (case side1 => exact cx_ (Kd.R_reads' HO718.out).2.2); (case side2 => exact (Kd.R_reads' HO718.out).2.1); (case side3 => exact cx_ (Kd.R_reads' HO721.out).2.2); (case side4 => exact (Kd.R_reads' HO721.out).2.1); rintro e w' ⟨rfl, ⟨nd, rfl⟩⟩; (try first | exact ⟨rfl, _, World.drewN_drewN _ _ _⟩ | exact ⟨rfl, _, Eq.trans (World.drewN_drewN _ _ _) (congrArg (World.drewN _) (Nat.add_assoc _ _ _))⟩)) | (go_at_call 26; (with_reducible refine (spec_TreeOk.calls k _ _ t707 true _ ?side1 ?side2 A14.out).mono ?_); (case side1 => exact cx_ (Kd.Q_reads' HO709.out).2.2); (case side2 => exact (Kd.Q_reads' HO709.out).2.1); rintro e w30 ⟨rfl, hb⟩; replace HO709 := Aside0.mk (Kd.Q_below (qp_ HO709.out) hb); replace HO718 := Aside0.mk (Kd.R_below (rp_ HO718.out) hb); replace HO721 := Aside0.mk (Kd.R_below (rp_ HO721.out) hb); replace HB := Aside0.mk (below_step (bel_) hb); replace BK715 := Aside0.mk (bb_ BK715.out hb); (try clear hb); have hcz31_0 := cz_ BK715.out 0 (.int .i64 t710); have hcz31_1 := cz_ BK715.out 1 (.int .i64 t711); have hcz31_2 := cz_ BK715.out 2 (.int .i64 t712); have hcz31_3 := cz_ BK715.out 3 (.int .i64 t713); have hcz31_4 := cz_ BK715.out 4 (.string t714); have hfz31_0 := blk_frozen BK715.out 0; have hfz31_1 := blk_frozen BK715.out 1; have hfz31_2 := blk_frozen BK715.out 2; have hfz31_3 := blk_frozen BK715.out 3; have hfz31_4 := blk_frozen BK715.out 4) | (go_at_call 27; (with_reducible refine (spec_OpOk.calls k t710 t711 t712 t713 t714 false _ A16.out).mono ?_); rintro e w32 ⟨rfl, hb⟩; replace HO709 := Aside0.mk (Kd.Q_below (qp_ HO709.out) hb); replace HO718 := Aside0.mk (Kd.R_below (rp_ HO718.out) hb); replace HO721 := Aside0.mk (Kd.R_below (rp_ HO721.out) hb); replace HB := Aside0.mk (below_step (bel_) hb); replace BK715 := Aside0.mk (bb_ BK715.out hb); (try clear hb))))
      go_meet
      case rel => exact ⟨_, (true), (si_), H', ⟨by first | omega | exact Nat.le_refl _⟩, ⟨by (with_reducible repeat (first | apply Kd.Q_alloc | apply Kd.Q_drewN | apply Kd.Q_drew)); exact Kd.Q_mono HO709.out (fun _ hk => hk.1.2)⟩, ⟨by (with_reducible repeat (first | apply Kd.R_alloc | apply Kd.R_drewN | apply Kd.R_drew)); exact Kd.R_mono HO718.out (fun _ hk => hk.1.2)⟩, ⟨by (with_reducible repeat (first | refine blk_drewN ?_ _ | refine blk_drew ?_ | refine blk_alloc ?_ _)); exact BK715.out⟩, ⟨bel_⟩⟩
    ·replace c15 := Bool.eq_false_iff.mpr c15
     subst c15
     have H1 : (laws_FnTextOnly.j0 k t707 t716 true t710 t711 t712 t713 t714) = some r := by rw [if_neg (show ¬ (false = true) by decide)] at H; exact H
     clear H
     have H := H1
     clear H1
     have H' := Aside0.mk H
     clear H
     have hcz33_0 := cz_ BK715.out 0 (.int .i64 t710)
     have hcz33_1 := cz_ BK715.out 1 (.int .i64 t711)
     have hcz33_2 := cz_ BK715.out 2 (.int .i64 t712)
     have hcz33_3 := cz_ BK715.out 3 (.int .i64 t713)
     have hcz33_4 := cz_ BK715.out 4 (.string t714)
     have hfz33_0 := blk_frozen BK715.out 0
     have hfz33_1 := blk_frozen BK715.out 1
     have hfz33_2 := blk_frozen BK715.out 2
     have hfz33_3 := blk_frozen BK715.out 3
     have hfz33_4 := blk_frozen BK715.out 4
     go_wp2_with (first | (go_at_call 17; (with_reducible refine (spec_OpDo.calls k _ _ t707 t710 t711 t712 t713 t714 t719 _ ?side1 ?side2 A11.out).mono ?_); (case side1 => exact cx_ (Kd.Q_reads' HO709.out).2.2); (case side2 => exact (Kd.Q_reads' HO709.out).2.1); rintro e w34 ⟨v720, rfl, ho0, hb⟩; have HO721 := Aside0.mk (Kd.R_lower (Kd.R_new' (Kd.R_new' ho0 (Kd.Q_lt (qp_ HO709.out))) (Kd.R_lt (rp_ HO718.out))) (below_size (bel_))); replace HO709 := Aside0.mk (Kd.Q_elder' (qp_ HO709.out) (Kd.R_base ho0) hb); replace HO718 := Aside0.mk (Kd.R_elder' (rp_ HO718.out) (Kd.R_base ho0) hb); replace HB := Aside0.mk (below_step (bel_) hb); replace BK715 := Aside0.mk (bb_ BK715.out hb); (try clear hb ho0); obtain ⟨Ao35, co35, eo35⟩ := Kd.R_slice HO718.out; subst eo35; obtain ⟨Ao36, co36, eo36⟩ := Kd.R_slice HO721.out; subst eo36) | (go_at_call 25; (with_reducible refine (laws_lpRows.calls k _ _ t716 _ _ t719 true _ ?side1 ?side2 ?side3 ?side4 A12.out).mono ?_); (case side1 => exact cx_ (Kd.R_reads' HO718.out).2.2); (case side2 => exact (Kd.R_reads' HO718.out).2.1); (case side3 => exact cx_ (Kd.R_reads' HO721.out).2.2); (case side4 => exact (Kd.R_reads' HO721.out).2.1); rintro e w' ⟨rfl, ⟨nd, rfl⟩⟩; (try first | exact ⟨rfl, _, World.drewN_drewN _ _ _⟩ | exact ⟨rfl, _, Eq.trans (World.drewN_drewN _ _ _) (congrArg (World.drewN _) (Nat.add_assoc _ _ _))⟩)) | (go_at_call 26; (with_reducible refine (spec_TreeOk.calls k _ _ t707 false _ ?side1 ?side2 A14.out).mono ?_); (case side1 => exact cx_ (Kd.Q_reads' HO709.out).2.2); (case side2 => exact (Kd.Q_reads' HO709.out).2.1); rintro e w37 ⟨rfl, hb⟩; replace HO709 := Aside0.mk (Kd.Q_below (qp_ HO709.out) hb); replace HO718 := Aside0.mk (Kd.R_below (rp_ HO718.out) hb); replace HO721 := Aside0.mk (Kd.R_below (rp_ HO721.out) hb); replace HB := Aside0.mk (below_step (bel_) hb); replace BK715 := Aside0.mk (bb_ BK715.out hb); (try clear hb)))
     repeat (go_quiet (first | (go_at_call 17; (with_reducible refine (spec_OpDo.calls k _ _ t707 t710 t711 t712 t713 t714 t719 _ ?side1 ?side2 A11.out).mono ?_); (case side1 => exact cx_ (Kd.Q_reads' HO709.out).2.2); (case side2 => exact (Kd.Q_reads' HO709.out).2.1); rintro e w34 ⟨v720, rfl, ho0, hb⟩; have HO721 := Aside0.mk (Kd.R_lower (Kd.R_new' (Kd.R_new' ho0 (Kd.Q_lt (qp_ HO709.out))) (Kd.R_lt (rp_ HO718.out))) (below_size (bel_))); replace HO709 := Aside0.mk (Kd.Q_elder' (qp_ HO709.out) (Kd.R_base ho0) hb); replace HO718 := Aside0.mk (Kd.R_elder' (rp_ HO718.out) (Kd.R_base ho0) hb); replace HB := Aside0.mk (below_step (bel_) hb); replace BK715 := Aside0.mk (bb_ BK715.out hb); (try clear hb ho0); obtain ⟨Ao35, co35, eo35⟩ := Kd.R_slice HO718.out; subst eo35; obtain ⟨Ao36, co36, eo36⟩ := Kd.R_slice HO721.out; subst eo36) | (go_at_call 25; (with_reducible refine (laws_lpRows.calls k _ _ t716 _ _ t719 true _ ?side1 ?side2 ?side3 ?side4 A12.out).mono ?_); (case side1 => exact cx_ (Kd.R_reads' HO718.out).2.2); (case side2 => exact (Kd.R_reads' HO718.out).2.1); (case side3 => exact cx_ (Kd.R_reads' HO721.out).2.2); (case side4 => exact (Kd.R_reads' HO721.out).2.1); rintro e w' ⟨rfl, ⟨nd, rfl⟩⟩; (try first | exact ⟨rfl, _, World.drewN_drewN _ _ _⟩ | exact ⟨rfl, _, Eq.trans (World.drewN_drewN _ _ _) (congrArg (World.drewN _) (Nat.add_assoc _ _ _))⟩)) | (go_at_call 26; (with_reducible refine (spec_TreeOk.calls k _ _ t707 false _ ?side1 ?side2 A14.out).mono ?_); (case side1 => exact cx_ (Kd.Q_reads' HO709.out).2.2); (case side2 => exact (Kd.Q_reads' HO709.out).2.1); rintro e w37 ⟨rfl, hb⟩; replace HO709 := Aside0.mk (Kd.Q_below (qp_ HO709.out) hb); replace HO718 := Aside0.mk (Kd.R_below (rp_ HO718.out) hb); replace HO721 := Aside0.mk (Kd.R_below (rp_ HO721.out) hb); replace HB := Aside0.mk (below_step (bel_) hb); replace BK715 := Aside0.mk (bb_ BK715.out hb); (try clear hb))); try go_wp2_with (first | (go_at_call 17; (with_reducible refine (spec_OpDo.calls k _ _ t707 t710 t711 t712 t713 t714 t719 _ ?side1 ?side2 A11.out).mono ?_); (case side1 => exact cx_ (Kd.Q_reads' HO709.out).2.2); (case side2 => exact (Kd.Q_reads' HO709.out).2.1); rintro e w34 ⟨v720, rfl, ho0, hb⟩; have HO721 := Aside0.mk (Kd.R_lower (Kd.R_new' (Kd.R_new' ho0 (Kd.Q_lt (qp_ HO709.out))) (Kd.R_lt (rp_ HO718.out))) (below_size (bel_))); replace HO709 := Aside0.mk (Kd.Q_elder' (qp_ HO709.out) (Kd.R_base ho0) hb); replace HO718 := Aside0.mk (Kd.R_elder' (rp_ HO718.out) (Kd.R_base ho0) hb); replace HB := Aside0.mk (below_step (bel_) hb); replace BK715 := Aside0.mk (bb_ BK715.out hb); (try clear hb ho0); obtain ⟨Ao35, co35, eo35⟩ := Kd.R_slice HO718.out; subst eo35; obtain ⟨Ao36, co36, eo36⟩ := Kd.R_slice HO721.out; subst eo36) | (go_at_call 25; (with_reducible refine (laws_lpRows.calls k _ _ t716 _ _ t719 true _ ?side1 ?side2 ?side3 ?side4 A12.out).mono ?_); (case side1 => exact cx_ (Kd.R_reads' HO718.out).2.2); (case side2 => exact (Kd.R_reads' HO718.out).2.1); (case side3 => exact cx_ (Kd.R_reads' HO721.out).2.2); (case side4 => exact (Kd.R_reads' HO721.out).2.1); rintro e w' ⟨rfl, ⟨nd, rfl⟩⟩; (try first | exact ⟨rfl, _, World.drewN_drewN _ _ _⟩ | exact ⟨rfl, _, Eq.trans (World.drewN_drewN _ _ _) (congrArg (World.drewN _) (Nat.add_assoc _ _ _))⟩)) | (go_at_call 26; (with_reducible refine (spec_TreeOk.calls k _ _ t707 false _ ?side1 ?side2 A14.out).mono ?_); (case side1 => exact cx_ (Kd.Q_reads' HO709.out).2.2); (case side2 => exact (Kd.Q_reads' HO709.out).2.1); rintro e w37 ⟨rfl, hb⟩; replace HO709 := Aside0.mk (Kd.Q_below (qp_ HO709.out) hb); replace HO718 := Aside0.mk (Kd.R_below (rp_ HO718.out) hb); replace HO721 := Aside0.mk (Kd.R_below (rp_ HO721.out) hb); replace HB := Aside0.mk (below_step (bel_) hb); replace BK715 := Aside0.mk (bb_ BK715.out hb); (try clear hb))))
     go_meet
     case rel => exact ⟨_, (true), (si_), H', ⟨by first | omega | exact Nat.le_refl _⟩, ⟨by (with_reducible repeat (first | apply Kd.Q_alloc | apply Kd.Q_drewN | apply Kd.Q_drew)); exact Kd.Q_mono HO709.out (fun _ hk => hk.1.2)⟩, ⟨by (with_reducible repeat (first | apply Kd.R_alloc | apply Kd.R_drewN | apply Kd.R_drew)); exact Kd.R_mono HO718.out (fun _ hk => hk.1.2)⟩, ⟨by (with_reducible repeat (first | refine blk_drewN ?_ _ | refine blk_drew ?_ | refine blk_alloc ?_ _)); exact BK715.out⟩, ⟨bel_⟩⟩
   ·replace c13 := Bool.eq_false_iff.mpr c13
    subst c13
    have H1 : (none) = some r := by rw [if_neg (show ¬ (false = true) by decide)] at H; exact H
    clear H
    have H := H1
    clear H1
    exact absurd H (by simp)
  case rest =>
   clear HC5
   try clear c1
   try clear c2
   try clear c2b0
   try clear c2b1
   try clear p2
   try clear c10
   try clear c13
   try clear c15
   try clear c17
   try clear hcz18_0
   try clear hcz18_1
   try clear hcz18_2
   try clear hcz18_3
   try clear hcz18_4
   try clear hcz23_0
   try clear hcz23_1
   try clear hcz23_2
   try clear hcz23_3
   try clear hcz23_4
   try clear hcz25_0
   try clear hcz25_1
   try clear hcz25_2
   try clear hcz25_3
   try clear hcz25_4
   try clear hcz26_0
   try clear hcz26_1
   try clear hcz26_2
   try clear hcz26_3
   try clear hcz26_4
   try clear hcz31_0
   try clear hcz31_1
   try clear hcz31_2
   try clear hcz31_3
   try clear hcz31_4
   try clear hcz33_0
   try clear hcz33_1
   try clear hcz33_2
   try clear hcz33_3
   try clear hcz33_4
   try clear hcz8_0
   try clear hcz8_1
   try clear hcz8_2
   try clear hcz8_3
   try clear hcz8_4
   try clear hfz18_0
   try clear hfz18_1
   try clear hfz18_2
   try clear hfz18_3
   try clear hfz18_4
   try clear hfz23_0
   try clear hfz23_1
   try clear hfz23_2
   try clear hfz23_3
   try clear hfz23_4
   try clear hfz25_0
   try clear hfz25_1
   try clear hfz25_2
   try clear hfz25_3
   try clear hfz25_4
   try clear hfz26_0
   try clear hfz26_1
   try clear hfz26_2
   try clear hfz26_3
   try clear hfz26_4
   try clear hfz31_0
   try clear hfz31_1
   try clear hfz31_2
   try clear hfz31_3
   try clear hfz31_4
   try clear hfz33_0
   try clear hfz33_1
   try clear hfz33_2
   try clear hfz33_3
   try clear hfz33_4
   try clear hfz8_0
   try clear hfz8_1
   try clear hfz8_2
   try clear hfz8_3
   try clear hfz8_4
   obtain ⟨kq, x39_4, rfl, HA, HJ4, HO_3, HO_5, BK715, HB⟩ := hcut
   cases kq with
   | zero => exact absurd HA.out (by simp [laws_FnTextOnly.j0])
   | succ kj4 =>
    have H := HA.out
    clear HA
    simp only [laws_FnTextOnly.j0] at H
    by_cases c38 : x39_4 = true
    ·subst c38
     have H1 : ((spec_OpDo.f kj4 t707 t710 t711 t712 t713 t714).bind fun t725 => ((laws_lpRows.f kj4 t716 t725).bind fun t728 => (some t728))) = some r := by rw [if_pos rfl] at H; exact H
     clear H
     have H := H1
     clear H1
     replace H := Option.bind_eq_some_iff.mp H
     obtain ⟨t725, A390, H⟩ := H
     try dsimp only at H
     have A39 := Aside0.mk A390
     clear A390
     replace H := Option.bind_eq_some_iff.mp H
     obtain ⟨t728, A400, H⟩ := H
     try dsimp only at H
     have A40 := Aside0.mk A400
     clear A400
     obtain rfl := Option.some.inj H
     have hcz41_0 : wc.cell? ⟨gb715, 0, none⟩ = some (.int .i64 t710) := (blk_cell BK715.out 0).trans rfl
     have hcz41_1 : wc.cell? ⟨gb715, 1, none⟩ = some (.int .i64 t711) := (blk_cell BK715.out 1).trans rfl
     have hcz41_2 : wc.cell? ⟨gb715, 2, none⟩ = some (.int .i64 t712) := (blk_cell BK715.out 2).trans rfl
     have hcz41_3 : wc.cell? ⟨gb715, 3, none⟩ = some (.int .i64 t713) := (blk_cell BK715.out 3).trans rfl
     have hcz41_4 : wc.cell? ⟨gb715, 4, none⟩ = some (.string t714) := (blk_cell BK715.out 4).trans rfl
     have hfz41_0 := blk_frozen BK715.out 0
     have hfz41_1 := blk_frozen BK715.out 1
     have hfz41_2 := blk_frozen BK715.out 2
     have hfz41_3 := blk_frozen BK715.out 3
     have hfz41_4 := blk_frozen BK715.out 4
     go_wp2_with (first | (go_at_call 17; (with_reducible refine (spec_OpDo.calls kj4 _ _ t707 t710 t711 t712 t713 t714 t725 _ ?side1 ?side2 A39.out).mono ?_); (case side1 => exact cx_ (Kd.Q_reads' HO_3.out).2.2); (case side2 => exact (Kd.Q_reads' HO_3.out).2.1); rintro e w42 ⟨v726, rfl, ho0, hb⟩; have HO727 := Aside0.mk (Kd.R_lower (Kd.R_new' (Kd.R_new' ho0 (Kd.Q_lt (qp_ HO_3.out))) (Kd.R_lt (rp_ HO_5.out))) (below_size (bel_))); replace HO_3 := Aside0.mk (Kd.Q_elder' (qp_ HO_3.out) (Kd.R_base ho0) hb); replace HO_5 := Aside0.mk (Kd.R_elder' (rp_ HO_5.out) (Kd.R_base ho0) hb); replace HB := Aside0.mk (below_step (bel_) hb); replace BK715 := Aside0.mk (bb_ BK715.out hb); (try clear hb ho0); obtain ⟨Ao43, co43, eo43⟩ := Kd.R_slice HO_5.out; subst eo43; obtain ⟨Ao44, co44, eo44⟩ := Kd.R_slice HO727.out; subst eo44) | (go_at_call 25; (with_reducible refine (laws_lpRows.calls kj4 _ _ t716 _ _ t725 t728 _ ?side1 ?side2 ?side3 ?side4 A40.out).mono ?_); (case side1 => exact cx_ (Kd.R_reads' HO_5.out).2.2); (case side2 => exact (Kd.R_reads' HO_5.out).2.1); (case side3 => exact cx_ (Kd.R_reads' HO727.out).2.2); (case side4 => exact (Kd.R_reads' HO727.out).2.1); rintro e w' ⟨rfl, ⟨nd, rfl⟩⟩; (try first | exact ⟨rfl, _, World.drewN_drewN _ _ _⟩ | exact ⟨rfl, _, Eq.trans (World.drewN_drewN _ _ _) (congrArg (World.drewN _) (Nat.add_assoc _ _ _))⟩)))
     repeat (go_quiet (first | (go_at_call 17; (with_reducible refine (spec_OpDo.calls kj4 _ _ t707 t710 t711 t712 t713 t714 t725 _ ?side1 ?side2 A39.out).mono ?_); (case side1 => exact cx_ (Kd.Q_reads' HO_3.out).2.2); (case side2 => exact (Kd.Q_reads' HO_3.out).2.1); rintro e w42 ⟨v726, rfl, ho0, hb⟩; have HO727 := Aside0.mk (Kd.R_lower (Kd.R_new' (Kd.R_new' ho0 (Kd.Q_lt (qp_ HO_3.out))) (Kd.R_lt (rp_ HO_5.out))) (below_size (bel_))); replace HO_3 := Aside0.mk (Kd.Q_elder' (qp_ HO_3.out) (Kd.R_base ho0) hb); replace HO_5 := Aside0.mk (Kd.R_elder' (rp_ HO_5.out) (Kd.R_base ho0) hb); replace HB := Aside0.mk (below_step (bel_) hb); replace BK715 := Aside0.mk (bb_ BK715.out hb); (try clear hb ho0); obtain ⟨Ao43, co43, eo43⟩ := Kd.R_slice HO_5.out; subst eo43; obtain ⟨Ao44, co44, eo44⟩ := Kd.R_slice HO727.out; subst eo44) | (go_at_call 25; (with_reducible refine (laws_lpRows.calls kj4 _ _ t716 _ _ t725 t728 _ ?side1 ?side2 ?side3 ?side4 A40.out).mono ?_); (case side1 => exact cx_ (Kd.R_reads' HO_5.out).2.2); (case side2 => exact (Kd.R_reads' HO_5.out).2.1); (case side3 => exact cx_ (Kd.R_reads' HO727.out).2.2); (case side4 => exact (Kd.R_reads' HO727.out).2.1); rintro e w' ⟨rfl, ⟨nd, rfl⟩⟩; (try first | exact ⟨rfl, _, World.drewN_drewN _ _ _⟩ | exact ⟨rfl, _, Eq.trans (World.drewN_drewN _ _ _) (congrArg (World.drewN _) (Nat.add_assoc _ _ _))⟩))); try go_wp2_with (first | (go_at_call 17; (with_reducible refine (spec_OpDo.calls kj4 _ _ t707 t710 t711 t712 t713 t714 t725 _ ?side1 ?side2 A39.out).mono ?_); (case side1 => exact cx_ (Kd.Q_reads' HO_3.out).2.2); (case side2 => exact (Kd.Q_reads' HO_3.out).2.1); rintro e w42 ⟨v726, rfl, ho0, hb⟩; have HO727 := Aside0.mk (Kd.R_lower (Kd.R_new' (Kd.R_new' ho0 (Kd.Q_lt (qp_ HO_3.out))) (Kd.R_lt (rp_ HO_5.out))) (below_size (bel_))); replace HO_3 := Aside0.mk (Kd.Q_elder' (qp_ HO_3.out) (Kd.R_base ho0) hb); replace HO_5 := Aside0.mk (Kd.R_elder' (rp_ HO_5.out) (Kd.R_base ho0) hb); replace HB := Aside0.mk (below_step (bel_) hb); replace BK715 := Aside0.mk (bb_ BK715.out hb); (try clear hb ho0); obtain ⟨Ao43, co43, eo43⟩ := Kd.R_slice HO_5.out; subst eo43; obtain ⟨Ao44, co44, eo44⟩ := Kd.R_slice HO727.out; subst eo44) | (go_at_call 25; (with_reducible refine (laws_lpRows.calls kj4 _ _ t716 _ _ t725 t728 _ ?side1 ?side2 ?side3 ?side4 A40.out).mono ?_); (case side1 => exact cx_ (Kd.R_reads' HO_5.out).2.2); (case side2 => exact (Kd.R_reads' HO_5.out).2.1); (case side3 => exact cx_ (Kd.R_reads' HO727.out).2.2); (case side4 => exact (Kd.R_reads' HO727.out).2.1); rintro e w' ⟨rfl, ⟨nd, rfl⟩⟩; (try first | exact ⟨rfl, _, World.drewN_drewN _ _ _⟩ | exact ⟨rfl, _, Eq.trans (World.drewN_drewN _ _ _) (congrArg (World.drewN _) (Nat.add_assoc _ _ _))⟩))))
     go_ret
     exact ⟨fi_, bel_⟩
    ·replace c38 := Bool.eq_false_iff.mpr c38
     subst c38
     have H1 : ((laws_lpAt.f kj4 t707 t711).bind fun t729 => (if t729 < 0 then ((laws_lpRows.f kj4 t716 t707).bind fun t730 => (some t730)) else ((some (([] : List (S43)) : List (S43))).bind fun y731 => (if y731.length + t716.length < 4398046511104 then ((some (y731 ++ t716 : List (S43))).bind fun y734 => (if 0 ≤ t729 then (if t729 < (t707.length : Int) then (if t729 < (y734.length : Int) then (if t729 < (t716.length : Int) then (if ((rd_T43 t716 t729).f2).toList = t714.toList then ((laws_lpRows.f kj4 (y734.set (t729 : Int).toNat (⟨(rd_T43 y734 t729).f0, (rd_T43 y734 t729).f1, (rd_T43 t707 t729).f2⟩ : S43)) t707).bind fun t740 => (some t740)) else (none)) else (none)) else (none)) else (none)) else (none))) else (none))))) = some r := by rw [if_neg (show ¬ (false = true) by decide)] at H; exact H
     clear H
     have H := H1
     clear H1
     replace H := Option.bind_eq_some_iff.mp H
     obtain ⟨t729, A450, H⟩ := H
     try dsimp only at H
     have A45 := Aside0.mk A450
     clear A450
     by_cases c46 : t729 < 0
     ·rw [if_pos c46] at H
      have c46b0 : decide (t729 < 0) = true := decide_eq_true c46
      clear c46
      replace H := Option.bind_eq_some_iff.mp H
      obtain ⟨t730, A470, H⟩ := H
      try dsimp only at H
      have A47 := Aside0.mk A470
      clear A470
      obtain rfl := Option.some.inj H
      have hcz48_0 : wc.cell? ⟨gb715, 0, none⟩ = some (.int .i64 t710) := (blk_cell BK715.out 0).trans rfl
      have hcz48_1 : wc.cell? ⟨gb715, 1, none⟩ = some (.int .i64 t711) := (blk_cell BK715.out 1).trans rfl
      have hcz48_2 : wc.cell? ⟨gb715, 2, none⟩ = some (.int .i64 t712) := (blk_cell BK715.out 2).trans rfl
      have hcz48_3 : wc.cell? ⟨gb715, 3, none⟩ = some (.int .i64 t713) := (blk_cell BK715.out 3).trans rfl
      have hcz48_4 : wc.cell? ⟨gb715, 4, none⟩ = some (.string t714) := (blk_cell BK715.out 4).trans rfl
      have hfz48_0 := blk_frozen BK715.out 0
      have hfz48_1 := blk_frozen BK715.out 1
      have hfz48_2 := blk_frozen BK715.out 2
      have hfz48_3 := blk_frozen BK715.out 3
      have hfz48_4 := blk_frozen BK715.out 4
      go_wp2_with (first | (go_at_call 29; (with_reducible refine (laws_lpAt.calls kj4 _ _ t707 t711 t729 _ ?side1 ?side2 A45.out).mono ?_); (case side1 => exact cx_ (Kd.Q_reads' HO_3.out).2.2); (case side2 => exact (Kd.Q_reads' HO_3.out).2.1); rintro e w' ⟨rfl, ⟨nd, rfl⟩⟩; (try first | exact ⟨rfl, _, World.drewN_drewN _ _ _⟩ | exact ⟨rfl, _, Eq.trans (World.drewN_drewN _ _ _) (congrArg (World.drewN _) (Nat.add_assoc _ _ _))⟩); obtain ⟨Ao49, co49, eo49⟩ := Kd.R_slice HO_5.out; subst eo49) | (go_at_call 25; (with_reducible refine (laws_lpRows.calls kj4 _ _ t716 _ _ t707 t730 _ ?side1 ?side2 ?side3 ?side4 A47.out).mono ?_); (case side1 => exact cx_ (Kd.R_reads' HO_5.out).2.2); (case side2 => exact (Kd.R_reads' HO_5.out).2.1); (case side3 => exact cx_ (Kd.Q_reads' HO_3.out).2.2); (case side4 => exact (Kd.Q_reads' HO_3.out).2.1); rintro e w' ⟨rfl, ⟨nd, rfl⟩⟩; (try first | exact ⟨rfl, _, World.drewN_drewN _ _ _⟩ | exact ⟨rfl, _, Eq.trans (World.drewN_drewN _ _ _) (congrArg (World.drewN _) (Nat.add_assoc _ _ _))⟩)))
      repeat (go_quiet (first | (go_at_call 29; (with_reducible refine (laws_lpAt.calls kj4 _ _ t707 t711 t729 _ ?side1 ?side2 A45.out).mono ?_); (case side1 => exact cx_ (Kd.Q_reads' HO_3.out).2.2); (case side2 => exact (Kd.Q_reads' HO_3.out).2.1); rintro e w' ⟨rfl, ⟨nd, rfl⟩⟩; (try first | exact ⟨rfl, _, World.drewN_drewN _ _ _⟩ | exact ⟨rfl, _, Eq.trans (World.drewN_drewN _ _ _) (congrArg (World.drewN _) (Nat.add_assoc _ _ _))⟩); obtain ⟨Ao49, co49, eo49⟩ := Kd.R_slice HO_5.out; subst eo49) | (go_at_call 25; (with_reducible refine (laws_lpRows.calls kj4 _ _ t716 _ _ t707 t730 _ ?side1 ?side2 ?side3 ?side4 A47.out).mono ?_); (case side1 => exact cx_ (Kd.R_reads' HO_5.out).2.2); (case side2 => exact (Kd.R_reads' HO_5.out).2.1); (case side3 => exact cx_ (Kd.Q_reads' HO_3.out).2.2); (case side4 => exact (Kd.Q_reads' HO_3.out).2.1); rintro e w' ⟨rfl, ⟨nd, rfl⟩⟩; (try first | exact ⟨rfl, _, World.drewN_drewN _ _ _⟩ | exact ⟨rfl, _, Eq.trans (World.drewN_drewN _ _ _) (congrArg (World.drewN _) (Nat.add_assoc _ _ _))⟩))); try go_wp2_with (first | (go_at_call 29; (with_reducible refine (laws_lpAt.calls kj4 _ _ t707 t711 t729 _ ?side1 ?side2 A45.out).mono ?_); (case side1 => exact cx_ (Kd.Q_reads' HO_3.out).2.2); (case side2 => exact (Kd.Q_reads' HO_3.out).2.1); rintro e w' ⟨rfl, ⟨nd, rfl⟩⟩; (try first | exact ⟨rfl, _, World.drewN_drewN _ _ _⟩ | exact ⟨rfl, _, Eq.trans (World.drewN_drewN _ _ _) (congrArg (World.drewN _) (Nat.add_assoc _ _ _))⟩); obtain ⟨Ao49, co49, eo49⟩ := Kd.R_slice HO_5.out; subst eo49) | (go_at_call 25; (with_reducible refine (laws_lpRows.calls kj4 _ _ t716 _ _ t707 t730 _ ?side1 ?side2 ?side3 ?side4 A47.out).mono ?_); (case side1 => exact cx_ (Kd.R_reads' HO_5.out).2.2); (case side2 => exact (Kd.R_reads' HO_5.out).2.1); (case side3 => exact cx_ (Kd.Q_reads' HO_3.out).2.2); (case side4 => exact (Kd.Q_reads' HO_3.out).2.1); rintro e w' ⟨rfl, ⟨nd, rfl⟩⟩; (try first | exact ⟨rfl, _, World.drewN_drewN _ _ _⟩ | exact ⟨rfl, _, Eq.trans (World.drewN_drewN _ _ _) (congrArg (World.drewN _) (Nat.add_assoc _ _ _))⟩))))
      go_ret
      exact ⟨fi_, bel_⟩
     ·rw [if_neg c46] at H
      have c46b0 : decide (t729 < 0) = false := decide_eq_false c46
      clear c46
      obtain ⟨y731, hy731⟩ : ∃ y_ : List (S43), y_ = (([] : List (S43))) := ⟨_, rfl⟩
      replace H : (if y731.length + t716.length < 4398046511104 then ((some (y731 ++ t716 : List (S43))).bind fun y734 => (if 0 ≤ t729 then (if t729 < (t707.length : Int) then (if t729 < (y734.length : Int) then (if t729 < (t716.length : Int) then (if ((rd_T43 t716 t729).f2).toList = t714.toList then ((laws_lpRows.f kj4 (y734.set (t729 : Int).toNat (⟨(rd_T43 y734 t729).f0, (rd_T43 y734 t729).f1, (rd_T43 t707 t729).f2⟩ : S43)) t707).bind fun t740 => (some t740)) else (none)) else (none)) else (none)) else (none)) else (none))) else (none)) = some r := by first | (rw [hy731]; with_reducible exact H) | (have H2_ := (Option.bind_some _ _).symm.trans H; rw [hy731]; with_reducible exact H2_) | (have H2_ := (Option.bind_some _ _).symm.trans H; with_reducible exact H2_) | with_reducible exact H | (rw [hy731]; exact H) | exact H
      have Ny731 := Aside0.mk hy731
      clear hy731
      by_cases c50 : y731.length + t716.length < 4398046511104
      ·rw [if_pos c50] at H
       have LMc50 := Aside0.mk c50
       clear c50
       obtain ⟨y734, hy734⟩ : ∃ y_ : List (S43), y_ = (y731 ++ t716) := ⟨_, rfl⟩
       replace H : (if 0 ≤ t729 then (if t729 < (t707.length : Int) then (if t729 < (y734.length : Int) then (if t729 < (t716.length : Int) then (if ((rd_T43 t716 t729).f2).toList = t714.toList then ((laws_lpRows.f kj4 (y734.set (t729 : Int).toNat (⟨(rd_T43 y734 t729).f0, (rd_T43 y734 t729).f1, (rd_T43 t707 t729).f2⟩ : S43)) t707).bind fun t740 => (some t740)) else (none)) else (none)) else (none)) else (none)) else (none)) = some r := by first | (rw [hy734]; with_reducible exact H) | (have H2_ := (Option.bind_some _ _).symm.trans H; rw [hy734]; with_reducible exact H2_) | (have H2_ := (Option.bind_some _ _).symm.trans H; with_reducible exact H2_) | with_reducible exact H | (rw [hy734]; exact H) | exact H
       have Ny734 := Aside0.mk hy734
       clear hy734
       by_cases c51 : 0 ≤ t729
       ·rw [if_pos c51] at H
        have c51b0 : decide (0 ≤ t729) = true := decide_eq_true c51
        clear c51
        by_cases c52 : t729 < (t707.length : Int)
        ·rw [if_pos c52] at H
         have c52b0 : decide (t729 < (t707.length : Int)) = true := decide_eq_true c52
         clear c52
         by_cases c53 : t729 < (y734.length : Int)
         ·rw [if_pos c53] at H
          have c53b0 : decide (t729 < (y734.length : Int)) = true := decide_eq_true c53
          clear c53
          obtain ⟨y738, hy738⟩ : ∃ y_ : List (S43), y_ = (y734.set (t729 : Int).toNat (⟨(rd_T43 y734 t729).f0, (rd_T43 y734 t729).f1, (rd_T43 t707 t729).f2⟩ : S43)) := ⟨_, rfl⟩
          replace H : (if t729 < (t716.length : Int) then (if ((rd_T43 t716 t729).f2).toList = t714.toList then ((laws_lpRows.f kj4 y738 t707).bind fun t740 => (some t740)) else (none)) else (none)) = some r := by first | (rw [hy738]; with_reducible exact H) | (have H2_ := (Option.bind_some _ _).symm.trans H; rw [hy738]; with_reducible exact H2_) | (have H2_ := (Option.bind_some _ _).symm.trans H; with_reducible exact H2_) | with_reducible exact H | (rw [hy738]; exact H) | exact H
          have Ny738 := Aside0.mk hy738
          clear hy738
          by_cases c55 : t729 < (t716.length : Int)
          ·rw [if_pos c55] at H
           have c55b0 : decide (t729 < (t716.length : Int)) = true := decide_eq_true c55
           clear c55
           by_cases c56 : ((rd_T43 t716 t729).f2).toList = t714.toList
           ·rw [if_pos c56] at H
            have c56b0 : (((rd_T43 t716 t729).f2).toList == t714.toList) = true := beq_iff_eq.mpr c56
            have c56b1 : (((rd_T43 t716 t729).f2).toList != t714.toList) = false := bne_eq_false_iff_eq.mpr c56
            clear c56
            replace H := Option.bind_eq_some_iff.mp H
            obtain ⟨t740, A570, H⟩ := H
            try dsimp only at H
            have A57 := Aside0.mk A570
            clear A570
            obtain rfl := Option.some.inj H
            have hcz58_0 : wc.cell? ⟨gb715, 0, none⟩ = some (.int .i64 t710) := (blk_cell BK715.out 0).trans rfl
            have hcz58_1 : wc.cell? ⟨gb715, 1, none⟩ = some (.int .i64 t711) := (blk_cell BK715.out 1).trans rfl
            have hcz58_2 : wc.cell? ⟨gb715, 2, none⟩ = some (.int .i64 t712) := (blk_cell BK715.out 2).trans rfl
            have hcz58_3 : wc.cell? ⟨gb715, 3, none⟩ = some (.int .i64 t713) := (blk_cell BK715.out 3).trans rfl
            have hcz58_4 : wc.cell? ⟨gb715, 4, none⟩ = some (.string t714) := (blk_cell BK715.out 4).trans rfl
            have hfz58_0 := blk_frozen BK715.out 0
            have hfz58_1 := blk_frozen BK715.out 1
            have hfz58_2 := blk_frozen BK715.out 2
            have hfz58_3 := blk_frozen BK715.out 3
            have hfz58_4 := blk_frozen BK715.out 4
            go_wp2_with (first | (go_at_call 29; (with_reducible refine (laws_lpAt.calls kj4 _ _ t707 t711 t729 _ ?side1 ?side2 A45.out).mono ?_); (case side1 => exact cx_ (Kd.Q_reads' HO_3.out).2.2); (case side2 => exact (Kd.Q_reads' HO_3.out).2.1); rintro e w' ⟨rfl, ⟨nd, rfl⟩⟩; (try first | exact ⟨rfl, _, World.drewN_drewN _ _ _⟩ | exact ⟨rfl, _, Eq.trans (World.drewN_drewN _ _ _) (congrArg (World.drewN _) (Nat.add_assoc _ _ _))⟩)) | ((with_reducible refine gate_dst (N := 54) rfl ?_); refine Kd.R_lit k43 _ 43 ?hg (N := 54) ?hd (xs := ([] : List (S43))) (inner := []) (ok := fun _ => True) (okp := fun _ => True) ?hr ?hp (fun _ hk => hk) trivial (Below.refl _ _) (Nat.le_refl _) (by simp) ?_; (case hd => rfl); (case hg => rfl); (case hr => first | (go_simp; done) | (go_simp; rfl)); (case hp => exact (Reps.none _ _)); intro v732 w59 ho60 hb hg_ hnew_; clear hg_ hnew_; (first | rw [← Ny731.out] at ho60 | (simp only [Int.reduceToNat] at ho60; rw [← Ny731.out] at ho60)); have HO733 := Aside0.mk (Kd.R_lower (Kd.R_new' (Kd.R_new' ho60 (Kd.Q_lt (qp_ HO_3.out))) (Kd.R_lt (rp_ HO_5.out))) (below_size (bel_))); replace HO_3 := Aside0.mk (Kd.Q_elder' (qp_ HO_3.out) (Kd.R_base ho60) hb); replace HO_5 := Aside0.mk (Kd.R_elder' (rp_ HO_5.out) (Kd.R_base ho60) hb); replace HB := Aside0.mk (below_step (bel_) hb); replace BK715 := Aside0.mk (bb_ BK715.out hb); clear hb ho60; obtain ⟨Ao62, co62, eo62⟩ := Kd.R_slice HO_5.out; subst eo62) | ((with_reducible refine gate_builtin (b := .append) (xs := #[.tmp 54, .tmp 55]) rfl ?_); at_builtin; refine Kd.R_append_rows k43 (w0 := w) w.heap.size rfl (.tmp 54) (.tmp 55) 27 43 (.agg #[(.int .i64 0), (.int .i64 0), (.string ⟨#[]⟩)]) 32 rfl Tryd.underlying27 info43 rfl (by decide) (by omega) v732 y731 t716 _ _ _ (fun k_ => some k_ ≠ (.slice Ao9 t707.length co9 : Value).ownBlock ∧ some k_ ≠ (.slice Ao62 t716.length co62 : Value).ownBlock) (fun _ => False) rfl rfl ?aO ?aR (fun _ _ h => h) (fun _ h => h.elim) ?aF ?aB ?aS ?aL ?_; (case aR => exact cx_ (Kd.R_reads' HO_5.out).2.2); (case aB => exact (bel_)); (case aF => exact (fun k_ hk => ⟨Kd.fresh' (Kd.Q_lt (qp_ HO_3.out)) k_ hk, Kd.fresh' (Kd.R_lt (rp_ HO_5.out)) k_ hk⟩)); (case aO => exact (by (with_reducible repeat (first | apply Kd.R_alloc | apply Kd.R_drewN | apply Kd.R_drew)); exact Kd.R_mono HO733.out (fun _ hk => ⟨hk.1.2, hk.2⟩))); (case aS => exact (below_size (bel_))); (case aL => have := LMc50.out; omega); intro v735 w61 ho hb hg hat; rw [← Ny734.out] at ho; replace HO_3 := Aside0.mk (Kd.Q_after (ok := (fun k_ => some k_ ≠ (.slice Ao62 t716.length co62 : Value).ownBlock)) (qp_ HO_3.out) hg hat); replace HO_5 := Aside0.mk (Kd.R_after (ok := (fun k_ => some k_ ≠ (.slice Ao9 t707.length co9 : Value).ownBlock)) (rp_ HO_5.out) hg hat); replace BK715 := Aside0.mk (blk_grown (g := gb715) (o := .cells #[.int .i64 t710, .int .i64 t711, .int .i64 t712, .int .i64 t713, .string t714] 30 (0, 0)) (bp_ BK715.out) hg (Kd.R_ne HO733.out BK715.out (by decide))); replace HB := Aside0.mk (hb); have HO736 := Aside0.mk (ho); clear HO733; clear ho hb hg hat; have p737 : 0 ≤ (t729 : Int) := od_; have q737 : t729 < (t707.length : Int) := od_; obtain ⟨ad737, e737, hx737_0, hx737_1, hx737_2⟩ := at_T43 (Kd.Q_reads' HO_3.out).2.2 t729 p737 q737; cases e737; replace p737 := eq_true p737; replace q737 := eq_true q737; have p54 : 0 ≤ (t729 : Int) := od_; have q54 : (t729 : Int) < ((y734.length : Int) : Int) := od_; obtain ⟨go54, co54, eo54, gb54, gl54, cl54, HG54⟩ := Kd.R_form HO736.out (by omega); (first | cases eo54 | (injection eo54 with ea_ en_ ec_; (first | subst ea_ | (injection ea_ with ea_; subst ea_)); subst ec_; clear en_)); have GB54 := Aside0.mk gb54; have GG54 := Aside0.mk HG54; clear gb54 gl54 HG54; obtain ⟨ce54, hcl54, hM54, hcc54, hfr54⟩ := Kd.R_elem HO736.out z43 (t729 : Int) p54 q54; obtain rfl := k43_openM hM54; have hx54_0 : w61.cell? ⟨go54, (t729 : Int).toNat * 3, none⟩ = some (.int .i64 ((rd_T43 y734 t729).f0)) := hcc54 0 _ rfl; have hx54_1 : w61.cell? ⟨go54, (t729 : Int).toNat * 3 + 1, none⟩ = some (.int .i64 ((rd_T43 y734 t729).f1)) := hcc54 1 _ rfl; have hx54_2 : w61.cell? ⟨go54, (t729 : Int).toNat * 3 + 2, none⟩ = some (.string ((rd_T43 y734 t729).f2)) := hcc54 2 _ rfl; have hf54_0 : w61.frozen? ⟨go54, (t729 : Int).toNat * 3, none⟩ = false := hfr54 0; have hf54_1 : w61.frozen? ⟨go54, (t729 : Int).toNat * 3 + 1, none⟩ = false := hfr54 1; have hf54_2 : w61.frozen? ⟨go54, (t729 : Int).toNat * 3 + 2, none⟩ = false := hfr54 2; clear hcl54 hcc54 hfr54 hM54; replace p54 := eq_true p54; replace q54 := eq_true q54; have HX63 := Aside0.mk (show Kd.R k43 43 w61 w.heap.size (fun k_ => some k_ ≠ (.slice (some ad737) t707.length co9 : Value).ownBlock ∧ some k_ ≠ (.slice Ao62 t716.length co62 : Value).ownBlock) (.slice (some ⟨go54, 0, none⟩) y734.length co54) y734 from (rp_ HO736.out)); obtain ⟨ce63, hcl63, hM63, hcc63, hfr63⟩ := Kd.R_elem HX63.out z43 (t729 : Int) (od_) (by have h_ : (t729 : Int) < ((y734.length : Int) : Int) := od_; first | exact h_ | (have e_ := (Kd.R_reads' HO736.out).1; omega) | simpa using h_); obtain rfl := k43_openM hM63; have HP63 := Kd.R_seg HX63.out (t729 : Int) (od_) (by have h_ : (t729 : Int) < ((y734.length : Int) : Int) := od_; first | exact h_ | (have e_ := (Kd.R_reads' HO736.out).1; omega) | simpa using h_) (seg := [.string ((rd_T43 t707 t729).f2)]) (j := 2) hcl63 hcc63 (show 3 ≤ 3 from by decide) (x' := (⟨(rd_T43 y734 t729).f0, (rd_T43 y734 t729).f1, (rd_T43 t707 t729).f2⟩ : S43)) (k43_mkM _ _ _ (⟨(rd_T43 y734 t729).f0, (rd_T43 y734 t729).f1, (rd_T43 t707 t729).f2⟩ : S43) ) (fun _ hk => hk); have hx63_2 := hcc63 2 _ rfl; (try simp only [show (k43).sz = 3 from rfl, Nat.mul_one, Nat.add_zero] at hx63_2); have hf63_2 := hfr63 2; (try simp only [show (k43).sz = 3 from rfl, Nat.mul_one, Nat.add_zero] at hf63_2); clear hcl63 hcc63 hfr63 hM63) | ((with_reducible refine gate_store (t := 9) (p := 65) rfl ?_); (try (rw [drewN_self w61]; generalize hq_ : World.drewN w61 _ = w61; have n0_ := Aside0.mk (Kd.Q_at hq_ HO_3.out); have n1_ := Aside0.mk (Kd.R_at hq_ HO_5.out); have n2_ := Aside0.mk (Kd.R_at hq_ HO736.out); have n3_ := Aside0.mk (blk_at hq_ BK715.out); have n4_ := Aside0.mk (below_at hq_ HB.out); clear hq_ HO_3 HO_5 HO736 BK715 HB; have HO_3 := n0_; have HO_5 := n1_; have HO736 := n2_; have BK715 := n3_; have HB := n4_; clear n0_ n1_ n2_ n3_ n4_; (try (have HX63 := Aside0.mk (show Kd.R k43 43 w61 w.heap.size (fun k_ => some k_ ≠ (.slice (some ad737) t707.length co9 : Value).ownBlock ∧ some k_ ≠ (.slice Ao62 t716.length co62 : Value).ownBlock) (.slice (some ⟨go54, 0, none⟩) y734.length co54) y734 from (rp_ HO736.out)))); (try (obtain ⟨ce63, hcl63, hM63, hcc63, hfr63⟩ := Kd.R_elem HX63.out z43 (t729 : Int) (od_) (by have h_ : (t729 : Int) < ((y734.length : Int) : Int) := od_; first | exact h_ | (have e_ := (Kd.R_reads' HO736.out).1; omega) | simpa using h_))); (try (obtain rfl := k43_openM hM63)); (try (have HP63 := Kd.R_seg HX63.out (t729 : Int) (od_) (by have h_ : (t729 : Int) < ((y734.length : Int) : Int) := od_; first | exact h_ | (have e_ := (Kd.R_reads' HO736.out).1; omega) | simpa using h_) (seg := [.string ((rd_T43 t707 t729).f2)]) (j := 2) hcl63 hcc63 (show 3 ≤ 3 from by decide) (x' := (⟨(rd_T43 y734 t729).f0, (rd_T43 y734 t729).f1, (rd_T43 t707 t729).f2⟩ : S43)) (k43_mkM _ _ _ (⟨(rd_T43 y734 t729).f0, (rd_T43 y734 t729).f1, (rd_T43 t707 t729).f2⟩ : S43) ) (fun _ hk => hk))); (try (have hx63_2 := hcc63 2 _ rfl)); (try (try simp only [show (k43).sz = 3 from rfl, Nat.mul_one, Nat.add_zero] at hx63_2)); (try (have hf63_2 := hfr63 2)); (try (try simp only [show (k43).sz = 3 from rfl, Nat.mul_one, Nat.add_zero] at hf63_2)); (try (clear hcl63 hcc63 hfr63 hM63)))); refine store_event (t := 9) (p := 65) (v := ?vo_w64) (w1 := (w61.setCell ⟨go54, (t729 : Int).toNat * 3 + 2, none⟩ (.string ((rd_T43 t707 t729).f2)))) ?hg ?ho ?hn ?hr ?_; (case ho => rfl); (case hg => rfl); (case hn => rfl); (case hr => first | (go_simp; done) | (go_simp; rfl)); intro w64 hw; have hg : w61.grownBy w64 (some go54) := (by rw [hw]; exact HP63.2); have hp_ : Kd.R k43 43 w64 w.heap.size (fun k_ => some k_ ≠ (.slice (some ad737) t707.length co9 : Value).ownBlock ∧ some k_ ≠ (.slice Ao62 t716.length co62 : Value).ownBlock) (.slice (some ⟨go54, 0, none⟩) y734.length co54) y738 := (by rw [hw, Ny738.out]; exact HP63.1); clear HP63; have n0_ := Aside0.mk (Kd.Q_after (v := (.slice (some ⟨go54, 0, none⟩) y734.length co54)) (v1 := (.slice (some ⟨go54, 0, none⟩) y734.length co54)) (ok := (fun k_ => some k_ ≠ (.slice Ao62 t716.length co62 : Value).ownBlock)) (qp_ HO_3.out) hg (.inl rfl)); have n1_ := Aside0.mk (Kd.R_after (v := (.slice (some ⟨go54, 0, none⟩) y734.length co54)) (v1 := (.slice (some ⟨go54, 0, none⟩) y734.length co54)) (ok := (fun k_ => some k_ ≠ (.slice (some ad737) t707.length co9 : Value).ownBlock)) (rp_ HO_5.out) hg (.inl rfl)); have n2_ := Aside0.mk (blk_grown (g := gb715) (o := .cells #[.int .i64 t710, .int .i64 t711, .int .i64 t712, .int .i64 t713, .string t714] 30 (0, 0)) (bp_ BK715.out) hg (Kd.R_ne HO736.out BK715.out (by decide))); have n3_ := Aside0.mk (hp_); have n4_ := Aside0.mk ((by rw [hw]; exact below_set (HB.out) GB54.out : Below w.heap.size w w64)); clear HO_3; clear HO_5; clear BK715; clear HO736; clear HB; have HO_3 := n0_; have HO_5 := n1_; have BK715 := n2_; have HO736 := n3_; have HB := n4_; clear n0_ n1_ n2_ n3_ n4_; clear hg hw hp_; have p739 : 0 ≤ (t729 : Int) := od_; have q739 : t729 < (t716.length : Int) := od_; obtain ⟨ad739, e739, hx739_0, hx739_1, hx739_2⟩ := at_T43 (Kd.R_reads' HO_5.out).2.2 t729 p739 q739; cases e739; replace p739 := eq_true p739; replace q739 := eq_true q739; have hcz65_0 := cz_ BK715.out 0 (.int .i64 t710); have hcz65_1 := cz_ BK715.out 1 (.int .i64 t711); have hcz65_2 := cz_ BK715.out 2 (.int .i64 t712); have hcz65_3 := cz_ BK715.out 3 (.int .i64 t713); have hcz65_4 := cz_ BK715.out 4 (.string t714); have hfz65_0 := blk_frozen BK715.out 0; have hfz65_1 := blk_frozen BK715.out 1; have hfz65_2 := blk_frozen BK715.out 2; have hfz65_3 := blk_frozen BK715.out 3; have hfz65_4 := blk_frozen BK715.out 4) | (go_at_call 25; refine calls_of_args (args' := #[.slice (some ⟨go54, 0, none⟩) y738.length co54, .slice (some ad737) t707.length co9]) (by first | (rw [show y738.length = y734.length from (Kd.R_reads' HO736.out).1.symm] <;> rfl) | rfl) ?_; (with_reducible refine (laws_lpRows.calls kj4 _ _ y738 _ _ t707 t740 _ ?side1 ?side2 ?side3 ?side4 A57.out).mono ?_); (case side1 => exact cx_ (Kd.R_reads' HO736.out).2.2); (case side2 => rw [show y738.length = y734.length from (Kd.R_reads' HO736.out).1.symm]; exact (Kd.R_reads' HO736.out).2.1); (case side3 => exact cx_ (Kd.Q_reads' HO_3.out).2.2); (case side4 => exact (Kd.Q_reads' HO_3.out).2.1); rintro e w' ⟨rfl, ⟨nd, rfl⟩⟩; (try first | exact ⟨rfl, _, World.drewN_drewN _ _ _⟩ | exact ⟨rfl, _, Eq.trans (World.drewN_drewN _ _ _) (congrArg (World.drewN _) (Nat.add_assoc _ _ _))⟩)))
            repeat (go_quiet (first | (go_at_call 29; (with_reducible refine (laws_lpAt.calls kj4 _ _ t707 t711 t729 _ ?side1 ?side2 A45.out).mono ?_); (case side1 => exact cx_ (Kd.Q_reads' HO_3.out).2.2); (case side2 => exact (Kd.Q_reads' HO_3.out).2.1); rintro e w' ⟨rfl, ⟨nd, rfl⟩⟩; (try first | exact ⟨rfl, _, World.drewN_drewN _ _ _⟩ | exact ⟨rfl, _, Eq.trans (World.drewN_drewN _ _ _) (congrArg (World.drewN _) (Nat.add_assoc _ _ _))⟩)) | ((with_reducible refine gate_dst (N := 54) rfl ?_); refine Kd.R_lit k43 _ 43 ?hg (N := 54) ?hd (xs := ([] : List (S43))) (inner := []) (ok := fun _ => True) (okp := fun _ => True) ?hr ?hp (fun _ hk => hk) trivial (Below.refl _ _) (Nat.le_refl _) (by simp) ?_; (case hd => rfl); (case hg => rfl); (case hr => first | (go_simp; done) | (go_simp; rfl)); (case hp => exact (Reps.none _ _)); intro v732 w59 ho60 hb hg_ hnew_; clear hg_ hnew_; (first | rw [← Ny731.out] at ho60 | (simp only [Int.reduceToNat] at ho60; rw [← Ny731.out] at ho60)); have HO733 := Aside0.mk (Kd.R_lower (Kd.R_new' (Kd.R_new' ho60 (Kd.Q_lt (qp_ HO_3.out))) (Kd.R_lt (rp_ HO_5.out))) (below_size (bel_))); replace HO_3 := Aside0.mk (Kd.Q_elder' (qp_ HO_3.out) (Kd.R_base ho60) hb); replace HO_5 := Aside0.mk (Kd.R_elder' (rp_ HO_5.out) (Kd.R_base ho60) hb); replace HB := Aside0.mk (below_step (bel_) hb); replace BK715 := Aside0.mk (bb_ BK715.out hb); clear hb ho60; obtain ⟨Ao62, co62, eo62⟩ := Kd.R_slice HO_5.out; subst eo62) | ((with_reducible refine gate_builtin (b := .append) (xs := #[.tmp 54, .tmp 55]) rfl ?_); at_builtin; refine Kd.R_append_rows k43 (w0 := w) w.heap.size rfl (.tmp 54) (.tmp 55) 27 43 (.agg #[(.int .i64 0), (.int .i64 0), (.string ⟨#[]⟩)]) 32 rfl Tryd.underlying27 info43 rfl (by decide) (by omega) v732 y731 t716 _ _ _ (fun k_ => some k_ ≠ (.slice Ao9 t707.length co9 : Value).ownBlock ∧ some k_ ≠ (.slice Ao62 t716.length co62 : Value).ownBlock) (fun _ => False) rfl rfl ?aO ?aR (fun _ _ h => h) (fun _ h => h.elim) ?aF ?aB ?aS ?aL ?_; (case aR => exact cx_ (Kd.R_reads' HO_5.out).2.2); (case aB => exact (bel_)); (case aF => exact (fun k_ hk => ⟨Kd.fresh' (Kd.Q_lt (qp_ HO_3.out)) k_ hk, Kd.fresh' (Kd.R_lt (rp_ HO_5.out)) k_ hk⟩)); (case aO => exact (by (with_reducible repeat (first | apply Kd.R_alloc | apply Kd.R_drewN | apply Kd.R_drew)); exact Kd.R_mono HO733.out (fun _ hk => ⟨hk.1.2, hk.2⟩))); (case aS => exact (below_size (bel_))); (case aL => have := LMc50.out; omega); intro v735 w61 ho hb hg hat; rw [← Ny734.out] at ho; replace HO_3 := Aside0.mk (Kd.Q_after (ok := (fun k_ => some k_ ≠ (.slice Ao62 t716.length co62 : Value).ownBlock)) (qp_ HO_3.out) hg hat); replace HO_5 := Aside0.mk (Kd.R_after (ok := (fun k_ => some k_ ≠ (.slice Ao9 t707.length co9 : Value).ownBlock)) (rp_ HO_5.out) hg hat); replace BK715 := Aside0.mk (blk_grown (g := gb715) (o := .cells #[.int .i64 t710, .int .i64 t711, .int .i64 t712, .int .i64 t713, .string t714] 30 (0, 0)) (bp_ BK715.out) hg (Kd.R_ne HO733.out BK715.out (by decide))); replace HB := Aside0.mk (hb); have HO736 := Aside0.mk (ho); clear HO733; clear ho hb hg hat; have p737 : 0 ≤ (t729 : Int) := od_; have q737 : t729 < (t707.length : Int) := od_; obtain ⟨ad737, e737, hx737_0, hx737_1, hx737_2⟩ := at_T43 (Kd.Q_reads' HO_3.out).2.2 t729 p737 q737; cases e737; replace p737 := eq_true p737; replace q737 := eq_true q737; have p54 : 0 ≤ (t729 : Int) := od_; have q54 : (t729 : Int) < ((y734.length : Int) : Int) := od_; obtain ⟨go54, co54, eo54, gb54, gl54, cl54, HG54⟩ := Kd.R_form HO736.out (by omega); (first | cases eo54 | (injection eo54 with ea_ en_ ec_; (first | subst ea_ | (injection ea_ with ea_; subst ea_)); subst ec_; clear en_)); have GB54 := Aside0.mk gb54; have GG54 := Aside0.mk HG54; clear gb54 gl54 HG54; obtain ⟨ce54, hcl54, hM54, hcc54, hfr54⟩ := Kd.R_elem HO736.out z43 (t729 : Int) p54 q54; obtain rfl := k43_openM hM54; have hx54_0 : w61.cell? ⟨go54, (t729 : Int).toNat * 3, none⟩ = some (.int .i64 ((rd_T43 y734 t729).f0)) := hcc54 0 _ rfl; have hx54_1 : w61.cell? ⟨go54, (t729 : Int).toNat * 3 + 1, none⟩ = some (.int .i64 ((rd_T43 y734 t729).f1)) := hcc54 1 _ rfl; have hx54_2 : w61.cell? ⟨go54, (t729 : Int).toNat * 3 + 2, none⟩ = some (.string ((rd_T43 y734 t729).f2)) := hcc54 2 _ rfl; have hf54_0 : w61.frozen? ⟨go54, (t729 : Int).toNat * 3, none⟩ = false := hfr54 0; have hf54_1 : w61.frozen? ⟨go54, (t729 : Int).toNat * 3 + 1, none⟩ = false := hfr54 1; have hf54_2 : w61.frozen? ⟨go54, (t729 : Int).toNat * 3 + 2, none⟩ = false := hfr54 2; clear hcl54 hcc54 hfr54 hM54; replace p54 := eq_true p54; replace q54 := eq_true q54; have HX63 := Aside0.mk (show Kd.R k43 43 w61 w.heap.size (fun k_ => some k_ ≠ (.slice (some ad737) t707.length co9 : Value).ownBlock ∧ some k_ ≠ (.slice Ao62 t716.length co62 : Value).ownBlock) (.slice (some ⟨go54, 0, none⟩) y734.length co54) y734 from (rp_ HO736.out)); obtain ⟨ce63, hcl63, hM63, hcc63, hfr63⟩ := Kd.R_elem HX63.out z43 (t729 : Int) (od_) (by have h_ : (t729 : Int) < ((y734.length : Int) : Int) := od_; first | exact h_ | (have e_ := (Kd.R_reads' HO736.out).1; omega) | simpa using h_); obtain rfl := k43_openM hM63; have HP63 := Kd.R_seg HX63.out (t729 : Int) (od_) (by have h_ : (t729 : Int) < ((y734.length : Int) : Int) := od_; first | exact h_ | (have e_ := (Kd.R_reads' HO736.out).1; omega) | simpa using h_) (seg := [.string ((rd_T43 t707 t729).f2)]) (j := 2) hcl63 hcc63 (show 3 ≤ 3 from by decide) (x' := (⟨(rd_T43 y734 t729).f0, (rd_T43 y734 t729).f1, (rd_T43 t707 t729).f2⟩ : S43)) (k43_mkM _ _ _ (⟨(rd_T43 y734 t729).f0, (rd_T43 y734 t729).f1, (rd_T43 t707 t729).f2⟩ : S43) ) (fun _ hk => hk); have hx63_2 := hcc63 2 _ rfl; (try simp only [show (k43).sz = 3 from rfl, Nat.mul_one, Nat.add_zero] at hx63_2); have hf63_2 := hfr63 2; (try simp only [show (k43).sz = 3 from rfl, Nat.mul_one, Nat.add_zero] at hf63_2); clear hcl63 hcc63 hfr63 hM63) | ((with_reducible refine gate_store (t := 9) (p := 65) rfl ?_); (try (rw [drewN_self w61]; generalize hq_ : World.drewN w61 _ = w61; have n0_ := Aside0.mk (Kd.Q_at hq_ HO_3.out); have n1_ := Aside0.mk (Kd.R_at hq_ HO_5.out); have n2_ := Aside0.mk (Kd.R_at hq_ HO736.out); have n3_ := Aside0.mk (blk_at hq_ BK715.out); have n4_ := Aside0.mk (below_at hq_ HB.out); clear hq_ HO_3 HO_5 HO736 BK715 HB; have HO_3 := n0_; have HO_5 := n1_; have HO736 := n2_; have BK715 := n3_; have HB := n4_; clear n0_ n1_ n2_ n3_ n4_; (try (have HX63 := Aside0.mk (show Kd.R k43 43 w61 w.heap.size (fun k_ => some k_ ≠ (.slice (some ad737) t707.length co9 : Value).ownBlock ∧ some k_ ≠ (.slice Ao62 t716.length co62 : Value).ownBlock) (.slice (some ⟨go54, 0, none⟩) y734.length co54) y734 from (rp_ HO736.out)))); (try (obtain ⟨ce63, hcl63, hM63, hcc63, hfr63⟩ := Kd.R_elem HX63.out z43 (t729 : Int) (od_) (by have h_ : (t729 : Int) < ((y734.length : Int) : Int) := od_; first | exact h_ | (have e_ := (Kd.R_reads' HO736.out).1; omega) | simpa using h_))); (try (obtain rfl := k43_openM hM63)); (try (have HP63 := Kd.R_seg HX63.out (t729 : Int) (od_) (by have h_ : (t729 : Int) < ((y734.length : Int) : Int) := od_; first | exact h_ | (have e_ := (Kd.R_reads' HO736.out).1; omega) | simpa using h_) (seg := [.string ((rd_T43 t707 t729).f2)]) (j := 2) hcl63 hcc63 (show 3 ≤ 3 from by decide) (x' := (⟨(rd_T43 y734 t729).f0, (rd_T43 y734 t729).f1, (rd_T43 t707 t729).f2⟩ : S43)) (k43_mkM _ _ _ (⟨(rd_T43 y734 t729).f0, (rd_T43 y734 t729).f1, (rd_T43 t707 t729).f2⟩ : S43) ) (fun _ hk => hk))); (try (have hx63_2 := hcc63 2 _ rfl)); (try (try simp only [show (k43).sz = 3 from rfl, Nat.mul_one, Nat.add_zero] at hx63_2)); (try (have hf63_2 := hfr63 2)); (try (try simp only [show (k43).sz = 3 from rfl, Nat.mul_one, Nat.add_zero] at hf63_2)); (try (clear hcl63 hcc63 hfr63 hM63)))); refine store_event (t := 9) (p := 65) (v := ?vo_w64) (w1 := (w61.setCell ⟨go54, (t729 : Int).toNat * 3 + 2, none⟩ (.string ((rd_T43 t707 t729).f2)))) ?hg ?ho ?hn ?hr ?_; (case ho => rfl); (case hg => rfl); (case hn => rfl); (case hr => first | (go_simp; done) | (go_simp; rfl)); intro w64 hw; have hg : w61.grownBy w64 (some go54) := (by rw [hw]; exact HP63.2); have hp_ : Kd.R k43 43 w64 w.heap.size (fun k_ => some k_ ≠ (.slice (some ad737) t707.length co9 : Value).ownBlock ∧ some k_ ≠ (.slice Ao62 t716.length co62 : Value).ownBlock) (.slice (some ⟨go54, 0, none⟩) y734.length co54) y738 := (by rw [hw, Ny738.out]; exact HP63.1); clear HP63; have n0_ := Aside0.mk (Kd.Q_after (v := (.slice (some ⟨go54, 0, none⟩) y734.length co54)) (v1 := (.slice (some ⟨go54, 0, none⟩) y734.length co54)) (ok := (fun k_ => some k_ ≠ (.slice Ao62 t716.length co62 : Value).ownBlock)) (qp_ HO_3.out) hg (.inl rfl)); have n1_ := Aside0.mk (Kd.R_after (v := (.slice (some ⟨go54, 0, none⟩) y734.length co54)) (v1 := (.slice (some ⟨go54, 0, none⟩) y734.length co54)) (ok := (fun k_ => some k_ ≠ (.slice (some ad737) t707.length co9 : Value).ownBlock)) (rp_ HO_5.out) hg (.inl rfl)); have n2_ := Aside0.mk (blk_grown (g := gb715) (o := .cells #[.int .i64 t710, .int .i64 t711, .int .i64 t712, .int .i64 t713, .string t714] 30 (0, 0)) (bp_ BK715.out) hg (Kd.R_ne HO736.out BK715.out (by decide))); have n3_ := Aside0.mk (hp_); have n4_ := Aside0.mk ((by rw [hw]; exact below_set (HB.out) GB54.out : Below w.heap.size w w64)); clear HO_3; clear HO_5; clear BK715; clear HO736; clear HB; have HO_3 := n0_; have HO_5 := n1_; have BK715 := n2_; have HO736 := n3_; have HB := n4_; clear n0_ n1_ n2_ n3_ n4_; clear hg hw hp_; have p739 : 0 ≤ (t729 : Int) := od_; have q739 : t729 < (t716.length : Int) := od_; obtain ⟨ad739, e739, hx739_0, hx739_1, hx739_2⟩ := at_T43 (Kd.R_reads' HO_5.out).2.2 t729 p739 q739; cases e739; replace p739 := eq_true p739; replace q739 := eq_true q739; have hcz65_0 := cz_ BK715.out 0 (.int .i64 t710); have hcz65_1 := cz_ BK715.out 1 (.int .i64 t711); have hcz65_2 := cz_ BK715.out 2 (.int .i64 t712); have hcz65_3 := cz_ BK715.out 3 (.int .i64 t713); have hcz65_4 := cz_ BK715.out 4 (.string t714); have hfz65_0 := blk_frozen BK715.out 0; have hfz65_1 := blk_frozen BK715.out 1; have hfz65_2 := blk_frozen BK715.out 2; have hfz65_3 := blk_frozen BK715.out 3; have hfz65_4 := blk_frozen BK715.out 4) | (go_at_call 25; refine calls_of_args (args' := #[.slice (some ⟨go54, 0, none⟩) y738.length co54, .slice (some ad737) t707.length co9]) (by first | (rw [show y738.length = y734.length from (Kd.R_reads' HO736.out).1.symm] <;> rfl) | rfl) ?_; (with_reducible refine (laws_lpRows.calls kj4 _ _ y738 _ _ t707 t740 _ ?side1 ?side2 ?side3 ?side4 A57.out).mono ?_); (case side1 => exact cx_ (Kd.R_reads' HO736.out).2.2); (case side2 => rw [show y738.length = y734.length from (Kd.R_reads' HO736.out).1.symm]; exact (Kd.R_reads' HO736.out).2.1); (case side3 => exact cx_ (Kd.Q_reads' HO_3.out).2.2); (case side4 => exact (Kd.Q_reads' HO_3.out).2.1); rintro e w' ⟨rfl, ⟨nd, rfl⟩⟩; (try first | exact ⟨rfl, _, World.drewN_drewN _ _ _⟩ | exact ⟨rfl, _, Eq.trans (World.drewN_drewN _ _ _) (congrArg (World.drewN _) (Nat.add_assoc _ _ _))⟩))); try go_wp2_with (first | (go_at_call 29; (with_reducible refine (laws_lpAt.calls kj4 _ _ t707 t711 t729 _ ?side1 ?side2 A45.out).mono ?_); (case side1 => exact cx_ (Kd.Q_reads' HO_3.out).2.2); (case side2 => exact (Kd.Q_reads' HO_3.out).2.1); rintro e w' ⟨rfl, ⟨nd, rfl⟩⟩; (try first | exact ⟨rfl, _, World.drewN_drewN _ _ _⟩ | exact ⟨rfl, _, Eq.trans (World.drewN_drewN _ _ _) (congrArg (World.drewN _) (Nat.add_assoc _ _ _))⟩)) | ((with_reducible refine gate_dst (N := 54) rfl ?_); refine Kd.R_lit k43 _ 43 ?hg (N := 54) ?hd (xs := ([] : List (S43))) (inner := []) (ok := fun _ => True) (okp := fun _ => True) ?hr ?hp (fun _ hk => hk) trivial (Below.refl _ _) (Nat.le_refl _) (by simp) ?_; (case hd => rfl); (case hg => rfl); (case hr => first | (go_simp; done) | (go_simp; rfl)); (case hp => exact (Reps.none _ _)); intro v732 w59 ho60 hb hg_ hnew_; clear hg_ hnew_; (first | rw [← Ny731.out] at ho60 | (simp only [Int.reduceToNat] at ho60; rw [← Ny731.out] at ho60)); have HO733 := Aside0.mk (Kd.R_lower (Kd.R_new' (Kd.R_new' ho60 (Kd.Q_lt (qp_ HO_3.out))) (Kd.R_lt (rp_ HO_5.out))) (below_size (bel_))); replace HO_3 := Aside0.mk (Kd.Q_elder' (qp_ HO_3.out) (Kd.R_base ho60) hb); replace HO_5 := Aside0.mk (Kd.R_elder' (rp_ HO_5.out) (Kd.R_base ho60) hb); replace HB := Aside0.mk (below_step (bel_) hb); replace BK715 := Aside0.mk (bb_ BK715.out hb); clear hb ho60; obtain ⟨Ao62, co62, eo62⟩ := Kd.R_slice HO_5.out; subst eo62) | ((with_reducible refine gate_builtin (b := .append) (xs := #[.tmp 54, .tmp 55]) rfl ?_); at_builtin; refine Kd.R_append_rows k43 (w0 := w) w.heap.size rfl (.tmp 54) (.tmp 55) 27 43 (.agg #[(.int .i64 0), (.int .i64 0), (.string ⟨#[]⟩)]) 32 rfl Tryd.underlying27 info43 rfl (by decide) (by omega) v732 y731 t716 _ _ _ (fun k_ => some k_ ≠ (.slice Ao9 t707.length co9 : Value).ownBlock ∧ some k_ ≠ (.slice Ao62 t716.length co62 : Value).ownBlock) (fun _ => False) rfl rfl ?aO ?aR (fun _ _ h => h) (fun _ h => h.elim) ?aF ?aB ?aS ?aL ?_; (case aR => exact cx_ (Kd.R_reads' HO_5.out).2.2); (case aB => exact (bel_)); (case aF => exact (fun k_ hk => ⟨Kd.fresh' (Kd.Q_lt (qp_ HO_3.out)) k_ hk, Kd.fresh' (Kd.R_lt (rp_ HO_5.out)) k_ hk⟩)); (case aO => exact (by (with_reducible repeat (first | apply Kd.R_alloc | apply Kd.R_drewN | apply Kd.R_drew)); exact Kd.R_mono HO733.out (fun _ hk => ⟨hk.1.2, hk.2⟩))); (case aS => exact (below_size (bel_))); (case aL => have := LMc50.out; omega); intro v735 w61 ho hb hg hat; rw [← Ny734.out] at ho; replace HO_3 := Aside0.mk (Kd.Q_after (ok := (fun k_ => some k_ ≠ (.slice Ao62 t716.length co62 : Value).ownBlock)) (qp_ HO_3.out) hg hat); replace HO_5 := Aside0.mk (Kd.R_after (ok := (fun k_ => some k_ ≠ (.slice Ao9 t707.length co9 : Value).ownBlock)) (rp_ HO_5.out) hg hat); replace BK715 := Aside0.mk (blk_grown (g := gb715) (o := .cells #[.int .i64 t710, .int .i64 t711, .int .i64 t712, .int .i64 t713, .string t714] 30 (0, 0)) (bp_ BK715.out) hg (Kd.R_ne HO733.out BK715.out (by decide))); replace HB := Aside0.mk (hb); have HO736 := Aside0.mk (ho); clear HO733; clear ho hb hg hat; have p737 : 0 ≤ (t729 : Int) := od_; have q737 : t729 < (t707.length : Int) := od_; obtain ⟨ad737, e737, hx737_0, hx737_1, hx737_2⟩ := at_T43 (Kd.Q_reads' HO_3.out).2.2 t729 p737 q737; cases e737; replace p737 := eq_true p737; replace q737 := eq_true q737; have p54 : 0 ≤ (t729 : Int) := od_; have q54 : (t729 : Int) < ((y734.length : Int) : Int) := od_; obtain ⟨go54, co54, eo54, gb54, gl54, cl54, HG54⟩ := Kd.R_form HO736.out (by omega); (first | cases eo54 | (injection eo54 with ea_ en_ ec_; (first | subst ea_ | (injection ea_ with ea_; subst ea_)); subst ec_; clear en_)); have GB54 := Aside0.mk gb54; have GG54 := Aside0.mk HG54; clear gb54 gl54 HG54; obtain ⟨ce54, hcl54, hM54, hcc54, hfr54⟩ := Kd.R_elem HO736.out z43 (t729 : Int) p54 q54; obtain rfl := k43_openM hM54; have hx54_0 : w61.cell? ⟨go54, (t729 : Int).toNat * 3, none⟩ = some (.int .i64 ((rd_T43 y734 t729).f0)) := hcc54 0 _ rfl; have hx54_1 : w61.cell? ⟨go54, (t729 : Int).toNat * 3 + 1, none⟩ = some (.int .i64 ((rd_T43 y734 t729).f1)) := hcc54 1 _ rfl; have hx54_2 : w61.cell? ⟨go54, (t729 : Int).toNat * 3 + 2, none⟩ = some (.string ((rd_T43 y734 t729).f2)) := hcc54 2 _ rfl; have hf54_0 : w61.frozen? ⟨go54, (t729 : Int).toNat * 3, none⟩ = false := hfr54 0; have hf54_1 : w61.frozen? ⟨go54, (t729 : Int).toNat * 3 + 1, none⟩ = false := hfr54 1; have hf54_2 : w61.frozen? ⟨go54, (t729 : Int).toNat * 3 + 2, none⟩ = false := hfr54 2; clear hcl54 hcc54 hfr54 hM54; replace p54 := eq_true p54; replace q54 := eq_true q54; have HX63 := Aside0.mk (show Kd.R k43 43 w61 w.heap.size (fun k_ => some k_ ≠ (.slice (some ad737) t707.length co9 : Value).ownBlock ∧ some k_ ≠ (.slice Ao62 t716.length co62 : Value).ownBlock) (.slice (some ⟨go54, 0, none⟩) y734.length co54) y734 from (rp_ HO736.out)); obtain ⟨ce63, hcl63, hM63, hcc63, hfr63⟩ := Kd.R_elem HX63.out z43 (t729 : Int) (od_) (by have h_ : (t729 : Int) < ((y734.length : Int) : Int) := od_; first | exact h_ | (have e_ := (Kd.R_reads' HO736.out).1; omega) | simpa using h_); obtain rfl := k43_openM hM63; have HP63 := Kd.R_seg HX63.out (t729 : Int) (od_) (by have h_ : (t729 : Int) < ((y734.length : Int) : Int) := od_; first | exact h_ | (have e_ := (Kd.R_reads' HO736.out).1; omega) | simpa using h_) (seg := [.string ((rd_T43 t707 t729).f2)]) (j := 2) hcl63 hcc63 (show 3 ≤ 3 from by decide) (x' := (⟨(rd_T43 y734 t729).f0, (rd_T43 y734 t729).f1, (rd_T43 t707 t729).f2⟩ : S43)) (k43_mkM _ _ _ (⟨(rd_T43 y734 t729).f0, (rd_T43 y734 t729).f1, (rd_T43 t707 t729).f2⟩ : S43) ) (fun _ hk => hk); have hx63_2 := hcc63 2 _ rfl; (try simp only [show (k43).sz = 3 from rfl, Nat.mul_one, Nat.add_zero] at hx63_2); have hf63_2 := hfr63 2; (try simp only [show (k43).sz = 3 from rfl, Nat.mul_one, Nat.add_zero] at hf63_2); clear hcl63 hcc63 hfr63 hM63) | ((with_reducible refine gate_store (t := 9) (p := 65) rfl ?_); (try (rw [drewN_self w61]; generalize hq_ : World.drewN w61 _ = w61; have n0_ := Aside0.mk (Kd.Q_at hq_ HO_3.out); have n1_ := Aside0.mk (Kd.R_at hq_ HO_5.out); have n2_ := Aside0.mk (Kd.R_at hq_ HO736.out); have n3_ := Aside0.mk (blk_at hq_ BK715.out); have n4_ := Aside0.mk (below_at hq_ HB.out); clear hq_ HO_3 HO_5 HO736 BK715 HB; have HO_3 := n0_; have HO_5 := n1_; have HO736 := n2_; have BK715 := n3_; have HB := n4_; clear n0_ n1_ n2_ n3_ n4_; (try (have HX63 := Aside0.mk (show Kd.R k43 43 w61 w.heap.size (fun k_ => some k_ ≠ (.slice (some ad737) t707.length co9 : Value).ownBlock ∧ some k_ ≠ (.slice Ao62 t716.length co62 : Value).ownBlock) (.slice (some ⟨go54, 0, none⟩) y734.length co54) y734 from (rp_ HO736.out)))); (try (obtain ⟨ce63, hcl63, hM63, hcc63, hfr63⟩ := Kd.R_elem HX63.out z43 (t729 : Int) (od_) (by have h_ : (t729 : Int) < ((y734.length : Int) : Int) := od_; first | exact h_ | (have e_ := (Kd.R_reads' HO736.out).1; omega) | simpa using h_))); (try (obtain rfl := k43_openM hM63)); (try (have HP63 := Kd.R_seg HX63.out (t729 : Int) (od_) (by have h_ : (t729 : Int) < ((y734.length : Int) : Int) := od_; first | exact h_ | (have e_ := (Kd.R_reads' HO736.out).1; omega) | simpa using h_) (seg := [.string ((rd_T43 t707 t729).f2)]) (j := 2) hcl63 hcc63 (show 3 ≤ 3 from by decide) (x' := (⟨(rd_T43 y734 t729).f0, (rd_T43 y734 t729).f1, (rd_T43 t707 t729).f2⟩ : S43)) (k43_mkM _ _ _ (⟨(rd_T43 y734 t729).f0, (rd_T43 y734 t729).f1, (rd_T43 t707 t729).f2⟩ : S43) ) (fun _ hk => hk))); (try (have hx63_2 := hcc63 2 _ rfl)); (try (try simp only [show (k43).sz = 3 from rfl, Nat.mul_one, Nat.add_zero] at hx63_2)); (try (have hf63_2 := hfr63 2)); (try (try simp only [show (k43).sz = 3 from rfl, Nat.mul_one, Nat.add_zero] at hf63_2)); (try (clear hcl63 hcc63 hfr63 hM63)))); refine store_event (t := 9) (p := 65) (v := ?vo_w64) (w1 := (w61.setCell ⟨go54, (t729 : Int).toNat * 3 + 2, none⟩ (.string ((rd_T43 t707 t729).f2)))) ?hg ?ho ?hn ?hr ?_; (case ho => rfl); (case hg => rfl); (case hn => rfl); (case hr => first | (go_simp; done) | (go_simp; rfl)); intro w64 hw; have hg : w61.grownBy w64 (some go54) := (by rw [hw]; exact HP63.2); have hp_ : Kd.R k43 43 w64 w.heap.size (fun k_ => some k_ ≠ (.slice (some ad737) t707.length co9 : Value).ownBlock ∧ some k_ ≠ (.slice Ao62 t716.length co62 : Value).ownBlock) (.slice (some ⟨go54, 0, none⟩) y734.length co54) y738 := (by rw [hw, Ny738.out]; exact HP63.1); clear HP63; have n0_ := Aside0.mk (Kd.Q_after (v := (.slice (some ⟨go54, 0, none⟩) y734.length co54)) (v1 := (.slice (some ⟨go54, 0, none⟩) y734.length co54)) (ok := (fun k_ => some k_ ≠ (.slice Ao62 t716.length co62 : Value).ownBlock)) (qp_ HO_3.out) hg (.inl rfl)); have n1_ := Aside0.mk (Kd.R_after (v := (.slice (some ⟨go54, 0, none⟩) y734.length co54)) (v1 := (.slice (some ⟨go54, 0, none⟩) y734.length co54)) (ok := (fun k_ => some k_ ≠ (.slice (some ad737) t707.length co9 : Value).ownBlock)) (rp_ HO_5.out) hg (.inl rfl)); have n2_ := Aside0.mk (blk_grown (g := gb715) (o := .cells #[.int .i64 t710, .int .i64 t711, .int .i64 t712, .int .i64 t713, .string t714] 30 (0, 0)) (bp_ BK715.out) hg (Kd.R_ne HO736.out BK715.out (by decide))); have n3_ := Aside0.mk (hp_); have n4_ := Aside0.mk ((by rw [hw]; exact below_set (HB.out) GB54.out : Below w.heap.size w w64)); clear HO_3; clear HO_5; clear BK715; clear HO736; clear HB; have HO_3 := n0_; have HO_5 := n1_; have BK715 := n2_; have HO736 := n3_; have HB := n4_; clear n0_ n1_ n2_ n3_ n4_; clear hg hw hp_; have p739 : 0 ≤ (t729 : Int) := od_; have q739 : t729 < (t716.length : Int) := od_; obtain ⟨ad739, e739, hx739_0, hx739_1, hx739_2⟩ := at_T43 (Kd.R_reads' HO_5.out).2.2 t729 p739 q739; cases e739; replace p739 := eq_true p739; replace q739 := eq_true q739; have hcz65_0 := cz_ BK715.out 0 (.int .i64 t710); have hcz65_1 := cz_ BK715.out 1 (.int .i64 t711); have hcz65_2 := cz_ BK715.out 2 (.int .i64 t712); have hcz65_3 := cz_ BK715.out 3 (.int .i64 t713); have hcz65_4 := cz_ BK715.out 4 (.string t714); have hfz65_0 := blk_frozen BK715.out 0; have hfz65_1 := blk_frozen BK715.out 1; have hfz65_2 := blk_frozen BK715.out 2; have hfz65_3 := blk_frozen BK715.out 3; have hfz65_4 := blk_frozen BK715.out 4) | (go_at_call 25; refine calls_of_args (args' := #[.slice (some ⟨go54, 0, none⟩) y738.length co54, .slice (some ad737) t707.length co9]) (by first | (rw [show y738.length = y734.length from (Kd.R_reads' HO736.out).1.symm] <;> rfl) | rfl) ?_; (with_reducible refine (laws_lpRows.calls kj4 _ _ y738 _ _ t707 t740 _ ?side1 ?side2 ?side3 ?side4 A57.out).mono ?_); (case side1 => exact cx_ (Kd.R_reads' HO736.out).2.2); (case side2 => rw [show y738.length = y734.length from (Kd.R_reads' HO736.out).1.symm]; exact (Kd.R_reads' HO736.out).2.1); (case side3 => exact cx_ (Kd.Q_reads' HO_3.out).2.2); (case side4 => exact (Kd.Q_reads' HO_3.out).2.1); rintro e w' ⟨rfl, ⟨nd, rfl⟩⟩; (try first | exact ⟨rfl, _, World.drewN_drewN _ _ _⟩ | exact ⟨rfl, _, Eq.trans (World.drewN_drewN _ _ _) (congrArg (World.drewN _) (Nat.add_assoc _ _ _))⟩))))
            go_ret
            exact ⟨fi_, bel_⟩
           ·rw [if_neg c56] at H
            exact absurd H (by simp)
          ·rw [if_neg c55] at H
           exact absurd H (by simp)
         ·rw [if_neg c53] at H
          exact absurd H (by simp)
        ·rw [if_neg c52] at H
         exact absurd H (by simp)
       ·rw [if_neg c51] at H
        exact absurd H (by simp)
      ·rw [if_neg c50] at H
       exact absurd H (by simp)

def laws_FnTextOnly.Pure : Prop := ∀ (l0 : List Int), l0.length ≤ maxLen → l0.length * 1 ≤ 140737488351232 → (∀ x ∈ l0, (Lit.int .u8 x).wf = true) → ∃ k, laws_FnTextOnly.f k l0 = some true
theorem laws_FnTextOnly.walk (P : laws_FnTextOnly.Pure) (a0 : Option Addr) (len0 cap0 : Nat) (z0 : List Int) (w : World) (w0 : (a0 = none ∧ len0 = 0 ∧ cap0 = 0 ∧ z0 = []) ∨ ∃ x, a0 = some x ∧ len0 ≤ cap0 ∧ cap0 ≤ maxLen ∧ z0.length = cap0 ∧ (∀ i, i < z0.length → w.cell? (x.add i) = some (.int .u8 (z0.getD i 0))) ∧ ∀ n ∈ z0, (Lit.int .u8 n).wf = true) (y0 : len0 * 1 ≤ 140737488351232) (hG : Glob w) :
  Calls Tryd.prog 10 #[.slice a0 len0 cap0] w fun e w' => e = .returned (.bool true) ∧ Below w.heap.size w w' := by
 obtain ⟨l0, rfl, hr0, hm0, hw0, hc0⟩ := ReadsInt.ofRowC w0
 obtain ⟨k, h⟩ := P l0 hm0 y0 hw0
 refine (laws_FnTextOnly.calls k _ _ l0 true w (Kd.C_of_reads (d := (0 : Int)) (h1 := fun _ => rfl) hr0) hc0 h hG).mono ?_
 rintro e w' ⟨rfl, hd⟩
 exact ⟨rfl, hd⟩

end Go.Proofs.YtkopimbbgckcnaaDoor.P
namespace Go.Proofs.YtkopimbbgckcnaaDoor.FP
open Go.Proofs.YtkopimbbgckcnaaDoor.P
def dep (x : Nat) (d : Nat) : Fo → Nat
 | .nil => d
 | .nd j _ k n => if j = x then d else if x ∈ k.ids then dep x (d + 1) k else dep x d n
theorem setF_id (x : Nat) (t : ByteArray) : ∀ {F : Fo}, x ∉ F.ids → setF x t F = F
 | .nil, _ => rfl
 | .nd j u k n, h => by
  simp only [Fo.ids, List.mem_cons, List.mem_append, not_or] at h
  rw [setF, if_neg (fun e => h.1 e.symm), setF_id x t h.2.1, setF_id x t h.2.2]
theorem fl_ids : ∀ (F : Fo) (d : Nat) {r : S43}, r ∈ F.fl d → ∃ i ∈ F.ids, r.f0 = (i : Int)
 | .nil, d, r, h => by simp [Fo.fl] at h
 | .nd j t k n, d, r, h => by
  simp only [Fo.fl, List.mem_cons, List.mem_append] at h
  rcases h with rfl | h | h
  ·exact ⟨j, by simp [Fo.ids], rfl⟩
  ·obtain ⟨i, hi, e⟩ := fl_ids k (d + 1) h; exact ⟨i, by simp [Fo.ids, hi], e⟩
  ·obtain ⟨i, hi, e⟩ := fl_ids n d h; exact ⟨i, by simp [Fo.ids, hi], e⟩
theorem fl_map : ∀ (F : Fo) (d : Nat), (F.fl d).map (·.f0) = F.ids.map Int.ofNat
 | .nil, d => rfl
 | .nd j t k n, d => by simp [Fo.fl, Fo.ids, fl_map k, fl_map n]
theorem fl_len (F : Fo) (d : Nat) : (F.fl d).length = F.ids.length := by
 have := congrArg List.length (fl_map F d)
 simpa using this
structure Spot (x d : Nat) (G : Fo) (pre post : List S43) : Prop where
 all : G.fl d = pre ++ (⟨(x : Int), (dep x d G : Int), txtF x G⟩ :: ((sub x G).fl (dep x d G + 1) ++ post))
 out : ∀ r ∈ pre, r.f0 ≠ (x : Int)
 high : post = [] ∨ ∃ r rest, post = r :: rest ∧ r.f1 ≤ (dep x d G : Int)
 ge : d ≤ dep x d G
 del : (del x G).fl d = pre ++ post
 first : ∀ i t s, (insFirst x i t s G).fl d = pre ++ (⟨(x : Int), (dep x d G : Int), txtF x G⟩ :: (⟨(i : Int), ((dep x d G + 1 : Nat) : Int), t⟩ :: (s.fl (dep x d G + 2) ++ ((sub x G).fl (dep x d G + 1) ++ post))))
 after : ∀ i t s, (insAfter x i t s G).fl d = pre ++ (⟨(x : Int), (dep x d G : Int), txtF x G⟩ :: ((sub x G).fl (dep x d G + 1) ++ (⟨(i : Int), (dep x d G : Int), t⟩ :: (s.fl (dep x d G + 1) ++ post))))
 text : ∀ t', (setF x t' G).fl d = pre ++ (⟨(x : Int), (dep x d G : Int), t'⟩ :: ((sub x G).fl (dep x d G + 1) ++ post))
theorem spot (x : Nat) : ∀ (G : Fo) (d : Nat), G.ids.Nodup → x ∈ G.ids → ∃ pre post, Spot x d G pre post
 | .nil, d, _, hx => by simp [Fo.ids] at hx
 | .nd j u k n, d, hn, hx => by
  obtain ⟨n1, n2, n3, n4, n5⟩ := nodup_nd hn
  simp only [Fo.ids, List.mem_cons, List.mem_append] at hx
  by_cases e : j = x
  ·subst e
   refine ⟨[], n.fl d, ?_, by simp, ?_, ?_, ?_, fun i t s => ?_, fun i t s => ?_, fun t' => ?_⟩
   ·simp [Fo.fl, dep, txtF, sub]
   ·rcases fl_head n d with h | ⟨r, rest, h, h2⟩
    ·exact Or.inl h
    ·refine Or.inr ⟨r, rest, h, ?_⟩; simp [dep, h2]
   ·simp [dep]
   ·simp [FP.del]
   ·simp [insFirst, Fo.fl, dep, txtF, sub]
   ·simp [insAfter, Fo.fl, dep, txtF, sub]
   ·simp [setF, Fo.fl, dep, sub, setF_id j t' n1, setF_id j t' n2]
  ·have e' : x ≠ j := fun g => e g.symm
   by_cases hk : x ∈ k.ids
   ·have hxn : x ∉ n.ids := n5 x hk
    obtain ⟨pre, post, s⟩ := spot x k (d + 1) n3 hk
    have hd : dep x d (.nd j u k n) = dep x (d + 1) k := by rw [dep, if_neg e, if_pos hk]
    have ht : txtF x (.nd j u k n) = txtF x k := by rw [txtF, if_neg e, if_pos hk]
    have hs : sub x (.nd j u k n) = sub x k := by rw [sub, if_neg e, if_pos hk]
    refine ⟨⟨(j : Int), (d : Int), u⟩ :: pre, post ++ n.fl d, ?_, ?_, ?_, ?_, ?_, fun i t s' => ?_, fun i t s' => ?_, fun t' => ?_⟩
    ·rw [hd, ht, hs, Fo.fl, s.all]; simp
    ·intro r hr
     rcases List.mem_cons.1 hr with rfl | hr
     ·show (j : Int) ≠ (x : Int); omega
     ·exact s.out r hr
    ·rw [hd]
     have hge := s.ge
     rcases s.high with h | ⟨r, rest, h, h2⟩
     ·rw [h, List.nil_append]
      rcases fl_head n d with h | ⟨r, rest, h, h2⟩
      ·exact Or.inl h
      ·exact Or.inr ⟨r, rest, h, by omega⟩
     ·exact Or.inr ⟨r, rest ++ n.fl d, by rw [h]; rfl, h2⟩
    ·rw [hd]; have := s.ge; omega
    ·rw [FP.del, if_neg e, Fo.fl, s.del, del_id x hxn]; simp
    ·rw [hd, ht, hs, insFirst, if_neg e, Fo.fl, s.first, insFirst_id x i t s' hxn]; simp
    ·rw [hd, ht, hs, insAfter, if_neg e, Fo.fl, s.after, insAfter_id x i t s' hxn]; simp
    ·rw [hd, hs, setF, if_neg e, Fo.fl, s.text, setF_id x t' hxn]; simp
   ·have hxn : x ∈ n.ids := by rcases hx with g | g | g; exact absurd g e'; exact absurd g hk; exact g
    obtain ⟨pre, post, s⟩ := spot x n d n4 hxn
    have hd : dep x d (.nd j u k n) = dep x d n := by rw [dep, if_neg e, if_neg hk]
    have ht : txtF x (.nd j u k n) = txtF x n := by rw [txtF, if_neg e, if_neg hk]
    have hs : sub x (.nd j u k n) = sub x n := by rw [sub, if_neg e, if_neg hk]
    refine ⟨⟨(j : Int), (d : Int), u⟩ :: (k.fl (d + 1) ++ pre), post, ?_, ?_, ?_, ?_, ?_, fun i t s' => ?_, fun i t s' => ?_, fun t' => ?_⟩
    ·rw [hd, ht, hs, Fo.fl, s.all]; simp
    ·intro r hr
     rcases List.mem_cons.1 hr with rfl | hr
     ·show (j : Int) ≠ (x : Int); omega
     ·rcases List.mem_append.1 hr with hr | hr
      ·obtain ⟨i, hi, e2⟩ := fl_ids k (d + 1) hr
       rw [e2]
       intro e3
       exact hk ((show i = x by omega) ▸ hi)
      ·exact s.out r hr
    ·rw [hd]; exact s.high
    ·rw [hd]; exact s.ge
    ·rw [FP.del, if_neg e, Fo.fl, s.del, del_id x hk]; simp
    ·rw [hd, ht, hs, insFirst, if_neg e, Fo.fl, s.first, insFirst_id x i t s' hk]; simp
    ·rw [hd, ht, hs, insAfter, if_neg e, Fo.fl, s.after, insAfter_id x i t s' hk]; simp
    ·rw [hd, hs, setF, if_neg e, Fo.fl, s.text, setF_id x t' hk]; simp
theorem dep_par (x : Nat) : ∀ (G : Fo) (d up : Nat), G.ids.Nodup → x ∈ G.ids → (x ∈ G.tops ∧ dep x d G = d ∧ par x up G = up) ∨ (par x up G ∈ G.ids ∧ dep x d G = dep (par x up G) d G + 1)
 | .nil, d, up, _, hx => by simp [Fo.ids] at hx
 | .nd j u k n, d, up, hn, hx => by
  obtain ⟨n1, n2, n3, n4, n5⟩ := nodup_nd hn
  simp only [Fo.ids, List.mem_cons, List.mem_append] at hx
  by_cases e : j = x
  ·left
   exact ⟨by simp [Fo.tops, e], by rw [dep, if_pos e], by rw [par, if_pos e]⟩
  ·by_cases hk : x ∈ k.ids
   ·right
    have hp : par x up (.nd j u k n) = par x j k := by rw [par, if_neg e, if_pos hk]
    have hd : dep x d (.nd j u k n) = dep x (d + 1) k := by rw [dep, if_neg e, if_pos hk]
    rw [hp, hd]
    rcases dep_par x k (d + 1) j n3 hk with ⟨_, h2, h3⟩ | ⟨h2, h3⟩
    ·rw [h3, h2]
     refine ⟨by simp [Fo.ids], ?_⟩
     rw [dep, if_pos rfl]
    ·refine ⟨by simp [Fo.ids, h2], ?_⟩
     rw [h3, dep, if_neg (fun (g : j = par x j k) => n1 (by rw [g]; exact h2)), if_pos h2]
   ·have hxn : x ∈ n.ids := by rcases hx with g | g | g; exact absurd g.symm e; exact absurd g hk; exact g
    have hp : par x up (.nd j u k n) = par x up n := by rw [par, if_neg e, if_neg hk]
    have hd : dep x d (.nd j u k n) = dep x d n := by rw [dep, if_neg e, if_neg hk]
    rw [hp, hd]
    rcases dep_par x n d up n4 hxn with ⟨h1, h2, h3⟩ | ⟨h2, h3⟩
    ·exact Or.inl ⟨by simp [Fo.tops, h1], h2, h3⟩
    ·refine Or.inr ⟨by simp [Fo.ids, h2], ?_⟩
     rw [h3, dep, if_neg (fun (g : j = par x up n) => n2 (by rw [g]; exact h2)), if_neg (fun g => n5 _ g h2)]
theorem del_ids_sub (i : Nat) : ∀ {F : Fo} {y : Nat}, y ∈ (del i F).ids → y ∈ F.ids
 | .nil, y, h => h
 | .nd j t k n, y, h => by
  rw [FP.del] at h
  split at h
  ·simp [Fo.ids, h]
  ·simp only [Fo.ids, List.mem_cons, List.mem_append] at h ⊢
   exact h.imp id (Or.imp (del_ids_sub i) (del_ids_sub i))
theorem par_del (i a : Nat) : ∀ (G : Fo) (up : Nat), G.ids.Nodup → a ∈ (del i G).ids → par a up (del i G) = par a up G
 | .nil, up, _, h => rfl
 | .nd j u k n, up, hn, h => by
  obtain ⟨n1, n2, n3, n4, n5⟩ := nodup_nd hn
  rw [FP.del] at h ⊢
  by_cases e : j = i
  ·rw [if_pos e] at h ⊢
   rw [par, if_neg (fun (g : j = a) => n2 (by rw [g]; exact h)), if_neg (fun g => n5 a g h)]
  ·rw [if_neg e] at h ⊢
   simp only [Fo.ids, List.mem_cons, List.mem_append] at h
   rw [par, par]
   by_cases e2 : j = a
   ·rw [if_pos e2, if_pos e2]
   ·rw [if_neg e2, if_neg e2]
    by_cases hk : a ∈ (FP.del i k).ids
    ·rw [if_pos hk, if_pos (del_ids_sub i hk)]; exact par_del i a k j n3 hk
    ·have hn' : a ∈ (FP.del i n).ids := by rcases h with g | g | g; exact absurd g.symm e2; exact absurd g hk; exact g
     rw [if_neg hk, if_neg (fun g => n5 a g (del_ids_sub i hn'))]; exact par_del i a n up n4 hn'
theorem rep_ex : ∀ (G : Fo) (up : Nat), G.ids.Nodup → (∀ x ∈ G.ids, x ≠ 0) → ∃ h, Rep h up G
 | .nil, up, _, _ => ⟨fun _ => ⟨ByteArray.empty, 0, 0, 0⟩, trivial⟩
 | .nd j u k n, up, hn, h0 => by
  obtain ⟨n1, n2, n3, n4, n5⟩ := nodup_nd hn
  obtain ⟨hk, rk⟩ := rep_ex k j n3 fun x hx => h0 x (by simp [Fo.ids, hx])
  obtain ⟨hm, rm⟩ := rep_ex n up n4 fun x hx => h0 x (by simp [Fo.ids, hx])
  refine ⟨fun x => if x = j then ⟨u, up, k.hd, n.hd⟩ else if x ∈ k.ids then hk x else hm x, h0 j (by simp [Fo.ids]), if_pos rfl, rk.ext fun x hx => ?_, rm.ext fun x hx => ?_⟩
  ·rw [if_neg (fun (e : x = j) => n1 (e ▸ hx)), if_pos hx]
  ·rw [if_neg (fun (e : x = j) => n2 (e ▸ hx)), if_neg (fun g => n5 x g hx)]
theorem reptop_ex : ∀ (G : Fo), G.ids.Nodup → (∀ x ∈ G.ids, x ≠ 0) → ∃ h, RepTop h G
 | .nil, _, _ => ⟨fun _ => ⟨ByteArray.empty, 0, 0, 0⟩, trivial⟩
 | .nd j u k n, hn, h0 => by
  obtain ⟨n1, n2, n3, n4, n5⟩ := nodup_nd hn
  obtain ⟨hk, rk⟩ := rep_ex k j n3 fun x hx => h0 x (by simp [Fo.ids, hx])
  obtain ⟨hm, rm⟩ := reptop_ex n n4 fun x hx => h0 x (by simp [Fo.ids, hx])
  refine ⟨fun x => if x = j then ⟨u, 0, k.hd, 0⟩ else if x ∈ k.ids then hk x else hm x, h0 j (by simp [Fo.ids]), if_pos rfl, rk.ext fun x hx => ?_, rm.ext fun x hx => ?_⟩
  ·rw [if_neg (fun (e : x = j) => n1 (e ▸ hx)), if_pos hx]
  ·rw [if_neg (fun (e : x = j) => n2 (e ▸ hx)), if_neg (fun g => n5 x g hx)]
theorem kids_par {G : Fo} (hn : G.ids.Nodup) (h0 : ∀ x ∈ G.ids, x ≠ 0) {u x : Nat} (hu : u ∈ G.ids) : x ∈ (sub u G).tops ↔ x ∈ G.ids ∧ par x 0 G = u := by
 obtain ⟨h, hr⟩ := reptop_ex G hn h0
 obtain ⟨r1, _⟩ := reptop_sub hr hn hu
 constructor
 ·intro hx
  have hxs := tops_ids hx
  have hxG := sub_ids u hxs
  refine ⟨hxG, ?_⟩
  rw [← reptop_par hr hn hxG]
  rcases rep_at r1 (sub_nodup u hn) hxs with ⟨_, g⟩ | ⟨g, _⟩
  ·exact g
  ·exact absurd hx g
 ·rintro ⟨hxG, hp⟩
  have ht := par_top h hr hn hxG (by rw [hp]; exact h0 u hu)
  have := (sibT_pv hr hn hxG ht).2
  rwa [reptop_par hr hn hxG, hp] at this
theorem mem_insFirst (p i : Nat) (t : ByteArray) (s : Fo) (y : Nat) : ∀ (F : Fo), y ∈ (insFirst p i t s F).ids ↔ y ∈ F.ids ∨ (p ∈ F.ids ∧ (y = i ∨ y ∈ s.ids))
 | .nil => by simp [insFirst, Fo.ids]
 | .nd j u k n => by
  rw [insFirst]
  have h1 := mem_insFirst p i t s y k
  have h2 := mem_insFirst p i t s y n
  by_cases e : j = p
  ·rw [if_pos e]
   simp only [Fo.ids, List.mem_cons, List.mem_append, e]
   grind
  ·rw [if_neg e]
   simp only [Fo.ids, List.mem_cons, List.mem_append, h1, h2]
   grind
theorem mem_insAfter (a i : Nat) (t : ByteArray) (s : Fo) (y : Nat) : ∀ (F : Fo), y ∈ (insAfter a i t s F).ids ↔ y ∈ F.ids ∨ (a ∈ F.ids ∧ (y = i ∨ y ∈ s.ids))
 | .nil => by simp [insAfter, Fo.ids]
 | .nd j u k n => by
  rw [insAfter]
  have h1 := mem_insAfter a i t s y k
  have h2 := mem_insAfter a i t s y n
  by_cases e : j = a
  ·rw [if_pos e]
   simp only [Fo.ids, List.mem_cons, List.mem_append, e]
   grind
  ·rw [if_neg e]
   simp only [Fo.ids, List.mem_cons, List.mem_append, h1, h2]
   grind
theorem del_insFirst (p i : Nat) (t : ByteArray) (s : Fo) : ∀ {F : Fo}, i ∉ F.ids → del i (insFirst p i t s F) = F
 | .nil, _ => rfl
 | .nd j u k n, h => by
  simp only [Fo.ids, List.mem_cons, List.mem_append, not_or] at h
  have hj : ¬ j = i := fun e => h.1 e.symm
  rw [insFirst]
  by_cases e : j = p
  ·rw [if_pos e, del, if_neg hj, del, if_pos rfl, del_id i h.2.2]
  ·rw [if_neg e, del, if_neg hj, del_insFirst p i t s h.2.1, del_insFirst p i t s h.2.2]
theorem del_insAfter (a i : Nat) (t : ByteArray) (s : Fo) : ∀ {F : Fo}, i ∉ F.ids → del i (insAfter a i t s F) = F
 | .nil, _ => rfl
 | .nd j u k n, h => by
  simp only [Fo.ids, List.mem_cons, List.mem_append, not_or] at h
  have hj : ¬ j = i := fun e => h.1 e.symm
  rw [insAfter]
  by_cases e : j = a
  ·rw [if_pos e, del, if_neg hj, del, if_pos rfl, del_id i h.2.1]
  ·rw [if_neg e, del, if_neg hj, del_insAfter a i t s h.2.1, del_insAfter a i t s h.2.2]
theorem sub_insFirst_new (p i : Nat) (t : ByteArray) (s : Fo) : ∀ {F : Fo}, i ∉ F.ids → p ∈ F.ids → sub i (insFirst p i t s F) = s
 | .nil, _, h => by simp [Fo.ids] at h
 | .nd j u k n, h, hp => by
  simp only [Fo.ids, List.mem_cons, List.mem_append, not_or] at h hp
  have hj : ¬ j = i := fun e => h.1 e.symm
  rw [insFirst]
  by_cases e : j = p
  ·rw [if_pos e, sub, if_neg hj, if_pos (by simp [Fo.ids]), sub, if_pos rfl]
  ·rw [if_neg e, sub, if_neg hj]
   by_cases hk : p ∈ k.ids
   ·rw [if_pos ((mem_insFirst p i t s i k).2 (Or.inr ⟨hk, Or.inl rfl⟩)), sub_insFirst_new p i t s h.2.1 hk]
   ·rw [if_neg (by rw [mem_insFirst]; grind), sub_insFirst_new p i t s h.2.2 (by grind)]
theorem sub_insAfter_new (a i : Nat) (t : ByteArray) (s : Fo) : ∀ {F : Fo}, i ∉ F.ids → a ∈ F.ids → sub i (insAfter a i t s F) = s
 | .nil, _, h => by simp [Fo.ids] at h
 | .nd j u k n, h, hp => by
  simp only [Fo.ids, List.mem_cons, List.mem_append, not_or] at h hp
  have hj : ¬ j = i := fun e => h.1 e.symm
  rw [insAfter]
  by_cases e : j = a
  ·rw [if_pos e, sub, if_neg hj, if_neg h.2.1, sub, if_pos rfl]
  ·rw [if_neg e, sub, if_neg hj]
   by_cases hk : a ∈ k.ids
   ·rw [if_pos ((mem_insAfter a i t s i k).2 (Or.inr ⟨hk, Or.inl rfl⟩)), sub_insAfter_new a i t s h.2.1 hk]
   ·rw [if_neg (by rw [mem_insAfter]; grind), sub_insAfter_new a i t s h.2.2 (by grind)]
theorem txt_insFirst_new (p i : Nat) (t : ByteArray) (s : Fo) : ∀ {F : Fo}, i ∉ F.ids → p ∈ F.ids → txtF i (insFirst p i t s F) = t
 | .nil, _, h => by simp [Fo.ids] at h
 | .nd j u k n, h, hp => by
  simp only [Fo.ids, List.mem_cons, List.mem_append, not_or] at h hp
  have hj : ¬ j = i := fun e => h.1 e.symm
  rw [insFirst]
  by_cases e : j = p
  ·rw [if_pos e, txtF, if_neg hj, if_pos (by simp [Fo.ids]), txtF, if_pos rfl]
  ·rw [if_neg e, txtF, if_neg hj]
   by_cases hk : p ∈ k.ids
   ·rw [if_pos ((mem_insFirst p i t s i k).2 (Or.inr ⟨hk, Or.inl rfl⟩)), txt_insFirst_new p i t s h.2.1 hk]
   ·rw [if_neg (by rw [mem_insFirst]; grind), txt_insFirst_new p i t s h.2.2 (by grind)]
theorem txt_insAfter_new (a i : Nat) (t : ByteArray) (s : Fo) : ∀ {F : Fo}, i ∉ F.ids → a ∈ F.ids → txtF i (insAfter a i t s F) = t
 | .nil, _, h => by simp [Fo.ids] at h
 | .nd j u k n, h, hp => by
  simp only [Fo.ids, List.mem_cons, List.mem_append, not_or] at h hp
  have hj : ¬ j = i := fun e => h.1 e.symm
  rw [insAfter]
  by_cases e : j = a
  ·rw [if_pos e, txtF, if_neg hj, if_neg h.2.1, txtF, if_pos rfl]
  ·rw [if_neg e, txtF, if_neg hj]
   by_cases hk : a ∈ k.ids
   ·rw [if_pos ((mem_insAfter a i t s i k).2 (Or.inr ⟨hk, Or.inl rfl⟩)), txt_insAfter_new a i t s h.2.1 hk]
   ·rw [if_neg (by rw [mem_insAfter]; grind), txt_insAfter_new a i t s h.2.2 (by grind)]
theorem par_insFirst_new (p i : Nat) (t : ByteArray) (s : Fo) : ∀ {F : Fo} (up : Nat), i ∉ F.ids → p ∈ F.ids → par i up (insFirst p i t s F) = p
 | .nil, _, _, h => by simp [Fo.ids] at h
 | .nd j u k n, up, h, hp => by
  simp only [Fo.ids, List.mem_cons, List.mem_append, not_or] at h hp
  have hj : ¬ j = i := fun e => h.1 e.symm
  rw [insFirst]
  by_cases e : j = p
  ·rw [if_pos e, par, if_neg hj, if_pos (by simp [Fo.ids]), par, if_pos rfl, e]
  ·rw [if_neg e, par, if_neg hj]
   by_cases hk : p ∈ k.ids
   ·rw [if_pos ((mem_insFirst p i t s i k).2 (Or.inr ⟨hk, Or.inl rfl⟩)), par_insFirst_new p i t s j h.2.1 hk]
   ·rw [if_neg (by rw [mem_insFirst]; grind), par_insFirst_new p i t s up h.2.2 (by grind)]
theorem par_insAfter_new (a i : Nat) (t : ByteArray) (s : Fo) : ∀ {F : Fo} (up : Nat), i ∉ F.ids → a ∈ F.ids → par i up (insAfter a i t s F) = par a up F
 | .nil, _, _, h => by simp [Fo.ids] at h
 | .nd j u k n, up, h, hp => by
  simp only [Fo.ids, List.mem_cons, List.mem_append, not_or] at h hp
  have hj : ¬ j = i := fun e => h.1 e.symm
  rw [insAfter]
  by_cases e : j = a
  ·rw [if_pos e, par, if_neg hj, if_neg h.2.1, par, if_pos rfl, par, if_pos e]
  ·rw [if_neg e, par, if_neg hj, par, if_neg e]
   by_cases hk : a ∈ k.ids
   ·rw [if_pos ((mem_insAfter a i t s i k).2 (Or.inr ⟨hk, Or.inl rfl⟩)), if_pos hk, par_insAfter_new a i t s j h.2.1 hk]
   ·rw [if_neg (by rw [mem_insAfter]; grind), if_neg hk, par_insAfter_new a i t s up h.2.2 (by grind)]
theorem sub_insFirst_in (p i : Nat) (t : ByteArray) (s : Fo) {x : Nat} (hx : x ∈ s.ids) (hxi : x ≠ i) : ∀ {F : Fo}, x ∉ F.ids → p ∈ F.ids → sub x (insFirst p i t s F) = sub x s
 | .nil, _, h => by simp [Fo.ids] at h
 | .nd j u k n, h, hp => by
  simp only [Fo.ids, List.mem_cons, List.mem_append, not_or] at h hp
  have hj : ¬ j = x := fun e => h.1 e.symm
  rw [insFirst]
  by_cases e : j = p
  ·rw [if_pos e, sub, if_neg hj, if_pos (by simp [Fo.ids, hx]), sub, if_neg (fun e => hxi e.symm), if_pos hx]
  ·rw [if_neg e, sub, if_neg hj]
   by_cases hk : p ∈ k.ids
   ·rw [if_pos ((mem_insFirst p i t s x k).2 (Or.inr ⟨hk, Or.inr hx⟩)), sub_insFirst_in p i t s hx hxi h.2.1 hk]
   ·rw [if_neg (by rw [mem_insFirst]; grind), sub_insFirst_in p i t s hx hxi h.2.2 (by grind)]
theorem sub_insAfter_in (a i : Nat) (t : ByteArray) (s : Fo) {x : Nat} (hx : x ∈ s.ids) (hxi : x ≠ i) : ∀ {F : Fo}, x ∉ F.ids → a ∈ F.ids → sub x (insAfter a i t s F) = sub x s
 | .nil, _, h => by simp [Fo.ids] at h
 | .nd j u k n, h, hp => by
  simp only [Fo.ids, List.mem_cons, List.mem_append, not_or] at h hp
  have hj : ¬ j = x := fun e => h.1 e.symm
  rw [insAfter]
  by_cases e : j = a
  ·rw [if_pos e, sub, if_neg hj, if_neg h.2.1, sub, if_neg (fun e => hxi e.symm), if_pos hx]
  ·rw [if_neg e, sub, if_neg hj]
   by_cases hk : a ∈ k.ids
   ·rw [if_pos ((mem_insAfter a i t s x k).2 (Or.inr ⟨hk, Or.inr hx⟩)), sub_insAfter_in a i t s hx hxi h.2.1 hk]
   ·rw [if_neg (by rw [mem_insAfter]; grind), sub_insAfter_in a i t s hx hxi h.2.2 (by grind)]
theorem par_insFirst_in (p i : Nat) (t : ByteArray) (s : Fo) {x : Nat} (hx : x ∈ s.ids) (hxi : x ≠ i) : ∀ {F : Fo} (up : Nat), x ∉ F.ids → p ∈ F.ids → par x up (insFirst p i t s F) = par x i s
 | .nil, _, _, h => by simp [Fo.ids] at h
 | .nd j u k n, up, h, hp => by
  simp only [Fo.ids, List.mem_cons, List.mem_append, not_or] at h hp
  have hj : ¬ j = x := fun e => h.1 e.symm
  rw [insFirst]
  by_cases e : j = p
  ·rw [if_pos e, par, if_neg hj, if_pos (by simp [Fo.ids, hx]), par, if_neg (fun e => hxi e.symm), if_pos hx]
  ·rw [if_neg e, par, if_neg hj]
   by_cases hk : p ∈ k.ids
   ·rw [if_pos ((mem_insFirst p i t s x k).2 (Or.inr ⟨hk, Or.inr hx⟩)), par_insFirst_in p i t s hx hxi j h.2.1 hk]
   ·rw [if_neg (by rw [mem_insFirst]; grind), par_insFirst_in p i t s hx hxi up h.2.2 (by grind)]
theorem par_insAfter_in (a i : Nat) (t : ByteArray) (s : Fo) {x : Nat} (hx : x ∈ s.ids) (hxi : x ≠ i) : ∀ {F : Fo} (up : Nat), x ∉ F.ids → a ∈ F.ids → par x up (insAfter a i t s F) = par x i s
 | .nil, _, _, h => by simp [Fo.ids] at h
 | .nd j u k n, up, h, hp => by
  simp only [Fo.ids, List.mem_cons, List.mem_append, not_or] at h hp
  have hj : ¬ j = x := fun e => h.1 e.symm
  rw [insAfter]
  by_cases e : j = a
  ·rw [if_pos e, par, if_neg hj, if_neg h.2.1, par, if_neg (fun e => hxi e.symm), if_pos hx]
  ·rw [if_neg e, par, if_neg hj]
   by_cases hk : a ∈ k.ids
   ·rw [if_pos ((mem_insAfter a i t s x k).2 (Or.inr ⟨hk, Or.inr hx⟩)), par_insAfter_in a i t s hx hxi j h.2.1 hk]
   ·rw [if_neg (by rw [mem_insAfter]; grind), par_insAfter_in a i t s hx hxi up h.2.2 (by grind)]
theorem txt_insFirst_in (p i : Nat) (t : ByteArray) (s : Fo) {x : Nat} (hx : x ∈ s.ids) (hxi : x ≠ i) : ∀ {F : Fo}, x ∉ F.ids → p ∈ F.ids → txtF x (insFirst p i t s F) = txtF x s
 | .nil, _, h => by simp [Fo.ids] at h
 | .nd j u k n, h, hp => by
  simp only [Fo.ids, List.mem_cons, List.mem_append, not_or] at h hp
  have hj : ¬ j = x := fun e => h.1 e.symm
  rw [insFirst]
  by_cases e : j = p
  ·rw [if_pos e, txtF, if_neg hj, if_pos (by simp [Fo.ids, hx]), txtF, if_neg (fun e => hxi e.symm), if_pos hx]
  ·rw [if_neg e, txtF, if_neg hj]
   by_cases hk : p ∈ k.ids
   ·rw [if_pos ((mem_insFirst p i t s x k).2 (Or.inr ⟨hk, Or.inr hx⟩)), txt_insFirst_in p i t s hx hxi h.2.1 hk]
   ·rw [if_neg (by rw [mem_insFirst]; grind), txt_insFirst_in p i t s hx hxi h.2.2 (by grind)]
theorem txt_insAfter_in (a i : Nat) (t : ByteArray) (s : Fo) {x : Nat} (hx : x ∈ s.ids) (hxi : x ≠ i) : ∀ {F : Fo}, x ∉ F.ids → a ∈ F.ids → txtF x (insAfter a i t s F) = txtF x s
 | .nil, _, h => by simp [Fo.ids] at h
 | .nd j u k n, h, hp => by
  simp only [Fo.ids, List.mem_cons, List.mem_append, not_or] at h hp
  have hj : ¬ j = x := fun e => h.1 e.symm
  rw [insAfter]
  by_cases e : j = a
  ·rw [if_pos e, txtF, if_neg hj, if_neg h.2.1, txtF, if_neg (fun e => hxi e.symm), if_pos hx]
  ·rw [if_neg e, txtF, if_neg hj]
   by_cases hk : a ∈ k.ids
   ·rw [if_pos ((mem_insAfter a i t s x k).2 (Or.inr ⟨hk, Or.inr hx⟩)), txt_insAfter_in a i t s hx hxi h.2.1 hk]
   ·rw [if_neg (by rw [mem_insAfter]; grind), txt_insAfter_in a i t s hx hxi h.2.2 (by grind)]
theorem par_insFirst_old (p i : Nat) (t : ByteArray) (s : Fo) {x : Nat} (hx : x ∉ s.ids) (hxi : x ≠ i) : ∀ (F : Fo) (up : Nat), par x up (insFirst p i t s F) = par x up F
 | .nil, _ => rfl
 | .nd j u k n, up => by
  have m1 : x ∈ (insFirst p i t s k).ids ↔ x ∈ k.ids := by rw [mem_insFirst]; grind
  have m2 : x ∈ (Fo.nd i t s k).ids ↔ x ∈ k.ids := by simp only [Fo.ids, List.mem_cons, List.mem_append]; grind
  rw [insFirst]
  by_cases e : j = p
  ·rw [if_pos e]
   simp only [par, m2, if_neg (fun e : i = x => hxi e.symm), if_neg hx]
  ·rw [if_neg e]
   simp only [par, m1, par_insFirst_old p i t s hx hxi k, par_insFirst_old p i t s hx hxi n]
theorem par_insAfter_old (a i : Nat) (t : ByteArray) (s : Fo) {x : Nat} (hx : x ∉ s.ids) (hxi : x ≠ i) : ∀ (F : Fo) (up : Nat), par x up (insAfter a i t s F) = par x up F
 | .nil, _ => rfl
 | .nd j u k n, up => by
  have m1 : x ∈ (insAfter a i t s k).ids ↔ x ∈ k.ids := by rw [mem_insAfter]; grind
  rw [insAfter]
  by_cases e : j = a
  ·rw [if_pos e]
   simp only [par, if_neg (fun e : i = x => hxi e.symm), if_neg hx]
  ·rw [if_neg e]
   simp only [par, m1, par_insAfter_old a i t s hx hxi k, par_insAfter_old a i t s hx hxi n]
theorem txt_insFirst_old (p i : Nat) (t : ByteArray) (s : Fo) {x : Nat} (hx : x ∉ s.ids) (hxi : x ≠ i) : ∀ (F : Fo), txtF x (insFirst p i t s F) = txtF x F
 | .nil => rfl
 | .nd j u k n => by
  have m1 : x ∈ (insFirst p i t s k).ids ↔ x ∈ k.ids := by rw [mem_insFirst]; grind
  have m2 : x ∈ (Fo.nd i t s k).ids ↔ x ∈ k.ids := by simp only [Fo.ids, List.mem_cons, List.mem_append]; grind
  rw [insFirst]
  by_cases e : j = p
  ·rw [if_pos e]
   simp only [txtF, m2, if_neg (fun e : i = x => hxi e.symm), if_neg hx]
  ·rw [if_neg e]
   simp only [txtF, m1, txt_insFirst_old p i t s hx hxi k, txt_insFirst_old p i t s hx hxi n]
theorem txt_insAfter_old (a i : Nat) (t : ByteArray) (s : Fo) {x : Nat} (hx : x ∉ s.ids) (hxi : x ≠ i) : ∀ (F : Fo), txtF x (insAfter a i t s F) = txtF x F
 | .nil => rfl
 | .nd j u k n => by
  have m1 : x ∈ (insAfter a i t s k).ids ↔ x ∈ k.ids := by rw [mem_insAfter]; grind
  rw [insAfter]
  by_cases e : j = a
  ·rw [if_pos e]
   simp only [txtF, if_neg (fun e : i = x => hxi e.symm), if_neg hx]
  ·rw [if_neg e]
   simp only [txtF, m1, txt_insAfter_old a i t s hx hxi k, txt_insAfter_old a i t s hx hxi n]
theorem txt_del (i a : Nat) : ∀ (G : Fo), G.ids.Nodup → a ∈ (del i G).ids → txtF a (del i G) = txtF a G
 | .nil, _, h => rfl
 | .nd j u k n, hn, h => by
  obtain ⟨n1, n2, n3, n4, n5⟩ := nodup_nd hn
  rw [FP.del] at h ⊢
  by_cases e : j = i
  ·rw [if_pos e] at h ⊢
   rw [txtF, if_neg (fun (g : j = a) => n2 (by rw [g]; exact h)), if_neg (fun g => n5 a g h)]
  ·rw [if_neg e] at h ⊢
   simp only [Fo.ids, List.mem_cons, List.mem_append] at h
   rw [txtF, txtF]
   by_cases e2 : j = a
   ·rw [if_pos e2, if_pos e2]
   ·rw [if_neg e2, if_neg e2]
    by_cases hk : a ∈ (FP.del i k).ids
    ·rw [if_pos hk, if_pos (del_ids_sub i hk)]; exact txt_del i a k n3 hk
    ·have hn' : a ∈ (FP.del i n).ids := by rcases h with g | g | g; exact absurd g.symm e2; exact absurd g hk; exact g
     rw [if_neg hk, if_neg (fun g => n5 a g (del_ids_sub i hn'))]; exact txt_del i a n n4 hn'
theorem par_sub (i a : Nat) : ∀ (G : Fo) (up : Nat), G.ids.Nodup → a ∈ (sub i G).ids → par a up G = par a i (sub i G)
 | .nil, up, _, h => by simp [sub, Fo.ids] at h
 | .nd j u k n, up, hn, h => by
  obtain ⟨n1, n2, n3, n4, n5⟩ := nodup_nd hn
  rw [sub] at h ⊢
  by_cases e : j = i
  ·rw [if_pos e] at h ⊢
   rw [par, if_neg (fun (g : j = a) => n1 (by rw [g]; exact h)), if_pos h, e]
  ·rw [if_neg e] at h ⊢
   by_cases hk : i ∈ k.ids
   ·rw [if_pos hk] at h ⊢
    have ha := sub_ids i h
    rw [par, if_neg (fun (g : j = a) => n1 (by rw [g]; exact ha)), if_pos ha]
    exact par_sub i a k j n3 h
   ·rw [if_neg hk] at h ⊢
    have ha := sub_ids i h
    rw [par, if_neg (fun (g : j = a) => n2 (by rw [g]; exact ha)), if_neg (fun g => n5 a g ha)]
    exact par_sub i a n up n4 h
theorem txt_sub (i a : Nat) : ∀ (G : Fo), G.ids.Nodup → a ∈ (sub i G).ids → txtF a G = txtF a (sub i G)
 | .nil, _, h => by simp [sub, Fo.ids] at h
 | .nd j u k n, hn, h => by
  obtain ⟨n1, n2, n3, n4, n5⟩ := nodup_nd hn
  rw [sub] at h ⊢
  by_cases e : j = i
  ·rw [if_pos e] at h ⊢
   rw [txtF, if_neg (fun (g : j = a) => n1 (by rw [g]; exact h)), if_pos h]
  ·rw [if_neg e] at h ⊢
   by_cases hk : i ∈ k.ids
   ·rw [if_pos hk] at h ⊢
    have ha := sub_ids i h
    rw [txtF, if_neg (fun (g : j = a) => n1 (by rw [g]; exact ha)), if_pos ha]
    exact txt_sub i a k n3 h
   ·rw [if_neg hk] at h ⊢
    have ha := sub_ids i h
    rw [txtF, if_neg (fun (g : j = a) => n2 (by rw [g]; exact ha)), if_neg (fun g => n5 a g ha)]
    exact txt_sub i a n n4 h
theorem sub_sub (i a : Nat) : ∀ (G : Fo), G.ids.Nodup → a ∈ (sub i G).ids → sub a G = sub a (sub i G)
 | .nil, _, h => by simp [sub, Fo.ids] at h
 | .nd j u k n, hn, h => by
  obtain ⟨n1, n2, n3, n4, n5⟩ := nodup_nd hn
  rw [sub.eq_2 i] at h ⊢
  by_cases e : j = i
  ·rw [if_pos e] at h ⊢
   rw [sub, if_neg (fun (g : j = a) => n1 (by rw [g]; exact h)), if_pos h]
  ·rw [if_neg e] at h ⊢
   by_cases hk : i ∈ k.ids
   ·rw [if_pos hk] at h ⊢
    have ha := sub_ids i h
    rw [sub, if_neg (fun (g : j = a) => n1 (by rw [g]; exact ha)), if_pos ha]
    exact sub_sub i a k n3 h
   ·rw [if_neg hk] at h ⊢
    have ha := sub_ids i h
    rw [sub, if_neg (fun (g : j = a) => n2 (by rw [g]; exact ha)), if_neg (fun g => n5 a g ha)]
    exact sub_sub i a n n4 h
theorem set_txt_ne (x : Nat) (t' : ByteArray) {i : Nat} (h : i ≠ x) : ∀ (F : Fo), txtF i (setF x t' F) = txtF i F
 | .nil => rfl
 | .nd j u k n => by
  rw [setF, txtF, txtF, setF_ids, set_txt_ne x t' h k, set_txt_ne x t' h n]
  by_cases e : j = i
  ·rw [if_pos e, if_pos e, if_neg (fun g => h (e ▸ g))]
  ·rw [if_neg e, if_neg e]
theorem set_txt_eq (x : Nat) (t' : ByteArray) : ∀ {F : Fo}, x ∈ F.ids → txtF x (setF x t' F) = t'
 | .nil, h => by simp [Fo.ids] at h
 | .nd j u k n, h => by
  simp only [Fo.ids, List.mem_cons, List.mem_append] at h
  rw [setF, txtF, setF_ids]
  by_cases e : j = x
  ·rw [if_pos e, if_pos e]
  ·rw [if_neg e]
   by_cases hk : x ∈ k.ids
   ·rw [if_pos hk]; exact set_txt_eq x t' hk
   ·rw [if_neg hk]; exact set_txt_eq x t' (by grind)
end Go.Proofs.YtkopimbbgckcnaaDoor.FP
namespace Go.Proofs.YtkopimbbgckcnaaDoor.FP
open Go.Proofs.YtkopimbbgckcnaaDoor.P
structure PutOk (H : Fo) (q : Nat × Nat) (i : Nat) (s : Fo) : Prop where
 nd : H.ids.Nodup
 snd : s.ids.Nodup
 iH : i ∉ H.ids
 is : i ∉ s.ids
 dis : ∀ x ∈ s.ids, x ∉ H.ids
 up : q.1 ∈ H.ids
 at_ : q.2 = 0 ∨ (q.2 ∈ H.ids ∧ par q.2 0 H = q.1)
section
variable {H : Fo} {q : Nat × Nat} {i : Nat} {s : Fo} {t : ByteArray}
theorem PutOk.del (o : PutOk H q i s) : del i (putF H q i t s) = H := by
 unfold putF
 split
 ·exact del_insFirst _ _ _ _ o.iH
 ·exact del_insAfter _ _ _ _ o.iH
theorem PutOk.sub (o : PutOk H q i s) : sub i (putF H q i t s) = s := by
 unfold putF
 split
 ·exact sub_insFirst_new _ _ _ _ o.iH o.up
 ·rename_i h; exact sub_insAfter_new _ _ _ _ o.iH (o.at_.resolve_left h).1
theorem PutOk.txt (o : PutOk H q i s) : txtF i (putF H q i t s) = t := by
 unfold putF
 split
 ·exact txt_insFirst_new _ _ _ _ o.iH o.up
 ·rename_i h; exact txt_insAfter_new _ _ _ _ o.iH (o.at_.resolve_left h).1
theorem PutOk.par (o : PutOk H q i s) : par i 0 (putF H q i t s) = q.1 := by
 unfold putF
 split
 ·exact par_insFirst_new _ _ _ _ _ o.iH o.up
 ·rename_i h
  rw [par_insAfter_new _ _ _ _ _ o.iH (o.at_.resolve_left h).1]; exact (o.at_.resolve_left h).2
theorem PutOk.mem (o : PutOk H q i s) (y : Nat) : y ∈ (putF H q i t s).ids ↔ y = i ∨ y ∈ s.ids ∨ y ∈ H.ids := by
 unfold putF
 split
 ·rw [mem_insFirst]; have := o.up; grind
 ·rename_i h; rw [mem_insAfter]; have := (o.at_.resolve_left h).1; grind
theorem PutOk.perm (o : PutOk H q i s) : (putF H q i t s).ids.Perm (i :: (s.ids ++ H.ids)) := putF_ids o.nd o.up (o.at_.imp id And.left)
theorem PutOk.nodup (o : PutOk H q i s) : (putF H q i t s).ids.Nodup := by
 refine o.perm.nodup_iff.2 (List.nodup_cons.2 ⟨?_, List.nodup_append.2 ⟨o.snd, o.nd, fun a ha b hb e => o.dis a ha (e ▸ hb)⟩⟩)
 rw [List.mem_append]
 exact fun h => h.elim o.is o.iH
theorem PutOk.ne {x : Nat} (o : PutOk H q i s) (hx : x ∈ H.ids) : x ≠ i ∧ x ∉ s.ids := ⟨fun e => o.iH (e ▸ hx), fun g => o.dis x g hx⟩
theorem PutOk.par_old (o : PutOk H q i s) {x : Nat} (hx : x ∈ H.ids) : FP.par x 0 (putF H q i t s) = FP.par x 0 H := by
 obtain ⟨h1, h2⟩ := o.ne hx
 unfold putF
 split
 ·exact par_insFirst_old _ _ _ _ h2 h1 _ _
 ·exact par_insAfter_old _ _ _ _ h2 h1 _ _
theorem PutOk.txt_old (o : PutOk H q i s) {x : Nat} (hx : x ∈ H.ids) : txtF x (putF H q i t s) = txtF x H := by
 obtain ⟨h1, h2⟩ := o.ne hx
 unfold putF
 split
 ·exact txt_insFirst_old _ _ _ _ h2 h1 _
 ·exact txt_insAfter_old _ _ _ _ h2 h1 _
theorem PutOk.par_in (o : PutOk H q i s) {x : Nat} (hx : x ∈ s.ids) : FP.par x 0 (putF H q i t s) = FP.par x i s := by
 have h1 : x ≠ i := fun e => o.is (e ▸ hx)
 unfold putF
 split
 ·exact par_insFirst_in _ _ _ _ hx h1 _ (o.dis x hx) o.up
 ·rename_i h; exact par_insAfter_in _ _ _ _ hx h1 _ (o.dis x hx) (o.at_.resolve_left h).1
theorem PutOk.txt_in (o : PutOk H q i s) {x : Nat} (hx : x ∈ s.ids) : txtF x (putF H q i t s) = txtF x s := by
 have h1 : x ≠ i := fun e => o.is (e ▸ hx)
 unfold putF
 split
 ·exact txt_insFirst_in _ _ _ _ hx h1 (o.dis x hx) o.up
 ·rename_i h; exact txt_insAfter_in _ _ _ _ hx h1 (o.dis x hx) (o.at_.resolve_left h).1
theorem PutOk.sub_in (o : PutOk H q i s) {x : Nat} (hx : x ∈ s.ids) : FP.sub x (putF H q i t s) = FP.sub x s := by
 have h1 : x ≠ i := fun e => o.is (e ▸ hx)
 unfold putF
 split
 ·exact sub_insFirst_in _ _ _ _ hx h1 (o.dis x hx) o.up
 ·rename_i h; exact sub_insAfter_in _ _ _ _ hx h1 (o.dis x hx) (o.at_.resolve_left h).1
end
theorem fnd_congr {G G' : Fo} (h : ∀ y, y ∈ G'.ids ↔ y ∈ G.ids) (x : Int) : fndF G' x = fndF G x := by
 unfold fndF; simp only [h]
theorem mem_del {i y : Nat} {G : Fo} (hn : G.ids.Nodup) (hi : i ∈ G.ids) : y ∈ (del i G).ids ↔ y ∈ G.ids ∧ y ≠ i ∧ y ∉ (sub i G).ids := by
 have hp := ids_del i G hn hi
 obtain ⟨m1, m2⟩ := List.nodup_cons.1 (hp.nodup_iff.1 hn)
 have m3 := (List.nodup_append.1 m2).2.2
 have m4 := hp.mem_iff (a := y)
 simp only [List.mem_cons, List.mem_append] at m4 m1
 constructor
 ·intro h
  exact ⟨m4.2 (Or.inr (Or.inr h)), fun e => m1 (Or.inr (e ▸ h)), fun g => m3 y g y h rfl⟩
 ·rintro ⟨h1, h2, h3⟩
  rcases m4.1 h1 with g | g | g
  ·exact absurd g h2
  ·exact absurd g h3
  ·exact g
structure MvOk (G : Fo) (i : Nat) (q : Nat × Nat) : Prop where
 nd : G.ids.Nodup
 mem : i ∈ G.ids
 put : PutOk (del i G) q i (sub i G)
def mvF (G : Fo) (q : Nat × Nat) (i : Nat) : Fo := putF (del i G) q i (txtF i G) (sub i G)
section
variable {G : Fo} {i : Nat} {q : Nat × Nat}
theorem MvOk.ids (o : MvOk G i q) (y : Nat) : y ∈ (mvF G q i).ids ↔ y ∈ G.ids := by
 unfold mvF
 rw [o.put.mem, mem_del o.nd o.mem]
 have := o.mem
 have h2 : y ∈ (sub i G).ids → y ∈ G.ids := sub_ids i
 grind
theorem MvOk.perm (o : MvOk G i q) : (mvF G q i).ids.Perm G.ids := by
 unfold mvF
 exact o.put.perm.trans (ids_del i G o.nd o.mem).symm
theorem MvOk.nodup (o : MvOk G i q) : (mvF G q i).ids.Nodup := o.put.nodup
theorem MvOk.par_ne (o : MvOk G i q) {x : Nat} (hx : x ∈ G.ids) (hne : x ≠ i) : par x 0 (mvF G q i) = par x 0 G := by
 unfold mvF
 by_cases hs : x ∈ (sub i G).ids
 ·rw [o.put.par_in hs, par_sub i x G 0 o.nd hs]
 ·have hd := (mem_del o.nd o.mem).2 ⟨hx, hne, hs⟩
  rw [o.put.par_old hd, par_del i x G 0 o.nd hd]
theorem MvOk.txt (o : MvOk G i q) {x : Nat} (hx : x ∈ G.ids) : txtF x (mvF G q i) = txtF x G := by
 unfold mvF
 by_cases hne : x = i
 ·subst hne; exact o.put.txt
 ·by_cases hs : x ∈ (sub i G).ids
  ·rw [o.put.txt_in hs, txt_sub i x G o.nd hs]
  ·have hd := (mem_del o.nd o.mem).2 ⟨hx, hne, hs⟩
   rw [o.put.txt_old hd, txt_del i x G o.nd hd]
theorem MvOk.sub_self (o : MvOk G i q) : sub i (mvF G q i) = sub i G := o.put.sub
theorem MvOk.sub_in (o : MvOk G i q) {x : Nat} (hx : x ∈ (sub i G).ids) : sub x (mvF G q i) = sub x G := by
 unfold mvF
 rw [o.put.sub_in hx, sub_sub i x G o.nd hx]
theorem MvOk.del (o : MvOk G i q) : del i (mvF G q i) = del i G := o.put.del
theorem MvOk.again (o : MvOk G i q) (q' : Nat × Nat) : mvF (mvF G q i) q' i = mvF G q' i := by
 have h1 := o.del
 have h2 := o.txt o.mem
 have h3 := o.sub_self
 unfold mvF at h1 h2 h3 ⊢
 rw [h1, h2, h3]
theorem MvOk.under (o : MvOk G i q) (x : Nat) : under i x (mvF G q i) ↔ under i x G := by
 unfold FP.under
 rw [o.sub_self, o.ids]
theorem MvOk.fnd (o : MvOk G i q) (x : Int) : fndF (mvF G q i) x = fndF G x := fnd_congr o.ids x
theorem MvOk.near (o : MvOk G i q) (up at_ : Int) : nearF (mvF G q i) (i : Int) up at_ = nearF G (i : Int) up at_ := by
 unfold nearF
 rw [o.fnd, o.fnd]
 by_cases h1 : fndF G up = 0
 ·rw [if_pos h1, if_pos h1]
 ·rw [if_neg h1, if_neg h1]
  by_cases h2 : fndF G at_ = 0
  ·rw [if_pos h2, if_pos h2]
  ·rw [if_neg h2, if_neg h2]
   by_cases h3 : at_ = (i : Int)
   ·simp only [h3, if_true, ite_self]
   ·obtain ⟨m1, m2⟩ := fndF_mem h2
    rw [o.par_ne m1 (fun e => h3 (by rw [← m2, e]))]
end
theorem move_ok {G : Fo} (hn : G.ids.Nodup) (h0 : ∀ x ∈ G.ids, x ≠ 0) (h3 : 3 ∈ G.tops) {i : Nat} (hi : i ∈ G.ids) (hit : i ∉ G.tops) {up at_ : Int} (hw : ¬ under i (fndF G up) G) : MvOk G i (nearF G (i : Int) up at_) := by
 obtain ⟨h, hr⟩ := reptop_ex G hn h0
 have hp := near_del hr hn h3 hi hit (id := (i : Int)) (up := up) (at_ := at_) rfl hw
 have hperm := ids_del i G hn hi
 obtain ⟨m1, m2⟩ := List.nodup_cons.1 (hperm.nodup_iff.1 hn)
 obtain ⟨m3, m4, m5⟩ := List.nodup_append.1 m2
 rw [List.mem_append, not_or] at m1
 refine ⟨hn, hi, ⟨m4, m3, m1.2, m1.1, fun x hx g => m5 x hx x g rfl, hp.1, hp.2.imp id fun ⟨a1, a2, _⟩ => ⟨a1, ?_⟩⟩⟩
 rw [par_del i _ G 0 hn a1, ← reptop_par hr hn (del_ids_sub i a1)]; exact a2
theorem make_ok {G : Fo} (hn : G.ids.Nodup) (h3 : 3 ∈ G.tops) {i : Nat} (hi : i ∉ G.ids) {up at_ : Int} : PutOk G (nearF G (i : Int) up at_) i .nil := by
 have hp := near_ok (G := G) (tops_ids h3) (i : Int) up at_
 exact ⟨hn, by simp [Fo.ids], hi, by simp [Fo.ids], by simp [Fo.ids], hp.up, hp.at_.imp id fun ⟨a1, a2, _⟩ => ⟨a1, a2⟩⟩
inductive Does (G : Fo) (kd : Int) (i : Nat) (up at_ : Int) (s : ByteArray) : Fo → Prop
 | text (h : kd = 2) (hi : i ∈ G.ids) : Does G kd i up at_ s (setF i s G)
 | make (h : kd = 1) (hi : i ∉ G.ids) (o : PutOk G (nearF G (i : Int) up at_) i .nil) : Does G kd i up at_ s (putF G (nearF G (i : Int) up at_) i s .nil)
 | move (h : kd = 3) (hi : i ∈ G.ids) (hw : ¬ under i (fndF G up) G) (o : MvOk G i (nearF G (i : Int) up at_)) : Does G kd i up at_ s (mvF G (nearF G (i : Int) up at_) i)
 | none (h : (kd = 2 ∧ i ∉ G.ids) ∨ (kd = 1 ∧ i ∈ G.ids) ∨ (kd = 3 ∧ i ∉ G.ids) ∨ (kd = 3 ∧ i ∈ G.ids ∧ under i (fndF G up) G)) : Does G kd i up at_ s G
theorem fnd_nat {G : Fo} {y : Nat} (hy : y ∈ G.ids) : fndF G (y : Int) = y := by unfold fndF; rw [if_pos ⟨by omega, by simpa using hy⟩]; rfl
theorem fnd_not {G : Fo} {y : Nat} (hy : y ∉ G.ids) : fndF G (y : Int) = 0 := by unfold fndF; rw [if_neg (by simpa using hy)]
theorem does {G : Fo} (hn : G.ids.Nodup) (h0 : ∀ x ∈ G.ids, x ≠ 0) (h3 : 3 ∈ G.tops) (kd : Int) (i : Nat) (hit : i ∉ G.tops) (up at_ : Int) (s : ByteArray) (hk : kd = 1 ∨ kd = 2 ∨ kd = 3) : Does G kd i up at_ s (doF G kd (i : Int) up at_ s) := by
 unfold doF
 by_cases hi : i ∈ G.ids
 ·have hi0 := h0 i hi
  rw [fnd_nat hi, if_neg hi0, if_neg hi0, if_neg hi0]
  rcases hk with rfl | rfl | rfl
  ·rw [if_neg (by decide), if_pos rfl]; exact .none (Or.inr (Or.inl ⟨rfl, hi⟩))
  ·rw [if_pos rfl]; exact .text rfl hi
  ·rw [if_neg (by decide), if_neg (by decide)]
   by_cases hu : under i (fndF G up) G
   ·rw [if_pos hu]; exact .none (Or.inr (Or.inr (Or.inr ⟨rfl, hi, hu⟩)))
   ·rw [if_neg hu]; exact .move rfl hi hu (move_ok hn h0 h3 hi hit hu)
 ·rw [fnd_not hi, if_pos rfl, if_pos rfl, if_pos rfl]
  rcases hk with rfl | rfl | rfl
  ·rw [if_neg (by decide), if_pos rfl]; exact .make rfl hi (make_ok hn h3 hi)
  ·rw [if_pos rfl]; exact .none (Or.inl ⟨rfl, hi⟩)
  ·rw [if_neg (by decide), if_neg (by decide)]; exact .none (Or.inr (Or.inr (Or.inl ⟨rfl, hi⟩)))
theorem doF_text {G : Fo} {i : Nat} (hi : i ∈ G.ids) (h0 : i ≠ 0) (u a : Int) (s : ByteArray) : doF G 2 (i : Int) u a s = setF i s G := by
 unfold doF; rw [if_pos rfl, fnd_nat hi, if_neg h0]
theorem doF_text_not {G : Fo} {i : Nat} (hi : i ∉ G.ids) (u a : Int) (s : ByteArray) : doF G 2 (i : Int) u a s = G := by
 unfold doF; rw [if_pos rfl, fnd_not hi, if_pos rfl]
section
variable {G : Fo} (hn : G.ids.Nodup) (h0 : ∀ x ∈ G.ids, x ≠ 0) (h3 : 3 ∈ G.tops) {kd : Int} {i : Nat} (hi0 : i ≠ 0) (hit : i ∉ G.tops) {up at_ : Int} {s : ByteArray} (hk : kd = 1 ∨ kd = 2 ∨ kd = 3)
end
theorem par_top0 {G : Fo} {x : Nat} : ∀ {F : Fo}, F.ids.Nodup → x ∈ F.tops → par x 0 F = 0
 | .nil, _, h => by simp [Fo.tops] at h
 | .nd j u k n, hn, h => by
  obtain ⟨n1, n2, n3, n4, n5⟩ := nodup_nd hn
  simp only [Fo.tops, List.mem_cons] at h
  rw [par]
  by_cases e : j = x
  ·rw [if_pos e]
  ·have hx : x ∈ n.tops := by grind
   rw [if_neg e, if_neg (fun g => n5 x g (tops_ids hx)), par_top0 (G := G) n4 hx]
theorem near_at_top {G : Fo} (hn : G.ids.Nodup) (h0 : ∀ x ∈ G.ids, x ≠ 0) {H : Fo} {q : Nat × Nat} {i : Nat} {s : Fo} (o : PutOk H q i s) (hH : ∀ x ∈ H.ids, x ≠ 0) : q.2 = 0 ∨ q.2 ∉ H.tops := by
 refine o.at_.imp id fun ⟨h1, h2⟩ ht => ?_
 have := par_top0 (G := G) o.nd ht
 rw [h2] at this
 exact hH _ o.up this
theorem do_tops {G : Fo} (hn : G.ids.Nodup) (h0 : ∀ x ∈ G.ids, x ≠ 0) {kd : Int} {i : Nat} (hi0 : i ≠ 0) (hit : i ∉ G.tops) {up at_ : Int} {s : ByteArray} {G' : Fo} (hd : Does G kd i up at_ s G') : G'.tops = G.tops ∧ G'.ids.Nodup ∧ (∀ x, x ∈ G'.ids ↔ x ∈ G.ids ∨ (kd = 1 ∧ x = i)) := by
 cases hd with
 | text h hi => exact ⟨setF_tops _ _ _, by rw [setF_ids]; exact hn, fun x => by rw [setF_ids, h]; simp⟩
 | make h hi o =>
  refine ⟨putF_tops (near_at_top hn h0 o h0), o.nodup, fun x => ?_⟩
  rw [o.mem]; simp [Fo.ids, h, or_comm]
 | move h hi hw o =>
  refine ⟨?_, o.nodup, fun x => by rw [o.ids, h]; simp⟩
  unfold mvF
  rw [putF_tops (near_at_top hn h0 o.put fun x hx => h0 x (del_ids_sub i hx)), tops_del i G hit]
 | none h => exact ⟨rfl, hn, fun x => ⟨Or.inl, fun g => g.elim id fun ⟨g1, g2⟩ => by rcases h with h | h | h | h <;> first | omega | exact g2 ▸ h.2⟩⟩
end Go.Proofs.YtkopimbbgckcnaaDoor.FP
namespace Go.Proofs.YtkopimbbgckcnaaDoor.PL
open Go.RowKit Go.Proofs.YtkopimbbgckcnaaDoor.P Go.Proofs.YtkopimbbgckcnaaDoorW.PrintWords Go.Proofs.YtkopimbbgckcnaaDoorW.PrintLast
def Bytes (b : List Int) : Prop := b.length ≤ 2000 ∧ ∀ x ∈ b, 0 ≤ x ∧ x ≤ 255
def Rd (p : Int) (m : Nat) : Prop := 0 ≤ p ∧ p + m ≤ 1000000
theorem Rd.less {p : Int} {m n : Nat} (h : Rd p m) (hn : n ≤ m) : Rd p n := ⟨h.1, by have := h.2; omega⟩
theorem wrap_id (x : Int) (h0 : -9223372036854775808 ≤ x) (h1 : x ≤ 9223372036854775807) : wrap64 x = x := by unfold wrap64; omega
theorem wraps_i64 (n : Int) (h0 : 0 ≤ n) (h1 : n < 2 ^ 62) : IntKind.i64.wrap n = n := by rw [IntKind.wrap_i64]; omega
theorem xor_pos (a b : Int) (ha : 0 ≤ a) (hb : 0 ≤ b) (ha' : a < 4611686018427387904) (hb' : b < 4611686018427387904) : 0 ≤ Go.bits .xor .i64 a b := by
 obtain ⟨m, rfl⟩ : ∃ m : Nat, a = m := ⟨a.toNat, by omega⟩
 obtain ⟨n, rfl⟩ : ∃ n : Nat, b = n := ⟨b.toNat, by omega⟩
 have hm : m < 2 ^ 62 := by omega
 have hn : n < 2 ^ 62 := by omega
 have e1 : m % 2 ^ 64 = m := Nat.mod_eq_of_lt (by omega)
 have e2 : n % 2 ^ 64 = n := Nat.mod_eq_of_lt (by omega)
 have hx : m ^^^ n < 2 ^ 62 := Nat.xor_lt_two_pow hm hn
 have hq : (BitVec.ofNat 64 m ^^^ BitVec.ofNat 64 n).toNat = m ^^^ n := by rw [BitVec.toNat_xor, BitVec.toNat_ofNat, BitVec.toNat_ofNat, e1, e2]
 have h2 : Go.bits .xor .i64 (m : Int) (n : Int) = IntKind.i64.wrap (((BitVec.ofNat 64 m ^^^ BitVec.ofNat 64 n).toNat : Nat) : Int) := by simp only [Go.bits, BitVec.ofInt_natCast]; rfl
 rw [h2, hq, wraps_i64 _ (by omega) (by omega)]
 omega
theorem rd_byte {b : List Int} (hb : Bytes b) (i : Int) : 0 ≤ rd b i ∧ rd b i ≤ 255 := by
 unfold rd
 rw [List.getD_eq_getElem?_getD]
 rcases Nat.lt_or_ge i.toNat b.length with h | h
 ·rw [List.getElem?_eq_getElem h]
  exact hb.2 _ (List.getElem_mem h)
 ·rw [List.getElem?_eq_none h]
  simp
theorem tmod_range (x n : Int) (hx : 0 ≤ x) (hn : 1 ≤ n) : 0 ≤ Int.tmod x n ∧ Int.tmod x n < n := by
 rw [Int.tmod_eq_emod_of_nonneg hx]
 exact ⟨Int.emod_nonneg _ (by omega), Int.emod_lt_of_pos _ (by omega)⟩
theorem pick_f (b : List Int) (p n : Int) (m : Nat) (hb : Bytes b) (hp : Rd p (m + 1)) : ∃ r : Int, Ev (fun k => spec_l6Rd_pick.f k b p n) (r, p + 1) ∧ Rd (p + 1) m ∧ 0 ≤ r ∧ (1 ≤ n → r < n) ∧ (n < 1 → r = 0) := by
 obtain ⟨h0, h1⟩ := hp
 have hR : Rd (p + 1) m := ⟨by omega, by omega⟩
 have w1 : wrap64 (p + 1) = p + 1 := wrap_id _ (by omega) (by omega)
 have w2 : wrap64 (p + 1 - 1) = p := by rw [wrap_id (p + 1 - 1) (by omega) (by omega)]; omega
 unfold spec_l6Rd_pick.f
 rw [w1]
 by_cases hn : n < 1
 ·refine ⟨0, ev_pos hn ?_, hR, Int.le_refl _, fun h => by omega, fun _ => rfl⟩
  refine Ev.step (f := fun _ => some (0, p + 1)) (fun k => ?_) (evnow _)
  simp only [spec_l6Rd_pick.j0, if_true]
 ·by_cases hl : b.length = 0
  ·refine ⟨0, ev_neg hn ?_, hR, Int.le_refl _, fun h => by omega, fun _ => rfl⟩
   refine Ev.step (f := fun _ => some (0, p + 1)) (fun k => ?_) (evnow _)
   have : ((b.length : Int) == 0) = true := by simp [hl]
   simp only [spec_l6Rd_pick.j0, this, if_true]
  ·have hf : ((b.length : Int) == 0) = false := beq_eq_false_iff_ne.2 (by omega)
   by_cases hk : p < (b.length : Int)
   ·have hx := rd_byte hb p
    have hr := tmod_range (wrap64 (rd b p)) n (by rw [wrap_id (rd b p) (by omega) (by omega)]; omega) (by omega)
    refine ⟨Int.tmod (wrap64 (rd b p)) n, ev_neg hn ?_, hR, hr.1, fun _ => hr.2, fun h => absurd h hn⟩
    refine Ev.step (f := fun _ => some (Int.tmod (wrap64 (rd b p)) n, p + 1)) (fun k => ?_) (evnow _)
    simp only [spec_l6Rd_pick.j0, hf, Bool.false_eq_true, if_false, w2]
    rw [if_pos hk, if_pos h0, if_neg (show ¬ n = 0 by omega)]
   ·have hlen : (1 : Int) ≤ b.length := by omega
    have m1 := tmod_range p b.length h0 hlen
    have e7 : wrap64 (p * 7) = p * 7 := wrap_id _ (by omega) (by omega)
    have e73 : wrap64 (p * 7 + 3) = p * 7 + 3 := wrap_id _ (by omega) (by omega)
    have m2 := tmod_range (p * 7 + 3) b.length (by omega) hlen
    have x1 := rd_byte hb (Int.tmod p b.length)
    have x2 := rd_byte hb (Int.tmod (p * 7 + 3) b.length)
    have d1 : 0 ≤ Int.tdiv p b.length ∧ Int.tdiv p b.length ≤ 1000000 := by
     rw [Int.tdiv_eq_ediv_of_nonneg h0]
     exact ⟨Int.ediv_nonneg h0 (by omega), Int.le_trans (Int.ediv_le_self _ h0) (by omega)⟩
    obtain ⟨r, hr⟩ : ∃ r, r = Int.tmod (Go.bits .xor .i64 (wrap64 ((wrap64 ((wrap64 ((wrap64 ((wrap64 (rd b (Int.tmod p (b.length : Int)))) * 131)) + (wrap64 ((wrap64 (rd b (Int.tmod (p * 7 + 3) (b.length : Int)))) * 1117)))) + (wrap64 (p * 29)))) + (wrap64 ((wrap64 (Int.tdiv p (b.length : Int))) * 53)))) (wrap64 (Int.tdiv (wrap64 ((wrap64 ((wrap64 ((wrap64 ((wrap64 (rd b (Int.tmod p (b.length : Int)))) * 131)) + (wrap64 ((wrap64 (rd b (Int.tmod (p * 7 + 3) (b.length : Int)))) * 1117)))) + (wrap64 (p * 29)))) + (wrap64 ((wrap64 (Int.tdiv p (b.length : Int))) * 53)))) 64))) n := ⟨_, rfl⟩
    have hrr : 0 ≤ r ∧ r < n := by
     rw [hr]
     refine tmod_range _ n ?_ (by omega)
     generalize rd b (Int.tmod p (b.length : Int)) = u at x1
     generalize rd b (Int.tmod (p * 7 + 3) (b.length : Int)) = v at x2
     generalize Int.tdiv p (b.length : Int) = d at d1
     rw [wrap_id u (by omega) (by omega), wrap_id v (by omega) (by omega), wrap_id d (by omega) (by omega)]
     rw [wrap_id (u * 131) (by omega) (by omega), wrap_id (v * 1117) (by omega) (by omega), wrap_id (p * 29) (by omega) (by omega), wrap_id (d * 53) (by omega) (by omega)]
     rw [wrap_id (u * 131 + v * 1117) (by omega) (by omega)]
     rw [wrap_id (u * 131 + v * 1117 + p * 29) (by omega) (by omega)]
     rw [wrap_id (u * 131 + v * 1117 + p * 29 + d * 53) (by omega) (by omega)]
     have hs : Int.tdiv (u * 131 + v * 1117 + p * 29 + d * 53) 64 = (u * 131 + v * 1117 + p * 29 + d * 53) / 64 := Int.tdiv_eq_ediv_of_nonneg (by omega)
     rw [hs, wrap_id _ (by omega) (by omega)]
     exact xor_pos _ _ (by omega) (by omega) (by omega) (by omega)
    refine ⟨r, ev_neg hn ?_, hR, hrr.1, fun _ => hrr.2, fun h => absurd h hn⟩
    refine Ev.step (f := fun _ => some (r, p + 1)) (fun k => ?_) (evnow _)
    simp only [spec_l6Rd_pick.j0, hf, Bool.false_eq_true, if_false, w2, e7, e73]
    rw [if_neg hk, if_neg (show ¬ (b.length : Int) = 0 by omega), if_pos m1.1, if_pos m1.2, if_pos m2.1, if_pos m2.2, if_neg (show ¬ n = 0 by omega), hr]
theorem rdR_get (t : List S43) (i : Nat) (h : i < t.length) : rd_T43 t i = t[i] := by
 unfold rd_T43
 rw [List.getD_eq_getElem?_getD, show ((i : Int)).toNat = i from rfl, List.getElem?_eq_getElem h]
 rfl
def atFrom (id : Int) : List S43 → Nat → Int
 | [], _ => -1
 | r :: rest, i => if r.f0 = id then (i : Int) else atFrom id rest (i + 1)
def atI (t : List S43) (id : Int) : Int := atFrom id t 0
theorem at_l0 (t : List S43) (id : Int) (hl : t.length ≤ 1099511627776) : ∀ (n i : Nat), i + n = t.length → Ev (fun k => spec_l2At.l0 k t id i) (atFrom id (t.drop i) i)
 | 0, i, h => by
  rw [List.drop_eq_nil_of_le (by omega)]
  refine Ev.step (f := fun _ => some (-1)) (fun k => ?_) (evnow _)
  simp only [spec_l2At.l0]; rw [if_neg (by omega)]
 | n + 1, i, h => by
  have hi : i < t.length := by omega
  rw [List.drop_eq_getElem_cons hi]
  unfold atFrom
  by_cases hq : t[i].f0 = id
  ·rw [if_pos hq]
   refine Ev.step (f := fun _ => some (i : Int)) (fun k => ?_) (evnow _)
   simp only [spec_l2At.l0]
   rw [if_pos (by omega), if_pos (by omega), rdR_get t i hi, if_pos hq]
  ·rw [if_neg hq]
   refine Ev.step (fun k => ?_) (at_l0 t id hl n (i + 1) (by omega))
   simp only [spec_l2At.l0]
   rw [if_pos (by omega), if_pos (by omega), rdR_get t i hi, if_neg hq, wrapS i (by omega) (by omega)]
   rfl
theorem at_f (t : List S43) (id : Int) (hl : t.length ≤ 1099511627776) : Ev (fun k => spec_l2At.f k t id) (atI t id) := at_l0 t id hl t.length 0 (by omega)
theorem atFrom_spec (id : Int) : ∀ (t : List S43) (i : Nat), (atFrom id t i = -1 ∧ ∀ x ∈ t, x.f0 ≠ id) ∨ ∃ (j : Nat) (h : j < t.length), atFrom id t i = ((i + j : Nat) : Int) ∧ t[j].f0 = id
 | [], i => Or.inl ⟨rfl, fun x hx => by cases hx⟩
 | r :: rest, i => by
  unfold atFrom
  by_cases hq : r.f0 = id
  ·rw [if_pos hq]
   exact Or.inr ⟨0, by simp, by simp, hq⟩
  ·rw [if_neg hq]
   rcases atFrom_spec id rest (i + 1) with ⟨h1, h2⟩ | ⟨j, h, h1, h2⟩
   ·refine Or.inl ⟨h1, fun x hx => ?_⟩
    rcases List.mem_cons.1 hx with rfl | hx
    ·exact hq
    ·exact h2 x hx
   ·exact Or.inr ⟨j + 1, by simp; omega, by rw [h1]; congr 1; omega, by simpa using h2⟩
theorem atI_spec (t : List S43) (id : Int) : (atI t id = -1 ∧ ∀ x ∈ t, x.f0 ≠ id) ∨ ∃ (j : Nat) (h : j < t.length), atI t id = (j : Int) ∧ t[j].f0 = id := by
 rcases atFrom_spec id t 0 with h | ⟨j, h, h1, h2⟩
 ·exact Or.inl h
 ·exact Or.inr ⟨j, h, by rw [atI, h1]; congr 1; omega, h2⟩
theorem atI_mem {t : List S43} {id : Int} {x : S43} (hx : x ∈ t) (h : x.f0 = id) : ∃ (j : Nat) (hj : j < t.length), atI t id = (j : Int) ∧ t[j].f0 = id := by
 rcases atI_spec t id with ⟨_, h2⟩ | h2
 ·exact absurd h (h2 x hx)
 ·exact h2
def endFrom (d : Int) : List S43 → Nat → Nat
 | [], e => e
 | r :: rest, e => if r.f1 > d then endFrom d rest (e + 1) else e
def endI (t : List S43) (i : Nat) : Nat := endFrom (t.getD i z43).f1 (t.drop (i + 1)) (i + 1)
theorem getD_get (t : List S43) (i : Nat) (h : i < t.length) : t.getD i z43 = t[i] := by
 rw [List.getD_eq_getElem?_getD, List.getElem?_eq_getElem h]
 rfl
theorem end_l0 (t : List S43) (a : Nat) (ha : a < t.length) (hl : t.length ≤ 1099511627776) : ∀ (n i : Nat), i + n = t.length → Ev (fun k => spec_l2End.l0 k t a i) (endFrom t[a].f1 (t.drop i) i : Int)
 | 0, i, h => by
  rw [List.drop_eq_nil_of_le (by omega)]
  refine Ev.step (f := fun _ => some (i : Int)) (fun k => ?_) (evnow _)
  simp only [spec_l2End.l0]; rw [if_neg (by omega)]
 | n + 1, i, h => by
  have hi : i < t.length := by omega
  rw [List.drop_eq_getElem_cons hi]
  unfold endFrom
  by_cases hq : t[i].f1 > t[a].f1
  ·rw [if_pos hq]
   refine Ev.step (fun k => ?_) (end_l0 t a ha hl n (i + 1) (by omega))
   simp only [spec_l2End.l0]
   rw [if_pos (by omega), if_pos (by omega), if_pos (by omega), if_pos (by omega), rdR_get t i hi, rdR_get t a ha, if_pos hq, wrapS i (by omega) (by omega)]
   rfl
  ·rw [if_neg hq]
   refine Ev.step (f := fun _ => some (i : Int)) (fun k => ?_) (evnow _)
   simp only [spec_l2End.l0]
   rw [if_pos (by omega), if_pos (by omega), if_pos (by omega), if_pos (by omega), rdR_get t i hi, rdR_get t a ha, if_neg hq]
theorem end_f (t : List S43) (a : Nat) (ha : a < t.length) (hl : t.length ≤ 1099511627776) : Ev (fun k => spec_l2End.f k t a) (endI t a : Int) := by
 have := end_l0 t a ha hl (t.length - (a + 1)) (a + 1) (by omega)
 unfold endI
 rw [getD_get t a ha]
 refine Ev.congr (fun k => ?_) this
 unfold spec_l2End.f
 rw [wrapS a (by omega) (by omega)]
 rfl
theorem endFrom_spec (d : Int) : ∀ (t : List S43) (e : Nat), e ≤ endFrom d t e ∧ endFrom d t e ≤ e + t.length ∧ (∀ (j : Nat) (hj : j < t.length), e + j < endFrom d t e → d < t[j].f1) ∧ (∀ (hj : endFrom d t e - e < t.length), t[endFrom d t e - e].f1 ≤ d)
 | [], e => ⟨Nat.le_refl _, by simp [endFrom], fun j hj => by simp at hj, fun hj => by simp at hj⟩
 | r :: rest, e => by
  by_cases hq : r.f1 > d
  ·have he : endFrom d (r :: rest) e = endFrom d rest (e + 1) := if_pos hq
   obtain ⟨h1, h2, h3, h4⟩ := endFrom_spec d rest (e + 1)
   refine ⟨by rw [he]; omega, by rw [he]; simp; omega, fun j hj hlt => ?_, fun hj => ?_⟩
   ·rw [he] at hlt
    cases j with
    | zero => exact hq
    | succ j => exact h3 j (by simpa using hj) (by omega)
   ·have e1 : endFrom d (r :: rest) e - e = (endFrom d rest (e + 1) - (e + 1)) + 1 := by rw [he]; omega
    have hj' : endFrom d rest (e + 1) - (e + 1) < rest.length := by rw [e1] at hj; simpa using hj
    have := h4 hj'
    simp only [e1, List.getElem_cons_succ]
    exact this
  ·have he : endFrom d (r :: rest) e = e := if_neg hq
   refine ⟨by rw [he]; exact Nat.le_refl _, by rw [he]; omega, fun j hj hlt => by rw [he] at hlt; omega, fun hj => ?_⟩
   have e1 : endFrom d (r :: rest) e - e = 0 := by rw [he]; omega
   simp only [e1, List.getElem_cons_zero]
   omega
theorem endI_spec (t : List S43) (a : Nat) (ha : a < t.length) : a < endI t a ∧ endI t a ≤ t.length ∧ (∀ (j : Nat) (hj : j < t.length), a < j → j < endI t a → t[a].f1 < t[j].f1) ∧ (∀ (hj : endI t a < t.length), t[endI t a].f1 ≤ t[a].f1) := by
 unfold endI
 rw [getD_get t a ha]
 obtain ⟨h1, h2, h3, h4⟩ := endFrom_spec t[a].f1 (t.drop (a + 1)) (a + 1)
 rw [List.length_drop] at h2
 refine ⟨by omega, by omega, fun j hj h5 h6 => ?_, fun hj => ?_⟩
 ·have := h3 (j - (a + 1)) (by rw [List.length_drop]; omega) (by omega)
  rw [List.getElem_drop] at this
  simpa [show a + 1 + (j - (a + 1)) = j by omega] using this
 ·have := h4 (by rw [List.length_drop]; omega)
  rw [List.getElem_drop] at this
  simpa [show a + 1 + (endFrom t[a].f1 (t.drop (a + 1)) (a + 1) - (a + 1)) = endFrom t[a].f1 (t.drop (a + 1)) (a + 1) by omega] using this
def KidOf (t : List S43) (a i : Nat) (x : Int) : Prop := ∃ (ha : a < t.length) (j : Nat) (hj : j < t.length), i ≤ j ∧ j < endI t a ∧ t[j].f0 = x ∧ t[j].f1 = wrap64 (t[a].f1 + 1)
theorem kids_l0 (t : List S43) (a : Nat) (ha : a < t.length) (hl : t.length ≤ 1099511627776) : ∀ (n i : Nat) (acc : List Int), i + n = endI t a → acc.length + n ≤ 1099511627776 →
  ∃ r : List Int, Ev (fun k => spec_l2Kids.l0 k t acc a i) (acc ++ r) ∧ r.length ≤ n ∧ ∀ x ∈ r, KidOf t a i x
 | 0, i, acc, h, hacc => by
  refine ⟨[], ?_, by simp, fun x hx => by cases hx⟩
  rw [List.append_nil]
  refine Ev.step (fun k => by simp only [spec_l2Kids.l0]; rfl) ?_
  refine Ev.bind (end_f t a ha hl) ?_
  refine ev_neg (by omega) ?_
  exact evnow _
 | n + 1, i, acc, h, hacc => by
  obtain ⟨e1, e2, _, _⟩ := endI_spec t a ha
  have hi : i < t.length := by omega
  by_cases hq : t[i].f1 = wrap64 (t[a].f1 + 1)
  ·obtain ⟨r, hr, hlen, hk⟩ := kids_l0 t a ha hl n (i + 1) (acc ++ [t[i].f0]) (by omega) (by simp; omega)
   refine ⟨t[i].f0 :: r, ?_, by simp; omega, fun x hx => ?_⟩
   ·rw [List.append_assoc] at hr
    refine Ev.step (fun k => by simp only [spec_l2Kids.l0]; rfl) ?_
    refine Ev.bind (end_f t a ha hl) ?_
    refine ev_pos (by omega) (ev_pos (by omega) (ev_pos (by omega) (ev_pos (by omega) (ev_pos (by omega) ?_))))
    rw [rdR_get t i hi, rdR_get t a ha, wrapS i (by omega) (by omega)]
    refine ev_pos hq (ev_pos (by omega) ?_)
    exact hr
   ·rcases List.mem_cons.1 hx with rfl | hx
    ·exact ⟨ha, i, hi, Nat.le_refl _, by omega, rfl, hq⟩
    ·obtain ⟨h1, j, hj, h2, h3, h4, h5⟩ := hk x hx
     exact ⟨h1, j, hj, by omega, h3, h4, h5⟩
  ·obtain ⟨r, hr, hlen, hk⟩ := kids_l0 t a ha hl n (i + 1) acc (by omega) (by omega)
   refine ⟨r, ?_, by omega, fun x hx => ?_⟩
   ·refine Ev.step (fun k => by simp only [spec_l2Kids.l0]; rfl) ?_
    refine Ev.bind (end_f t a ha hl) ?_
    refine ev_pos (by omega) (ev_pos (by omega) (ev_pos (by omega) (ev_pos (by omega) (ev_pos (by omega) ?_))))
    rw [rdR_get t i hi, rdR_get t a ha, wrapS i (by omega) (by omega)]
    refine ev_neg hq ?_
    exact hr
   ·obtain ⟨h1, j, hj, h2, h3, h4, h5⟩ := hk x hx
    exact ⟨h1, j, hj, by omega, h3, h4, h5⟩
theorem kids_f (t : List S43) (id : Int) (hl : t.length ≤ 1000000) : ∃ r : List Int, Ev (fun k => spec_l2Kids.f k t id) r ∧ r.length ≤ t.length ∧ ∀ x ∈ r, ∃ a : Nat, atI t id = (a : Int) ∧ KidOf t a (a + 1) x := by
 unfold spec_l2Kids.f
 simp only [Option.bind_some]
 rcases atI_spec t id with ⟨h1, _⟩ | ⟨a, ha, h1, _⟩
 ·refine ⟨[], ?_, by simp, fun x hx => by cases hx⟩
  refine Ev.bind (at_f t id (by omega)) ?_
  rw [h1]
  exact ev_pos (by omega) (evnow _)
 ·obtain ⟨e1, e2, _, _⟩ := endI_spec t a ha
  obtain ⟨r, hr, hlen, hk⟩ := kids_l0 t a ha (by omega) (endI t a - (a + 1)) (a + 1) [] (by omega) (by simp; omega)
  refine ⟨r, ?_, by omega, fun x hx => ⟨a, h1, hk x hx⟩⟩
  refine Ev.bind (at_f t id (by omega)) ?_
  rw [h1]
  refine ev_neg (by omega) ?_
  rw [wrapS a (by omega) (by omega)]
  exact hr
def shift (d : Int) (r : S43) : S43 := ⟨r.f0, wrap64 (r.f1 + d), r.f2⟩
theorem put_l0 (t rows : List S43) (d : Int) (p : Nat) (hp : p ≤ t.length) (hl : t.length ≤ 1000000) (hr : rows.length ≤ 1000000) : ∀ (n i : Nat) (acc : List S43), i + n = rows.length → acc.length + n ≤ 3000000 →
  Ev (fun k => spec_l3Put.l0 k t rows d p acc i) (acc ++ (rows.drop i).map (shift d) ++ t.drop p)
 | 0, i, acc, h, ha => by
  rw [List.drop_eq_nil_of_le (show rows.length ≤ i by omega), List.map_nil, List.append_nil]
  refine Ev.step (fun k => by simp only [spec_l3Put.l0]; rfl) ?_
  refine ev_neg (by omega) (ev_pos (by omega) (ev_pos (by omega) ?_))
  simp only [Option.bind_some]
  refine ev_pos (by rw [List.length_drop]; omega) ?_
  exact evnow _
 | n + 1, i, acc, h, ha => by
  have hi : i < rows.length := by omega
  rw [List.drop_eq_getElem_cons hi, List.map_cons]
  have ih := put_l0 t rows d p hp hl hr n (i + 1) (acc ++ [shift d rows[i]]) (by omega) (by simp; omega)
  rw [List.append_assoc acc] at ih
  refine Ev.step (fun k => by simp only [spec_l3Put.l0]; rfl) ?_
  refine ev_pos (by omega) (ev_pos (by omega) (ev_pos (by omega) ?_))
  rw [rdR_get rows i hi, wrapS i (by omega) (by omega)]
  exact ih
theorem put_f (t rows : List S43) (u a : Int) (hl : t.length ≤ 1000000) (hr : rows.length ≤ 1000000) (h0 : 0 < rows.length) (hu : ∃ x ∈ t, x.f0 = u) (ha : a > 0 → ∃ x ∈ t, x.f0 = a) :
  ∃ (y : S43) (p : Nat), y ∈ t ∧ y.f0 = u ∧ p ≤ t.length ∧ Ev (fun k => spec_l3Put.f k t rows u a) (t.take p ++ rows.map (shift (wrap64 (wrap64 (y.f1 + 1) - rows[0].f1))) ++ t.drop p) := by
 obtain ⟨x, hx, hxu⟩ := hu
 obtain ⟨j, hj, e1, e2⟩ := atI_mem hx hxu
 have fin : ∀ (p : Nat), p ≤ t.length → Ev (fun k => spec_l3Put.j0 k t rows (wrap64 (wrap64 (t[j].f1 + 1) - rows[0].f1)) p) (t.take p ++ rows.map (shift (wrap64 (wrap64 (t[j].f1 + 1) - rows[0].f1))) ++ t.drop p) := fun p hp => by
  refine Ev.step (fun k => by simp only [spec_l3Put.j0]; rfl) ?_
  simp only [Option.bind_some]
  refine ev_pos (by omega) (ev_pos (by omega) ?_)
  refine ev_pos (by simp; omega) ?_
  simp only [List.nil_append, Int.toNat_natCast]
  have := put_l0 t rows (wrap64 (wrap64 (t[j].f1 + 1) - rows[0].f1)) p hp hl hr rows.length 0 (t.take p) (by omega) (by rw [List.length_take]; omega)
  simpa using this
 have r0 : rd_T43 rows 0 = rows[0] := rdR_get rows 0 h0
 by_cases h : a > 0
 ·obtain ⟨x2, hx2, hxa⟩ := ha h
  obtain ⟨i, hi, e3, e4⟩ := atI_mem hx2 hxa
  obtain ⟨_, e5, _, _⟩ := endI_spec t i hi
  refine ⟨t[j], endI t i, List.getElem_mem hj, e2, e5, ?_⟩
  unfold spec_l3Put.f
  refine Ev.bind (at_f t u (by omega)) ?_
  rw [e1]
  refine ev_pos (by omega) (ev_pos (by omega) (ev_pos (by omega) (ev_pos h ?_)))
  refine Ev.bind (at_f t a (by omega)) ?_
  rw [e3]
  refine Ev.bind (end_f t i hi (by omega)) ?_
  rw [rdR_get t j hj, r0]
  exact fin _ e5
 ·refine ⟨t[j], j + 1, List.getElem_mem hj, e2, by omega, ?_⟩
  unfold spec_l3Put.f
  refine Ev.bind (at_f t u (by omega)) ?_
  rw [e1]
  refine ev_pos (by omega) (ev_pos (by omega) (ev_pos (by omega) (ev_neg h ?_)))
  rw [rdR_get t j hj, r0, wrapS j (by omega) (by omega)]
  exact fin (j + 1) (by omega)
theorem under_f (t : List S43) (u id : Int) (k : Nat) (hk : k < t.length) (hi : atI t id = (k : Int)) (hl : t.length ≤ 1000000) :
  Ev (fun n => spec_l2Under.f n t u id) (decide (0 ≤ atI t u) && (decide ((k : Int) ≤ atI t u) && decide (atI t u ≤ (endI t k : Int) - 1))) := by
 obtain ⟨e1, e2, _, _⟩ := endI_spec t k hk
 unfold spec_l2Under.f
 refine Ev.bind (at_f t u (by omega)) ?_
 refine Ev.bind (at_f t id (by omega)) ?_
 rw [hi]
 by_cases h : atI t u ≥ 0
 ·refine ev_pos h (ev_pos (by omega) ?_)
  refine Ev.bind (end_f t k hk (by omega)) ?_
  have hw : wrap64 ((endI t k : Int) - 1) = (endI t k : Int) - 1 := by unfold wrap64; omega
  rw [hw, in_f, decide_eq_true (show 0 ≤ atI t u from h), Bool.true_and]
  simp only [Option.bind_some]
  exact evnow _
 ·rw [decide_eq_false (show ¬ 0 ≤ atI t u from h), Bool.false_and]
  exact ev_neg h (evnow _)
theorem where_l0 (u : Int) (ks : List Int) (kd id up at_ : Int) (s : ByteArray) (hl : ks.length ≤ 1000000) : ∀ (n i : Nat) (a : Int), i + n = ks.length → (a > 0 → a ∈ ks ∧ a ≠ id) → ∃ a' : Int, Ev (fun k => spec_l3Where.l0 k u a ks i kd id up at_ s) (u, a', true) ∧ (a' > 0 → a' ∈ ks ∧ a' ≠ id)
 | 0, i, a, h, ha => ⟨a, by
   refine Ev.step (fun k => by simp only [spec_l3Where.l0]; rfl) ?_
   exact ev_neg (by omega) (evnow _), ha⟩
 | n + 1, i, a, h, ha => by
  have hi : i < ks.length := by omega
  have hrd : rd ks i = ks[i] := by
   unfold rd
   rw [List.getD_eq_getElem?_getD, show ((i : Int)).toNat = i from rfl, List.getElem?_eq_getElem hi]
   rfl
  by_cases hq : ks[i] = at_ ∧ at_ ≠ id
  ·obtain ⟨a', h1, h2⟩ := where_l0 u ks kd id up at_ s hl n (i + 1) at_ (by omega) (fun _ => ⟨hq.1 ▸ List.getElem_mem hi, hq.2⟩)
   refine ⟨a', ?_, h2⟩
   refine Ev.step (fun k => by simp only [spec_l3Where.l0]; rfl) ?_
   rw [hrd, wrapS i (by omega) (by omega)]
   exact ev_pos (by omega) (ev_pos (by omega) (ev_pos hq.1 (ev_neg hq.2 h1)))
  ·obtain ⟨a', h1, h2⟩ := where_l0 u ks kd id up at_ s hl n (i + 1) a (by omega) ha
   refine ⟨a', ?_, h2⟩
   refine Ev.step (fun k => by simp only [spec_l3Where.l0]; rfl) ?_
   rw [hrd, wrapS i (by omega) (by omega)]
   refine ev_pos (by omega) (ev_pos (by omega) ?_)
   by_cases h3 : ks[i] = at_
   ·refine ev_pos h3 (ev_pos ?_ h1)
    by_cases h4 : at_ = id
    ·exact h4
    ·exact absurd ⟨h3, h4⟩ hq
   ·exact ev_neg h3 h1
structure Inv (t : List S43) (B : Int) : Prop where
 deep : ∀ x ∈ t, 0 ≤ x.f1 ∧ x.f1 ≤ B
 root : ∀ x ∈ t, x.f0 = 3 → x.f1 = 0
 found : ∃ x ∈ t, x.f0 = 3
 ids : ∀ x ∈ t, I64 x.f0 ∧ x.f2.size ≤ 2000
def Fits (t : List S43) (kd id : Int) (u a : Int) : Prop :=
 kd ≠ 2 ∧ (kd ≠ 3 → atI t id = -1) ∧ (kd = 3 → ∃ k : Nat, k < t.length ∧ atI t id = (k : Int)) ∧
 ∃ (p : Nat) (hp : p < t.length), t[p].f0 = u ∧ (a > 0 → ∃ (q : Nat) (hq : q < t.length), t[q].f0 = a ∧ ∀ k : Nat, kd = 3 → atI t id = (k : Int) → ¬ (k ≤ q ∧ q < endI t k)) ∧
  ∀ k : Nat, kd = 3 → atI t id = (k : Int) → ¬ (k ≤ p ∧ p < endI t k)
theorem where_f (t : List S43) (B kd id up at_ : Int) (s : ByteArray) (hI : Inv t B) (hB : B ≤ 1099511627776) (hid : id ≠ 3) (hl : t.length ≤ 1000000) :
  ∃ (u a : Int) (ok : Bool), Ev (fun n => spec_l3Where.f n t kd id up at_ s) (u, a, ok) ∧ (ok = true → Fits t kd id u a) := by
 have none_ : ∀ f : Nat → Option (Int × Int × Bool), (∀ n, f n = spec_l3Where.j0 n t true kd id up at_ s) → Ev f (0, 0, false) := fun f hf =>
  Ev.congr hf (Ev.step (f := fun _ => some (0, 0, false)) (fun n => by simp only [spec_l3Where.j0, if_true]) (evnow _))
 unfold spec_l3Where.f
 by_cases h2 : kd = 2
 ·exact ⟨0, 0, false, Ev.bind (at_f t id (by omega)) (ev_pos h2 (none_ _ (fun n => rfl))), fun h => by cases h⟩
 ·by_cases h3 : ((decide (atI t id ≥ 0)) != (kd == 3)) = true
  ·exact ⟨0, 0, false, Ev.bind (at_f t id (by omega)) (ev_neg h2 (ev_pos h3 (none_ _ (fun n => rfl)))), fun h => by cases h⟩
  ·have h3' : decide (atI t id ≥ 0) = (kd == 3) := by simpa using h3
   -- the rest: 'up' is there, or it isn't
   have rest : (∀ (p k : Nat), atI t up = (p : Int) → kd = 3 → atI t id = (k : Int) → ¬ (k ≤ p ∧ p < endI t k)) → ∃ (u a : Int), Ev (fun n => spec_l3Where.j0 n t false kd id up at_ s) (u, a, true) ∧ Fits t kd id u a := by
    intro hout
    have c1 : kd ≠ 3 → atI t id = -1 := fun hk => by
     have : (kd == 3) = false := beq_eq_false_iff_ne.2 hk
     rw [this] at h3'
     have h4 := of_decide_eq_false h3'
     rcases atI_spec t id with ⟨h5, _⟩ | ⟨j, hj, h5, _⟩
     ·exact h5
     ·omega
    have c2 : kd = 3 → ∃ k : Nat, k < t.length ∧ atI t id = (k : Int) := fun hk => by
     have : (kd == 3) = true := beq_iff_eq.2 hk
     rw [this] at h3'
     have h4 := of_decide_eq_true h3'
     rcases atI_spec t id with ⟨h5, _⟩ | ⟨j, hj, h5, _⟩
     ·omega
     ·exact ⟨j, hj, h5⟩
    rcases atI_spec t up with ⟨h5, _⟩ | ⟨p, hp, h5, h6⟩
    ·obtain ⟨x, hx, hx3⟩ := hI.found
     obtain ⟨p, hp, rfl⟩ := List.getElem_of_mem hx
     refine ⟨3, 0, ?_, h2, c1, c2, p, hp, hx3, fun h => by omega, fun k hk hik hin => ?_⟩
     ·refine Ev.step (fun n => by simp only [spec_l3Where.j0]; rfl) ?_
      refine ev_neg (by decide) ?_
      refine Ev.bind (at_f t up (by omega)) ?_
      exact ev_pos (by omega) (evnow _)
     ·obtain ⟨k', hk', e⟩ := c2 hk
      obtain rfl : k' = k := by omega
      rcases Nat.eq_or_lt_of_le hin.1 with e6 | e6
      ·subst e6
       rcases atI_spec t id with ⟨h7, _⟩ | ⟨j, hj, h7, h8⟩
       ·omega
       ·obtain rfl : j = k' := by omega
        exact hid (h8.symm.trans hx3)
      ·have := (endI_spec t k' hk').2.2.1 p hp e6 hin.2
       have d1 := (hI.deep _ (List.getElem_mem hk')).1
       have d2 := hI.root _ hx hx3
       omega
    ·obtain ⟨ks, hks, hkl, hkk⟩ := kids_f t up hl
     obtain ⟨a, ha, hak⟩ := where_l0 up ks kd id up at_ s (by omega) ks.length 0 0 (by omega) (fun h => by omega)
     refine ⟨up, a, ?_, h2, c1, c2, p, hp, h6, fun hpos => ?_, fun k hk hik => hout p k h5 hk hik⟩
     ·refine Ev.step (fun n => by simp only [spec_l3Where.j0]; rfl) ?_
      refine ev_neg (by decide) ?_
      refine Ev.bind (at_f t up (by omega)) ?_
      refine ev_neg (by omega) ?_
      exact Ev.bind hks ha
     ·obtain ⟨hmem, hne⟩ := hak hpos
      obtain ⟨p', hp', hpl, q, hq, hq1, hq2, hq3, hq4⟩ := hkk a hmem
      obtain rfl : p' = p := by omega
      refine ⟨q, hq, hq3, fun k hk hik hin => ?_⟩
      obtain ⟨k', hk', e⟩ := c2 hk
      obtain rfl : k' = k := by omega
      have out := hout p' k' h5 hk hik
      have hkq : k' ≠ q := by
       rintro rfl
       rcases atI_spec t id with ⟨h7, _⟩ | ⟨j, hj, h7, h8⟩
       ·omega
       ·obtain rfl : j = k' := by omega
        exact hne (hq3.symm.trans h8)
      have dq := (endI_spec t k' hk').2.2.1 q hq (by omega) hin.2
      have dB := hI.deep _ (List.getElem_mem hp)
      have hw : wrap64 (t[p'].f1 + 1) = t[p'].f1 + 1 := wrap_id _ (by omega) (by omega)
      rw [hw] at hq4
      rcases Nat.lt_or_ge p' k' with h9 | h9
      ·have := (endI_spec t p' hp).2.2.1 k' hk' h9 (by omega)
       omega
      ·exact out ⟨h9, by omega⟩
   by_cases h4 : atI t id ≥ 0
   ·have h33 : kd = 3 := by
     rw [decide_eq_true h4] at h3'
     exact beq_iff_eq.1 h3'.symm
    rcases atI_spec t id with ⟨h5, _⟩ | ⟨k, hk, h5, h6⟩
    ·omega
    have hu := under_f t up id k hk h5 hl
    cases hd : (decide (0 ≤ atI t up) && (decide ((k : Int) ≤ atI t up) && decide (atI t up ≤ (endI t k : Int) - 1))) with
    | true =>
     rw [hd] at hu
     exact ⟨0, 0, false, Ev.bind (at_f t id (by omega)) (ev_neg h2 (ev_neg h3 (ev_pos h4 (Ev.bind hu (none_ _ (fun n => rfl)))))), fun h => by cases h⟩
    | false =>
     rw [hd] at hu
     obtain ⟨u, a, h7, h8⟩ := rest (fun p k2 hp _ hk2 hin => by
      obtain rfl : k2 = k := by omega
      have : (decide (0 ≤ atI t up) && (decide ((k2 : Int) ≤ atI t up) && decide (atI t up ≤ (endI t k2 : Int) - 1))) = true := by
       simp only [Bool.and_eq_true, decide_eq_true_eq]
       omega
      rw [this] at hd
      cases hd)
     exact ⟨u, a, true, Ev.bind (at_f t id (by omega)) (ev_neg h2 (ev_neg h3 (ev_pos h4 (Ev.bind hu h7)))), fun _ => h8⟩
   ·obtain ⟨u, a, h7, h8⟩ := rest (fun p k2 hp _ hk2 hin => by omega)
    exact ⟨u, a, true, Ev.bind (at_f t id (by omega)) (ev_neg h2 (ev_neg h3 (ev_neg h4 h7))), fun _ => h8⟩
theorem mem_rest {t : List S43} {k e j : Nat} (hj : j < t.length) (h : ¬ (k ≤ j ∧ j < e)) (hk : k ≤ e) : t[j] ∈ t.take k ++ t.drop e := by
 rcases Nat.lt_or_ge j k with h1 | h1
 ·exact List.mem_append_left _ (List.mem_take_iff_getElem.2 ⟨j, by omega, rfl⟩)
 ·exact List.mem_append_right _ (List.mem_drop_iff_getElem.2 ⟨j - e, by omega, by congr 1; omega⟩)
theorem rest_mem {t : List S43} {k e : Nat} {x : S43} (h : x ∈ t.take k ++ t.drop e) : x ∈ t := by
 rcases List.mem_append.1 h with h | h
 ·exact List.mem_of_mem_take h
 ·exact List.mem_of_mem_drop h
theorem Inv.more {t : List S43} {B C : Int} (h : Inv t B) (hc : B ≤ C) : Inv t C := ⟨fun x hx => ⟨(h.deep x hx).1, Int.le_trans (h.deep x hx).2 hc⟩, h.root, h.found, h.ids⟩
theorem do_f (t : List S43) (B kd id up at_ : Int) (s : ByteArray) (hI : Inv t B) (hB0 : 0 ≤ B) (hB : B ≤ 1099511627776) (hk : kd = 1 ∨ kd = 2 ∨ kd = 3) (hid : id ≠ 3) (hid64 : I64 id) (hl : t.length ≤ 100000) (hs : s.size ≤ 2000) :
  ∃ t' : List S43, Ev (fun n => spec_l3Do.f n t kd id up at_ s) t' ∧ Inv t' (2 * B + 1) ∧ (t'.length ≤ t.length + 1 ∧ t.length ≤ t'.length) := by
 have same : ∀ y : List S43, y = t → Inv y (2 * B + 1) ∧ (y.length ≤ t.length + 1 ∧ t.length ≤ y.length) := fun y hy => by
  subst hy
  exact ⟨hI.more (by omega), by omega⟩
 unfold spec_l3Do.f
 by_cases h2 : kd = 2
 ·rcases atI_spec t id with ⟨h5, _⟩ | ⟨k, hk', h5, h6⟩
  ·refine ⟨[] ++ t, Ev.bind (at_f t id (by omega)) (ev_pos h2 ?_), same _ (by simp)⟩
   simp only [Option.bind_some]
   refine ev_pos (by simp; omega) ?_
   rw [h5]
   exact ev_neg (by omega) (evnow _)
  ·refine ⟨t.set k ⟨t[k].f0, t[k].f1, s⟩, Ev.bind (at_f t id (by omega)) (ev_pos h2 ?_), ?_, by rw [List.length_set]; omega⟩
   ·simp only [Option.bind_some]
    refine ev_pos (by simp; omega) ?_
    rw [h5]
    simp only [List.nil_append, Int.toNat_natCast, rdR_get t k hk']
    exact ev_pos (by omega) (ev_pos (by omega) (ev_pos (by omega) (evnow _)))
   ·have hm : ∀ x ∈ t.set k ⟨t[k].f0, t[k].f1, s⟩, ∃ y ∈ t, x.f0 = y.f0 ∧ x.f1 = y.f1 ∧ (x.f2 = s ∨ x.f2 = y.f2) := fun x hx => by
     obtain ⟨i, hi, rfl⟩ := List.getElem_of_mem hx
     rw [List.length_set] at hi
     rw [List.getElem_set]
     split
     ·exact ⟨t[k], List.getElem_mem hk', rfl, rfl, Or.inl rfl⟩
     ·exact ⟨t[i], List.getElem_mem hi, rfl, rfl, Or.inr rfl⟩
    refine ⟨fun x hx => ?_, fun x hx h3 => ?_, ?_, fun x hx => ?_⟩
    ·obtain ⟨y, hy, _, e, _⟩ := hm x hx
     have := hI.deep y hy
     rw [e]; omega
    ·obtain ⟨y, hy, e0, e, _⟩ := hm x hx
     rw [e]
     exact hI.root y hy (e0 ▸ h3)
    ·obtain ⟨x, hx, h3⟩ := hI.found
     obtain ⟨i, hi, rfl⟩ := List.getElem_of_mem hx
     refine ⟨(t.set k ⟨t[k].f0, t[k].f1, s⟩)[i]'(by rw [List.length_set]; exact hi), List.getElem_mem _, ?_⟩
     rw [List.getElem_set]
     split
     ·rename_i e; subst e; exact h3
     ·exact h3
    ·obtain ⟨y, hy, e0, _, e2⟩ := hm x hx
     rw [e0]
     refine ⟨(hI.ids y hy).1, ?_⟩
     rcases e2 with e2 | e2 <;> rw [e2]
     ·exact hs
     ·exact (hI.ids y hy).2
 ·obtain ⟨u, a, ok, hw, hfit⟩ := where_f t B kd id up at_ s hI hB hid (by omega)
  cases ok with
  | false =>
   refine ⟨[] ++ t, Ev.bind (at_f t id (by omega)) (ev_neg h2 (Ev.bind hw (ev_neg (by simp) ?_))), same _ (by simp)⟩
   simp only [Option.bind_some]
   exact ev_pos (by simp; omega) (evnow _)
  | true =>
   obtain ⟨_, c1, c2, p, hp, hpu, hpa, hpo⟩ := hfit rfl
   by_cases h1 : kd = 1
   ·obtain ⟨y, q, hy, hyu, hq, hev⟩ := put_f t [⟨id, 0, s⟩] u a (by omega) (by simp) (by simp) ⟨t[p], List.getElem_mem hp, hpu⟩ (fun h => by
     obtain ⟨q, hq, e, _⟩ := hpa h
     exact ⟨t[q], List.getElem_mem hq, e⟩)
    refine ⟨_, Ev.bind (at_f t id (by omega)) (ev_neg h2 (Ev.bind hw (ev_pos rfl (ev_pos h1 (Ev.bind hev (evnow _)))))), ?_, by simp; omega⟩
    have dy := hI.deep y hy
    have hw1 : wrap64 (wrap64 (y.f1 + 1) - 0) = y.f1 + 1 := by rw [wrap_id (y.f1 + 1) (by omega) (by omega), wrap_id _ (by omega) (by omega)]; omega
    have hmem : ∀ x ∈ t.take q ++ [(⟨id, 0, s⟩ : S43)].map (shift (wrap64 (wrap64 (y.f1 + 1) - ([(⟨id, 0, s⟩ : S43)])[0].f1))) ++ t.drop q, x ∈ t ∨ (x.f0 = id ∧ x.f1 = y.f1 + 1 ∧ x.f2 = s) := fun x hx => by
     rcases List.mem_append.1 hx with hx | hx
     ·rcases List.mem_append.1 hx with hx | hx
      ·exact Or.inl (List.mem_of_mem_take hx)
      ·right
       simp only [List.map_cons, List.map_nil, List.mem_singleton] at hx
       subst hx
       refine ⟨rfl, ?_, rfl⟩
       show wrap64 (0 + wrap64 (wrap64 (y.f1 + 1) - 0)) = y.f1 + 1
       rw [hw1, wrap_id _ (by omega) (by omega)]
       omega
     ·exact Or.inl (List.mem_of_mem_drop hx)
    refine ⟨fun x hx => ?_, fun x hx h3 => ?_, ?_, fun x hx => ?_⟩
    ·rcases hmem x hx with h | ⟨_, h, _⟩
     ·have := hI.deep x h
      omega
     ·rw [h]; omega
    ·rcases hmem x hx with h | ⟨h, _⟩
     ·exact hI.root x h h3
     ·exact absurd (h.symm.trans h3) hid
    ·obtain ⟨x, hx, h3⟩ := hI.found
     rw [← List.take_append_drop q t] at hx
     rcases List.mem_append.1 hx with hx | hx
     ·exact ⟨x, List.mem_append_left _ (List.mem_append_left _ hx), h3⟩
     ·exact ⟨x, List.mem_append_right _ hx, h3⟩
    ·rcases hmem x hx with h | ⟨h, _, h2⟩
     ·exact hI.ids x h
     ·rw [h, h2]; exact ⟨hid64, hs⟩
   ·have h33 : kd = 3 := by
     rcases hk with h | h | h
     ·exact absurd h h1
     ·exact absurd h h2
     ·exact h
    obtain ⟨k, hk', h5⟩ := c2 h33
    obtain ⟨e1, e2, e3, _⟩ := endI_spec t k hk'
    have hkid : t[k].f0 = id := by
     rcases atI_spec t id with ⟨h7, _⟩ | ⟨j, hj, h7, h8⟩
     ·omega
     ·obtain rfl : j = k := by omega
      exact h8
    have hout := hpo k h33 h5
    obtain ⟨rest, hrest⟩ : ∃ r, r = t.take k ++ t.drop (endI t k) := ⟨_, rfl⟩
    obtain ⟨rows, hrows⟩ : ∃ r, r = (t.take (endI t k)).drop k := ⟨_, rfl⟩
    have hrl : rows.length = endI t k - k := by rw [hrows, List.length_drop, List.length_take]; omega
    have hsl : rest.length = k + (t.length - endI t k) := by rw [hrest, List.length_append, List.length_take, List.length_drop]; omega
    have hr0 : rows[0]'(by omega) = t[k] := by
     simp only [hrows, List.getElem_drop, List.getElem_take]
     rfl
    have hrm : ∀ x ∈ rows, ∃ (j : Nat) (hj : j < t.length), k ≤ j ∧ j < endI t k ∧ x = t[j] := fun x hx => by
     rw [hrows] at hx
     obtain ⟨i, hi, rfl⟩ := List.getElem_of_mem hx
     rw [List.length_drop, List.length_take] at hi
     refine ⟨k + i, by omega, by omega, by omega, ?_⟩
     rw [List.getElem_drop, List.getElem_take]
    obtain ⟨y, q, hy, hyu, hq, hev⟩ := put_f rest rows u a (by omega) (by omega) (by omega) ⟨t[p], by rw [hrest]; exact mem_rest hp hout (by omega), hpu⟩ (fun h => by
     obtain ⟨q, hq, e, ho⟩ := hpa h
     exact ⟨t[q], by rw [hrest]; exact mem_rest hq (ho k h33 h5) (by omega), e⟩)
    refine ⟨rest.take q ++ rows.map (shift (wrap64 (wrap64 (y.f1 + 1) - (rows[0]'(by omega)).f1))) ++ rest.drop q, Ev.bind (at_f t id (by omega)) (ev_neg h2 (Ev.bind hw (ev_pos rfl (ev_neg h1 ?_)))), ?_, ?_⟩
    rotate_left
    ·have hyt : y ∈ t := rest_mem (hrest ▸ hy)
     have dy := hI.deep y hyt
     have dk := hI.deep _ (List.getElem_mem hk')
     have hw1 : wrap64 (wrap64 (y.f1 + 1) - (rows[0]'(by omega)).f1) = y.f1 + 1 - t[k].f1 := by rw [hr0, wrap_id (y.f1 + 1) (by omega) (by omega), wrap_id _ (by omega) (by omega)]
     rw [hw1]
     have hmem : ∀ x ∈ rest.take q ++ rows.map (shift (y.f1 + 1 - t[k].f1)) ++ rest.drop q, x ∈ t ∨ (x.f0 ≠ 3 ∧ (0 ≤ x.f1 ∧ x.f1 ≤ 2 * B + 1) ∧ I64 x.f0 ∧ x.f2.size ≤ 2000) := fun x hx => by
      rcases List.mem_append.1 hx with hx | hx
      ·rcases List.mem_append.1 hx with hx | hx
       ·exact Or.inl (rest_mem (hrest ▸ List.mem_of_mem_take hx))
       ·right
        obtain ⟨z, hz, rfl⟩ := List.mem_map.1 hx
        obtain ⟨j, hj, hkj, hje, rfl⟩ := hrm z hz
        have dj := hI.deep _ (List.getElem_mem hj)
        have hge : t[k].f1 ≤ t[j].f1 := by
         rcases Nat.eq_or_lt_of_le hkj with e | e
         ·subst e; exact Int.le_refl _
         ·exact Int.le_of_lt (e3 j hj e hje)
        have hf : (shift (y.f1 + 1 - t[k].f1) t[j]).f1 = t[j].f1 + (y.f1 + 1 - t[k].f1) := wrap_id _ (by omega) (by omega)
        refine ⟨?_, ⟨by rw [hf]; omega, by rw [hf]; omega⟩, hI.ids t[j] (List.getElem_mem hj)⟩
        show t[j].f0 ≠ 3
        intro h3
        rcases Nat.eq_or_lt_of_le hkj with e | e
        ·subst e; exact hid (hkid.symm.trans h3)
        ·have := e3 j hj e hje
         have := hI.root _ (List.getElem_mem hj) h3
         omega
      ·exact Or.inl (rest_mem (hrest ▸ List.mem_of_mem_drop hx))
     refine ⟨fun x hx => ?_, fun x hx h3 => ?_, ?_, fun x hx => ?_⟩
     ·rcases hmem x hx with h | ⟨_, h, _⟩
      ·have := hI.deep x h
       omega
      ·exact h
     ·rcases hmem x hx with h | ⟨h, _⟩
      ·exact hI.root x h h3
      ·exact absurd h3 h
     ·obtain ⟨x, hx, h3⟩ := hI.found
      obtain ⟨j, hj, rfl⟩ := List.getElem_of_mem hx
      have hj3 : ¬ (k ≤ j ∧ j < endI t k) := by
       rintro ⟨g1, g2⟩
       rcases Nat.eq_or_lt_of_le g1 with e | e
       ·subst e; exact hid (hkid.symm.trans h3)
       ·have := e3 j hj e g2
        have := hI.root _ (List.getElem_mem hj) h3
        omega
      have hxr : t[j] ∈ rest := by rw [hrest]; exact mem_rest hj hj3 (by omega)
      rw [← List.take_append_drop q rest] at hxr
      rcases List.mem_append.1 hxr with hx | hx
      ·exact ⟨_, List.mem_append_left _ (List.mem_append_left _ hx), h3⟩
      ·exact ⟨_, List.mem_append_right _ hx, h3⟩
     ·rcases hmem x hx with h | ⟨_, _, h⟩
      ·exact hI.ids x h
      ·exact h
    ·rw [List.length_append, List.length_append, List.length_map, List.length_take, List.length_drop]
     omega
    ·rw [h5]
     refine Ev.bind (end_f t k hk' (by omega)) ?_
     simp only [Option.bind_some, Int.toNat_natCast]
     refine ev_pos (by omega) (ev_pos (by omega) (ev_pos (by omega) ?_))
     refine ev_pos (by rw [List.length_drop, List.length_take]; simp; omega) ?_
     refine ev_pos (by omega) ?_
     refine ev_pos (by rw [List.length_take]; simp; omega) ?_
     refine ev_pos (by omega) ?_
     refine ev_pos (by rw [List.length_append, List.length_take, List.length_drop]; simp; omega) ?_
     simp only [List.nil_append]
     rw [← hrest, ← hrows]
     exact Ev.bind hev (evnow _)
end Go.Proofs.YtkopimbbgckcnaaDoor.PL
namespace Go.Proofs.YtkopimbbgckcnaaDoor.PL
open Go.RowKit Go.Proofs.YtkopimbbgckcnaaDoor.P Go.Proofs.YtkopimbbgckcnaaDoorW.PrintWords Go.Proofs.YtkopimbbgckcnaaDoorW.PrintLast Go.Proofs.YtkopimbbgckcnaaDoor.FP
structure Good (G : Fo) : Prop where
 nd : G.ids.Nodup
 ne0 : ∀ x ∈ G.ids, x ≠ 0
 tops : G.tops = [1, 2, 3]
 len : G.ids.length ≤ 1000
theorem Good.three {G : Fo} (g : Good G) : 3 ∈ G.tops := by rw [g.tops]; simp
theorem fl_le : ∀ (F : Fo) (d : Nat) {r : S43}, r ∈ F.fl d → r.f1 < (d : Int) + F.ids.length
 | .nil, d, r, h => by simp [Fo.fl] at h
 | .nd j t k n, d, r, h => by
  simp only [Fo.fl, List.mem_cons, List.mem_append] at h
  simp only [Fo.ids, List.length_cons, List.length_append]
  rcases h with rfl | h | h
  ·show (d : Int) < _; omega
  ·have := fl_le k (d + 1) h; omega
  ·have := fl_le n d h; omega
theorem dep_le (x : Nat) (F : Fo) (d : Nat) (hn : F.ids.Nodup) (hx : x ∈ F.ids) : dep x d F < d + F.ids.length := by
 obtain ⟨pre, post, s⟩ := spot x F d hn hx
 have := fl_le F d (r := ⟨(x : Int), (dep x d F : Int), txtF x F⟩) (by rw [s.all]; simp)
 simp only at this
 omega
theorem atFrom_pre {r : S43} {rest : List S43} {id : Int} (hr : r.f0 = id) : ∀ (pre : List S43) (i : Nat), (∀ q ∈ pre, q.f0 ≠ id) → atFrom id (pre ++ r :: rest) i = ((i + pre.length : Nat) : Int)
 | [], i, _ => by simp [atFrom, hr]
 | q :: pre, i, h => by
  rw [List.cons_append, atFrom, if_neg (h q List.mem_cons_self), atFrom_pre hr pre (i + 1) fun x hx => h x (List.mem_cons_of_mem _ hx), List.length_cons]
  congr 1; omega
theorem at_pre {r : S43} {pre rest : List S43} {id : Int} (hr : r.f0 = id) (h : ∀ q ∈ pre, q.f0 ≠ id) : atI (pre ++ r :: rest) id = (pre.length : Int) := by
 rw [atI, atFrom_pre hr pre 0 h, Nat.zero_add]
theorem at_none {t : List S43} {id : Int} (h : ∀ q ∈ t, q.f0 ≠ id) : atI t id = -1 := by
 rcases atI_spec t id with ⟨e, _⟩ | ⟨j, hj, _, e⟩
 ·exact e
 ·exact absurd e (h _ (List.getElem_mem hj))
theorem endFrom_mid {d : Int} {post : List S43} (hp : post = [] ∨ ∃ q rest, post = q :: rest ∧ q.f1 ≤ d) : ∀ (mid : List S43) (e : Nat), (∀ q ∈ mid, d < q.f1) → endFrom d (mid ++ post) e = e + mid.length
 | [], e, _ => by
  rcases hp with rfl | ⟨q, rest, rfl, h⟩
  ·rfl
  ·rw [List.nil_append, endFrom, if_neg (by omega)]; rfl
 | q :: mid, e, h => by
  rw [List.cons_append, endFrom, if_pos (h q List.mem_cons_self), endFrom_mid hp mid (e + 1) fun x hx => h x (List.mem_cons_of_mem _ hx), List.length_cons]
  omega
theorem end_mid {pre mid post : List S43} {r : S43} (hm : ∀ q ∈ mid, r.f1 < q.f1) (hp : post = [] ∨ ∃ q rest, post = q :: rest ∧ q.f1 ≤ r.f1) : endI (pre ++ r :: (mid ++ post)) pre.length = pre.length + 1 + mid.length := by
 have e1 : (pre ++ r :: (mid ++ post)).getD pre.length z43 = r := by simp
 have e2 : (pre ++ r :: (mid ++ post)).drop (pre.length + 1) = mid ++ post := by
  rw [List.drop_append]; simp
 rw [endI, e1, e2, endFrom_mid hp mid _ hm]
theorem spot_end {x d : Nat} {G : Fo} {pre post : List S43} (s : Spot x d G pre post) : endI (G.fl d) pre.length = pre.length + 1 + (sub x G).ids.length := by
 rw [s.all, end_mid (fun q hq => by have := fl_deep _ _ hq; show (dep x d G : Int) < q.f1; omega) s.high, fl_len]
theorem spot_at {x d : Nat} {G : Fo} {pre post : List S43} (s : Spot x d G pre post) : atI (G.fl d) (x : Int) = (pre.length : Int) := by
 rw [s.all]; exact at_pre rfl s.out
theorem spot_len {x d : Nat} {G : Fo} {pre post : List S43} (s : Spot x d G pre post) : (G.fl d).length = pre.length + 1 + (sub x G).ids.length + post.length := by
 have := congrArg List.length s.all
 simp only [List.length_append, List.length_cons, fl_len] at this ⊢
 omega
theorem spot_get {x d : Nat} {G : Fo} {pre post : List S43} (s : Spot x d G pre post) (h : pre.length < (G.fl d).length) : (G.fl d)[pre.length] = ⟨(x : Int), (dep x d G : Int), txtF x G⟩ := by
 simp [s.all]
theorem at_fnd0 {G : Fo} {x : Int} (h : fndF G x = 0) (h0 : ∀ y ∈ G.ids, y ≠ 0) : atI (G.fl 0) x = -1 := at_none fun q hq e => by
 obtain ⟨i, hi, e2⟩ := fl_ids G 0 hq
 have hx : x = (i : Int) := by rw [← e, e2]
 unfold fndF at h
 rw [if_pos ⟨by omega, by rw [hx]; exact hi⟩, hx] at h
 exact h0 i hi h
theorem kids_fl : ∀ (F : Fo) (d : Nat), ((F.fl d).filter fun r => decide (r.f1 = (d : Int))).map (·.f0) = F.tops.map Int.ofNat
 | .nil, d => rfl
 | .nd j t k n, d => by
  have hk : (k.fl (d + 1)).filter (fun r => decide (r.f1 = (d : Int))) = [] := List.filter_eq_nil_iff.2 fun r hr => by
   have := fl_deep k (d + 1) hr
   simp only [decide_eq_true_eq]
   omega
  have ih := kids_fl n d
  simp only [Fo.fl, List.filter_cons, decide_true, if_true, List.map_cons, List.filter_append, hk, List.nil_append, Fo.tops]
  rw [ih]; rfl
theorem kids_l0x (t : List S43) (a : Nat) (ha : a < t.length) (hl : t.length ≤ 1099511627776) : ∀ (n i : Nat) (acc : List Int), i + n = endI t a → acc.length + n ≤ 1099511627776 →
  Ev (fun k => spec_l2Kids.l0 k t acc a i) (acc ++ (((t.drop i).take n).filter fun r => decide (r.f1 = wrap64 (t[a].f1 + 1))).map (·.f0))
 | 0, i, acc, h, hacc => by
  simp only [List.take_zero, List.filter_nil, List.map_nil, List.append_nil]
  refine Ev.step (fun k => by simp only [spec_l2Kids.l0]; rfl) ?_
  refine Ev.bind (end_f t a ha hl) ?_
  refine ev_neg (by omega) ?_
  exact evnow _
 | n + 1, i, acc, h, hacc => by
  obtain ⟨e1, e2, _, _⟩ := endI_spec t a ha
  have hi : i < t.length := by omega
  rw [List.drop_eq_getElem_cons hi, List.take_succ_cons, List.filter_cons]
  refine Ev.step (fun k => by simp only [spec_l2Kids.l0]; rfl) ?_
  refine Ev.bind (end_f t a ha hl) ?_
  refine ev_pos (by omega) (ev_pos (by omega) (ev_pos (by omega) (ev_pos (by omega) (ev_pos (by omega) ?_))))
  rw [rdR_get t i hi, rdR_get t a ha, wrapS i (by omega) (by omega)]
  by_cases hq : t[i].f1 = wrap64 (t[a].f1 + 1)
  ·refine ev_pos hq (ev_pos (by omega) ?_)
   have ih := kids_l0x t a ha hl n (i + 1) (acc ++ [t[i].f0]) (by omega) (by simp; omega)
   rw [if_pos (by simpa using hq), List.map_cons]
   simpa using ih
  ·refine ev_neg hq ?_
   have ih := kids_l0x t a ha hl n (i + 1) acc (by omega) (by omega)
   rw [if_neg (by simpa using hq)]
   exact ih
theorem kids_x {G : Fo} (g : Good G) {u : Nat} (hu : u ∈ G.ids) : Ev (fun k => spec_l2Kids.f k (G.fl 0) (u : Int)) ((sub u G).tops.map Int.ofNat) := by
 obtain ⟨pre, post, s⟩ := spot u G 0 g.nd hu
 have hl := (spot_len s)
 have hll := fl_len G 0
 have hg := g.len
 have ha : pre.length < (G.fl 0).length := by omega
 unfold spec_l2Kids.f
 simp only [Option.bind_some]
 refine Ev.bind (at_f (G.fl 0) u (by omega)) ?_
 rw [(spot_at s)]
 refine ev_neg (by omega) ?_
 rw [wrapS pre.length (by omega) (by omega)]
 have := kids_l0x (G.fl 0) pre.length ha (by omega) (sub u G).ids.length (pre.length + 1) [] (by rw [(spot_end s)]) (by simp; omega)
 rw [(spot_get s ha)] at this
 have e2 : (G.fl 0).drop (pre.length + 1) = (sub u G).fl (dep u 0 G + 1) ++ post := by
  rw [s.all, List.drop_append]; simp
 have hd := dep_le u G 0 g.nd hu
 have e3 : wrap64 ((dep u 0 G : Int) + 1) = ((dep u 0 G + 1 : Nat) : Int) := by rw [wrap_id _ (by omega) (by omega)]; omega
 rw [e2, show (sub u G).ids.length = ((sub u G).fl (dep u 0 G + 1)).length from (fl_len _ _).symm, List.take_left' rfl, e3, kids_fl, List.nil_append] at this
 exact this
theorem where_l0x (u : Int) (ks : List Int) (kd id up at_ : Int) (s : ByteArray) (hl : ks.length ≤ 1000000) : ∀ (n i : Nat) (a : Int), i + n = ks.length → Ev (fun k => spec_l3Where.l0 k u a ks i kd id up at_ s) (u, if at_ ∈ ks.drop i ∧ at_ ≠ id then at_ else a, true)
 | 0, i, a, h => by
  rw [List.drop_eq_nil_of_le (by omega), if_neg (by simp)]
  refine Ev.step (fun k => by simp only [spec_l3Where.l0]; rfl) ?_
  exact ev_neg (by omega) (evnow _)
 | n + 1, i, a, h => by
  have hi : i < ks.length := by omega
  have hrd : rd ks i = ks[i] := by
   unfold rd
   rw [List.getD_eq_getElem?_getD, show ((i : Int)).toNat = i from rfl, List.getElem?_eq_getElem hi]
   rfl
  have e1 : (at_ ∈ ks.drop i ∧ at_ ≠ id) ↔ ((at_ = ks[i] ∨ at_ ∈ ks.drop (i + 1)) ∧ at_ ≠ id) := by rw [List.drop_eq_getElem_cons hi, List.mem_cons]
  refine Ev.step (fun k => by simp only [spec_l3Where.l0]; rfl) ?_
  rw [hrd, wrapS i (by omega) (by omega)]
  refine ev_pos (by omega) (ev_pos (by omega) ?_)
  by_cases h3 : ks[i] = at_
  ·refine ev_pos h3 ?_
   by_cases h4 : at_ = id
   ·refine ev_pos h4 ?_
    rw [if_neg (fun q => q.2 h4)]
    have := where_l0x u ks kd id up at_ s hl n (i + 1) a (by omega)
    rwa [if_neg (fun q => q.2 h4)] at this
   ·refine ev_neg h4 ?_
    rw [if_pos (e1.2 ⟨Or.inl h3.symm, h4⟩)]
    have := where_l0x u ks kd id up at_ s hl n (i + 1) at_ (by omega)
    rwa [ite_self] at this
  ·refine ev_neg h3 ?_
   have := where_l0x u ks kd id up at_ s hl n (i + 1) a (by omega)
   have e2 : (at_ ∈ ks.drop i ∧ at_ ≠ id) ↔ (at_ ∈ ks.drop (i + 1) ∧ at_ ≠ id) := by
    rw [e1]
    exact ⟨fun ⟨q1, q2⟩ => ⟨q1.resolve_left (fun q => h3 q.symm), q2⟩, fun ⟨q1, q2⟩ => ⟨Or.inr q1, q2⟩⟩
   rw [show (if at_ ∈ ks.drop i ∧ at_ ≠ id then at_ else a) = (if at_ ∈ ks.drop (i + 1) ∧ at_ ≠ id then at_ else a) by simp only [e2]]
   exact this
theorem fndF_zero {G : Fo} (h0 : ∀ y ∈ G.ids, y ≠ 0) {x : Int} : fndF G x = 0 ↔ ∀ y ∈ G.ids, (y : Int) ≠ x := by
 constructor
 ·intro h y hy e
  unfold fndF at h
  rw [if_pos ⟨by omega, by rw [← e]; exact hy⟩, ← e] at h
  exact h0 y hy h
 ·intro h
  unfold fndF
  rw [if_neg]
  rintro ⟨h1, h2⟩
  exact h _ h2 (by omega)
theorem fndF_nat {G : Fo} {y : Nat} (hy : y ∈ G.ids) : fndF G (y : Int) = y := by
 unfold fndF
 rw [if_pos ⟨by omega, show (y : Int).toNat ∈ G.ids from hy⟩]; rfl
theorem near_x {G : Fo} (g : Good G) (kd id up at_ : Int) (s : ByteArray) : Ev (fun n => spec_l3Where.j0 n (G.fl 0) false kd id up at_ s) (((nearF G id up at_).1 : Int), ((nearF G id up at_).2 : Int), true) := by
 have hll := fl_len G 0
 have hg := g.len
 refine Ev.step (fun n => by simp only [spec_l3Where.j0]; rfl) ?_
 refine ev_neg (by decide) ?_
 refine Ev.bind (at_f (G.fl 0) up (by omega)) ?_
 by_cases h1 : fndF G up = 0
 ·rw [at_fnd0 h1 g.ne0]
  have : nearF G id up at_ = (3, 0) := by unfold nearF; rw [if_pos h1]
  rw [this]
  exact ev_pos (by omega) (evnow _)
 ·obtain ⟨hu, hue⟩ := fndF_mem h1
  obtain ⟨u, rfl⟩ : ∃ u : Nat, up = (u : Int) := ⟨fndF G up, hue.symm⟩
  rw [fndF_nat (by have := hu; rw [show fndF G (u : Int) = u by omega] at this; exact this)] at h1 hu
  obtain ⟨pre, post, sp⟩ := spot u G 0 g.nd hu
  rw [(spot_at sp)]
  refine ev_neg (by omega) ?_
  refine Ev.bind (kids_x g hu) ?_
  have hlen : ((sub u G).tops.map Int.ofNat).length ≤ 1000000 := by
   have := tops_len (sub u G)
   have := (spot_len sp)
   rw [List.length_map]
   omega
  have := where_l0x (u : Int) ((sub u G).tops.map Int.ofNat) kd id u at_ s hlen _ 0 0 (by rw [Nat.zero_add])
  rw [List.drop_zero] at this
  refine Ev.congr (fun k => rfl) ?_
  have e : nearF G id (u : Int) at_ = (u, (if at_ ∈ (sub u G).tops.map Int.ofNat ∧ at_ ≠ id then at_ else 0).toNat) := by
   unfold nearF
   rw [fndF_nat hu, if_neg h1]
   by_cases h2 : fndF G at_ = 0
   ·rw [if_pos h2, if_neg]
    ·rfl
    ·rintro ⟨q1, q2⟩
     obtain ⟨y, hy, rfl⟩ := List.mem_map.1 q1
     exact (fndF_zero g.ne0).1 h2 y (sub_ids u (tops_ids hy)) rfl
   ·rw [if_neg h2]
    obtain ⟨ha, hae⟩ := fndF_mem h2
    obtain ⟨a, rfl⟩ : ∃ a : Nat, at_ = (a : Int) := ⟨fndF G at_, hae.symm⟩
    have ha' : a ∈ G.ids := by have := ha; rw [show fndF G (a : Int) = a by omega] at this; exact this
    rw [fndF_nat ha']
    have hk := kids_par g.nd g.ne0 hu (x := a)
    have hm : ((a : Int) ∈ (sub u G).tops.map Int.ofNat) ↔ par a 0 G = u := by
     rw [List.mem_map]
     constructor
     ·rintro ⟨y, hy, e⟩
      have e' : y = a := Int.ofNat.inj e
      exact (hk.1 (e' ▸ hy)).2
     ·intro h; exact ⟨a, hk.2 ⟨ha', h⟩, rfl⟩
    by_cases h4 : par a 0 G ≠ u
    ·rw [if_pos h4, if_neg (fun q => h4 (hm.1 q.1))]; rfl
    ·have h4' : par a 0 G = u := Decidable.of_not_not h4
     rw [if_neg h4]
     by_cases h5 : (a : Int) = id
     ·rw [if_pos h5, if_neg (fun q => q.2 h5)]; rfl
     ·rw [if_neg h5, if_pos ⟨hm.2 h4', h5⟩]; rfl
  rw [e]
  have e2 : (((if at_ ∈ (sub u G).tops.map Int.ofNat ∧ at_ ≠ id then at_ else 0).toNat : Nat) : Int) = (if at_ ∈ (sub u G).tops.map Int.ofNat ∧ at_ ≠ id then at_ else 0) := by
   split
   ·rename_i q
    obtain ⟨y, hy, rfl⟩ := List.mem_map.1 q.1
    rfl
   ·rfl
  show Ev _ ((u : Int), ((_ : Nat) : Int), true)
  rw [e2]
  exact this
theorem at_skip {id : Int} {b : List S43} : ∀ (a : List S43) (i : Nat), (∀ q ∈ a, q.f0 ≠ id) → atFrom id (a ++ b) i = atFrom id b (i + a.length)
 | [], i, _ => rfl
 | q :: a, i, h => by
  rw [List.cons_append, atFrom, if_neg (h q List.mem_cons_self), at_skip a (i + 1) fun x hx => h x (List.mem_cons_of_mem _ hx), List.length_cons]
  congr 1; omega
theorem at_in {id : Int} {b : List S43} : ∀ (a : List S43) (i : Nat), (∃ q ∈ a, q.f0 = id) → ∃ j, j < a.length ∧ atFrom id (a ++ b) i = ((i + j : Nat) : Int)
 | [], i, h => by obtain ⟨q, hq, _⟩ := h; cases hq
 | q :: a, i, h => by
  by_cases hq : q.f0 = id
  ·exact ⟨0, by simp, by rw [List.cons_append, atFrom, if_pos hq]; rfl⟩
  ·obtain ⟨j, hj, e⟩ := at_in (id := id) (b := b) a (i + 1) (by
    obtain ⟨q', hq', e⟩ := h
    rcases List.mem_cons.1 hq' with rfl | hq'
    ·exact absurd e hq
    ·exact ⟨q', hq', e⟩)
   exact ⟨j + 1, by simp; omega, by rw [List.cons_append, atFrom, if_neg hq, e]; congr 1; omega⟩
theorem id_fl (F : Fo) (d : Nat) {y : Nat} (hy : y ∈ F.ids) : ∃ q ∈ F.fl d, q.f0 = (y : Int) := by
 have h1 : (y : Int) ∈ (F.fl d).map (·.f0) := by rw [fl_map]; exact List.mem_map.2 ⟨y, hy, rfl⟩
 obtain ⟨q, hq, e⟩ := List.mem_map.1 h1
 exact ⟨q, hq, e⟩
theorem not_fl (F : Fo) (d : Nat) {y : Nat} (hy : y ∉ F.ids) : ∀ q ∈ F.fl d, q.f0 ≠ (y : Int) := fun q hq e => by
 obtain ⟨i, hi, e2⟩ := fl_ids F d hq
 rw [e2] at e
 exact hy ((show i = y by omega) ▸ hi)
theorem under_x {G : Fo} (g : Good G) {i : Nat} (hi : i ∈ G.ids) (up : Int) : Ev (fun n => spec_l2Under.f n (G.fl 0) up (i : Int)) (decide (under i (fndF G up) G)) := by
 obtain ⟨pre, post, s⟩ := spot i G 0 g.nd hi
 have hl := spot_len s
 have hll := fl_len G 0
 have hg := g.len
 have hk : pre.length < (G.fl 0).length := by omega
 have := under_f (G.fl 0) up (i : Int) pre.length hk (spot_at s) (by omega)
 rw [spot_end s] at this
 suffices e : decide (under i (fndF G up) G) = (decide (0 ≤ atI (G.fl 0) up) && (decide ((pre.length : Int) ≤ atI (G.fl 0) up) && decide (atI (G.fl 0) up ≤ ((pre.length + 1 + (sub i G).ids.length : Nat) : Int) - 1))) by
  rw [e]; exact this
 clear this
 by_cases h0 : fndF G up = 0
 ·have hu : ¬ under i (fndF G up) G := by
   rw [h0]
   rintro ⟨_, h | h⟩
   ·exact g.ne0 i hi h.symm
   ·exact g.ne0 0 (sub_ids i h) rfl
  rw [decide_eq_false hu, at_fnd0 h0 g.ne0]
  simp
 ·obtain ⟨hu, hue⟩ := fndF_mem h0
  obtain ⟨y, rfl⟩ : ∃ y : Nat, up = (y : Int) := ⟨fndF G up, hue.symm⟩
  have hy : y ∈ G.ids := by have := hu; rw [show fndF G (y : Int) = y by omega] at this; exact this
  rw [fndF_nat hy]
  have hperm := ids_del i G g.nd hi
  have hnd := hperm.nodup_iff.1 g.nd
  obtain ⟨n1, n2⟩ := List.nodup_cons.1 hnd
  obtain ⟨n3, n4, n5⟩ := List.nodup_append.1 n2
  have hal : atI (G.fl 0) (y : Int) = atFrom (y : Int) (pre ++ (⟨(i : Int), (dep i 0 G : Int), txtF i G⟩ :: ((sub i G).fl (dep i 0 G + 1) ++ post))) 0 := by rw [← s.all]; rfl
  by_cases hyi : y = i
  ·rw [decide_eq_true (show under i y G from ⟨hi, Or.inl hyi⟩), hyi, spot_at s]
   have : ((pre.length : Int) ≤ ((pre.length + 1 + (sub i G).ids.length : Nat) : Int) - 1) := by omega
   simp only [Int.natCast_nonneg, decide_true, Int.le_refl, this, Bool.and_self]
  ·by_cases hys : y ∈ (sub i G).ids
   ·rw [decide_eq_true (show under i y G from ⟨hi, Or.inr hys⟩)]
    have hyd : y ∉ (del i G).ids := fun q => n5 y hys y q rfl
    have hout : ∀ q ∈ pre ++ post, q.f0 ≠ (y : Int) := by rw [← s.del]; exact not_fl _ _ hyd
    obtain ⟨j, hj, e⟩ := at_in (id := (y : Int)) (b := post) ((sub i G).fl (dep i 0 G + 1)) (0 + pre.length + 1) (id_fl _ _ hys)
    rw [fl_len] at hj
    rw [hal, at_skip pre 0 (fun q hq => hout q (List.mem_append_left _ hq)), atFrom, if_neg (show (i : Int) ≠ (y : Int) by omega), e]
    have a1 : (0 : Int) ≤ ((0 + pre.length + 1 + j : Nat) : Int) := by omega
    have a2 : (pre.length : Int) ≤ ((0 + pre.length + 1 + j : Nat) : Int) := by omega
    have a3 : ((0 + pre.length + 1 + j : Nat) : Int) ≤ ((pre.length + 1 + (sub i G).ids.length : Nat) : Int) - 1 := by omega
    rw [decide_eq_true a1, decide_eq_true a2, decide_eq_true a3]; rfl
   ·have hnu : ¬ under i y G := by
     rintro ⟨_, h | h⟩
     ·exact hyi h
     ·exact hys h
    rw [decide_eq_false hnu]
    have hyd : y ∈ (del i G).ids := by
     have := hperm.mem_iff.1 hy
     simp only [List.mem_cons, List.mem_append] at this
     rcases this with q | q | q
     ·exact absurd q hyi
     ·exact absurd q hys
     ·exact q
    obtain ⟨q, hq, hqe⟩ := id_fl (del i G) 0 hyd
    rw [s.del] at hq
    by_cases hpre : ∃ q ∈ pre, q.f0 = (y : Int)
    ·obtain ⟨j, hj, e⟩ := at_in (id := (y : Int)) (b := (⟨(i : Int), (dep i 0 G : Int), txtF i G⟩ : S43) :: ((sub i G).fl (dep i 0 G + 1) ++ post)) pre 0 hpre
     rw [hal, e, decide_eq_false (show ¬ (pre.length : Int) ≤ ((0 + j : Nat) : Int) by omega)]
     simp
    ·have hpre' : ∀ q ∈ pre, q.f0 ≠ (y : Int) := fun q hq e => hpre ⟨q, hq, e⟩
     have hpost : ∃ q ∈ post, q.f0 = (y : Int) := by
      rcases List.mem_append.1 hq with h | h
      ·exact absurd hqe (hpre' q h)
      ·exact ⟨q, h, hqe⟩
     obtain ⟨j, hj, e⟩ := at_in (id := (y : Int)) (b := []) post (0 + pre.length + 1 + ((sub i G).fl (dep i 0 G + 1)).length) hpost
     rw [List.append_nil] at e
     rw [hal, at_skip pre 0 hpre', atFrom, if_neg (show (i : Int) ≠ (y : Int) by omega), at_skip _ _ (not_fl _ _ hys), e, fl_len]
     rw [decide_eq_false (show ¬ ((0 + pre.length + 1 + (sub i G).ids.length + j : Nat) : Int) ≤ ((pre.length + 1 + (sub i G).ids.length : Nat) : Int) - 1 by omega)]
     simp
theorem fl_shift : ∀ (F : Fo) (d d' : Nat) (δ : Int), (d' : Int) = d + δ → d' + F.ids.length ≤ 1000000 → (F.fl d).map (shift δ) = F.fl d'
 | .nil, _, _, _, _, _ => rfl
 | .nd i t k n, d, d', δ, h, hl => by
  simp only [Fo.ids, List.length_cons, List.length_append] at hl
  simp only [Fo.fl, List.map_cons, List.map_append]
  rw [fl_shift k (d + 1) (d' + 1) δ (by omega) (by omega), fl_shift n d d' δ h (by omega)]
  congr 1
  show (⟨(i : Int), wrap64 ((d : Int) + δ), t⟩ : S43) = _
  rw [wrap_id _ (by omega) (by omega), h]
theorem put_x (t rows : List S43) (u a : Int) (hl : t.length ≤ 1000000) (hr : rows.length ≤ 1000000) (h0 : 0 < rows.length) (j : Nat) (hj : j < t.length) (e1 : atI t u = (j : Int)) (p : Nat)
  (hc : (a > 0 ∧ ∃ i : Nat, i < t.length ∧ atI t a = (i : Int) ∧ p = endI t i) ∨ (¬ a > 0 ∧ p = j + 1)) :
  Ev (fun k => spec_l3Put.f k t rows u a) (t.take p ++ rows.map (shift (wrap64 (wrap64 (t[j].f1 + 1) - rows[0].f1))) ++ t.drop p) := by
 have fin : ∀ (p : Nat), p ≤ t.length → Ev (fun k => spec_l3Put.j0 k t rows (wrap64 (wrap64 (t[j].f1 + 1) - rows[0].f1)) p) (t.take p ++ rows.map (shift (wrap64 (wrap64 (t[j].f1 + 1) - rows[0].f1))) ++ t.drop p) := fun p hp => by
  refine Ev.step (fun k => by simp only [spec_l3Put.j0]; rfl) ?_
  simp only [Option.bind_some]
  refine ev_pos (by omega) (ev_pos (by omega) ?_)
  refine ev_pos (by simp; omega) ?_
  simp only [List.nil_append, Int.toNat_natCast]
  have := put_l0 t rows (wrap64 (wrap64 (t[j].f1 + 1) - rows[0].f1)) p hp hl hr rows.length 0 (t.take p) (by omega) (by rw [List.length_take]; omega)
  simpa using this
 have r0 : rd_T43 rows 0 = rows[0] := rdR_get rows 0 h0
 rcases hc with ⟨h, i, hi, e3, rfl⟩ | ⟨h, rfl⟩
 ·obtain ⟨_, e5, _, _⟩ := endI_spec t i hi
  unfold spec_l3Put.f
  refine Ev.bind (at_f t u (by omega)) ?_
  rw [e1]
  refine ev_pos (by omega) (ev_pos (by omega) (ev_pos (by omega) (ev_pos h ?_)))
  refine Ev.bind (at_f t a (by omega)) ?_
  rw [e3]
  refine Ev.bind (end_f t i hi (by omega)) ?_
  rw [rdR_get t j hj, r0]
  exact fin _ e5
 ·unfold spec_l3Put.f
  refine Ev.bind (at_f t u (by omega)) ?_
  rw [e1]
  refine ev_pos (by omega) (ev_pos (by omega) (ev_pos (by omega) (ev_neg h ?_)))
  rw [rdR_get t j hj, r0, wrapS j (by omega) (by omega)]
  exact fin (j + 1) (by omega)
theorem put_F {G : Fo} (hn : G.ids.Nodup) (h0 : ∀ x ∈ G.ids, x ≠ 0) (hlen : G.ids.length ≤ 1000) (p : Nat × Nat) (hu : p.1 ∈ G.ids) (ha : p.2 = 0 ∨ (p.2 ∈ G.ids ∧ par p.2 0 G = p.1)) (i di : Nat) (t : ByteArray) (s : Fo) (hd : di ≤ 1000) (hs : s.ids.length ≤ 1000) :
  Ev (fun k => spec_l3Put.f k (G.fl 0) (⟨(i : Int), (di : Int), t⟩ :: s.fl (di + 1)) (p.1 : Int) (p.2 : Int)) ((putF G p i t s).fl 0) := by
 obtain ⟨u, a⟩ := p
 simp only at hu ha ⊢
 obtain ⟨pre, post, sp⟩ := spot u G 0 hn hu
 have hl := spot_len sp
 have hll := fl_len G 0
 have hj : pre.length < (G.fl 0).length := by omega
 have hdu := dep_le u G 0 hn hu
 have hrl : ((⟨(i : Int), (di : Int), t⟩ : S43) :: s.fl (di + 1)).length ≤ 1000000 := by rw [List.length_cons, fl_len]; omega
 have hδ : wrap64 (wrap64 (((G.fl 0)[pre.length]'hj).f1 + 1) - (((⟨(i : Int), (di : Int), t⟩ : S43) :: s.fl (di + 1))[0]'(by simp)).f1) = (dep u 0 G : Int) + 1 - di := by
  rw [spot_get sp hj]
  show wrap64 (wrap64 ((dep u 0 G : Int) + 1) - (di : Int)) = _
  rw [wrap_id ((dep u 0 G : Int) + 1) (by omega) (by omega), wrap_id _ (by omega) (by omega)]
 have hrows : ((⟨(i : Int), (di : Int), t⟩ : S43) :: s.fl (di + 1)).map (shift ((dep u 0 G : Int) + 1 - di)) = ⟨(i : Int), ((dep u 0 G + 1 : Nat) : Int), t⟩ :: s.fl (dep u 0 G + 2) := by
  rw [List.map_cons, fl_shift s (di + 1) (dep u 0 G + 2) _ (by omega) (by omega)]
  congr 1
  show (⟨(i : Int), wrap64 ((di : Int) + ((dep u 0 G : Int) + 1 - di)), t⟩ : S43) = _
  rw [wrap_id _ (by omega) (by omega)]
  congr 1; omega
 unfold putF
 by_cases ha0 : a = 0
 ·subst ha0
  rw [if_pos rfl]
  have := put_x (G.fl 0) (⟨(i : Int), (di : Int), t⟩ :: s.fl (di + 1)) (u : Int) ((0 : Nat) : Int) (by omega) hrl (by simp) pre.length hj (spot_at sp) (pre.length + 1) (Or.inr ⟨by omega, rfl⟩)
  rw [hδ, hrows] at this
  have e1 : (G.fl 0).take (pre.length + 1) = pre ++ [⟨(u : Int), (dep u 0 G : Int), txtF u G⟩] := by
   rw [sp.all, show pre ++ (⟨(u : Int), (dep u 0 G : Int), txtF u G⟩ :: ((sub u G).fl (dep u 0 G + 1) ++ post)) = (pre ++ [⟨(u : Int), (dep u 0 G : Int), txtF u G⟩]) ++ ((sub u G).fl (dep u 0 G + 1) ++ post) by simp]
   exact List.take_left' (by simp)
  have e2 : (G.fl 0).drop (pre.length + 1) = (sub u G).fl (dep u 0 G + 1) ++ post := by
   rw [sp.all, List.drop_append]; simp
  rw [e1, e2] at this
  rw [sp.first]
  simpa using this
 ·rw [if_neg ha0]
  obtain ⟨haG, hap⟩ := ha.resolve_left ha0
  obtain ⟨pre', post', sa⟩ := spot a G 0 hn haG
  have hl' := spot_len sa
  have hda : dep a 0 G = dep u 0 G + 1 := by
   rcases dep_par a G 0 0 hn haG with ⟨_, _, h⟩ | ⟨_, h⟩
   ·rw [hap] at h; exact absurd h (h0 u hu)
   ·rw [h, hap]
  have := put_x (G.fl 0) (⟨(i : Int), (di : Int), t⟩ :: s.fl (di + 1)) (u : Int) (a : Int) (by omega) hrl (by simp) pre.length hj (spot_at sp) (pre'.length + 1 + (sub a G).ids.length) (Or.inl ⟨by omega, pre'.length, by omega, spot_at sa, (spot_end sa).symm⟩)
  rw [hδ, hrows] at this
  have e0 : (sub a G).ids.length = ((sub a G).fl (dep a 0 G + 1)).length := (fl_len _ _).symm
  have e1 : (G.fl 0).take (pre'.length + 1 + (sub a G).ids.length) = pre' ++ ⟨(a : Int), (dep a 0 G : Int), txtF a G⟩ :: (sub a G).fl (dep a 0 G + 1) := by
   rw [sa.all, e0, show pre' ++ (⟨(a : Int), (dep a 0 G : Int), txtF a G⟩ :: ((sub a G).fl (dep a 0 G + 1) ++ post')) = (pre' ++ ⟨(a : Int), (dep a 0 G : Int), txtF a G⟩ :: (sub a G).fl (dep a 0 G + 1)) ++ post' by simp]
   exact List.take_left' (by simp; omega)
  have e2 : (G.fl 0).drop (pre'.length + 1 + (sub a G).ids.length) = post' := by
   rw [sa.all, e0, show pre' ++ (⟨(a : Int), (dep a 0 G : Int), txtF a G⟩ :: ((sub a G).fl (dep a 0 G + 1) ++ post')) = (pre' ++ ⟨(a : Int), (dep a 0 G : Int), txtF a G⟩ :: (sub a G).fl (dep a 0 G + 1)) ++ post' by simp]
   exact List.drop_left' (by simp; omega)
  rw [e1, e2] at this
  rw [sa.after, hda, show dep u 0 G + 1 + 1 = dep u 0 G + 2 by omega]
  rw [hda] at this
  simpa using this
theorem set_mid {pre rest : List S43} {r r' : S43} : (pre ++ r :: rest).set pre.length r' = pre ++ r' :: rest := by
 rw [List.set_append_right _ _ (Nat.le_refl _), Nat.sub_self, List.set_cons_zero]
theorem where_x {G : Fo} (g : Good G) (kd : Int) (i : Nat) (hi0 : i ≠ 0) (up at_ : Int) (s : ByteArray) (hk : kd = 1 ∨ kd = 3) :
  Ev (fun n => spec_l3Where.f n (G.fl 0) kd (i : Int) up at_ s) (if (kd = 1 ∧ i ∉ G.ids) ∨ (kd = 3 ∧ i ∈ G.ids ∧ ¬ under i (fndF G up) G) then (((nearF G (i : Int) up at_).1 : Int), ((nearF G (i : Int) up at_).2 : Int), true) else (0, 0, false)) := by
 have none_ : ∀ f : Nat → Option (Int × Int × Bool), (∀ n, f n = spec_l3Where.j0 n (G.fl 0) true kd (i : Int) up at_ s) → Ev f (0, 0, false) := fun f hf =>
  Ev.congr hf (Ev.step (f := fun _ => some (0, 0, false)) (fun n => by simp only [spec_l3Where.j0, if_true]) (evnow _))
 have hll := fl_len G 0
 have hg := g.len
 have h2 : kd ≠ 2 := by rcases hk with rfl | rfl <;> decide
 unfold spec_l3Where.f
 refine Ev.bind (at_f (G.fl 0) i (by omega)) (ev_neg h2 ?_)
 by_cases hi : i ∈ G.ids
 ·obtain ⟨pre, post, sp⟩ := spot i G 0 g.nd hi
  rw [spot_at sp]
  have hd : decide ((pre.length : Int) ≥ 0) = true := decide_eq_true (by omega)
  rw [hd]
  rcases hk with rfl | rfl
  ·rw [if_neg (show ¬ ((1 : Int) = 1 ∧ i ∉ G.ids ∨ (1 : Int) = 3 ∧ i ∈ G.ids ∧ ¬ under i (fndF G up) G) by simp [hi])]
   exact ev_pos (by decide) (none_ _ fun n => rfl)
  ·refine ev_neg (by decide) (ev_pos (by omega) ?_)
   refine Ev.bind (under_x g hi up) ?_
   by_cases hu : under i (fndF G up) G
   ·rw [if_neg (by simp [hu])]
    exact none_ _ fun n => by simp only [decide_eq_true hu]
   ·rw [if_pos (Or.inr ⟨rfl, hi, hu⟩)]
    exact Ev.congr (fun n => by simp only [decide_eq_false hu]) (near_x g 3 (i : Int) up at_ s)
 ·have hf : fndF G (i : Int) = 0 := (fndF_zero g.ne0).2 fun y hy e => hi ((show y = i by omega) ▸ hy)
  rw [at_fnd0 hf g.ne0]
  rcases hk with rfl | rfl
  ·rw [if_pos (Or.inl ⟨rfl, hi⟩)]
   refine ev_neg (by decide) (ev_neg (by decide) ?_)
   exact near_x g 1 (i : Int) up at_ s
  ·rw [if_neg (by simp [hi])]
   exact ev_pos (by decide) (none_ _ fun n => rfl)
end Go.Proofs.YtkopimbbgckcnaaDoor.PL
