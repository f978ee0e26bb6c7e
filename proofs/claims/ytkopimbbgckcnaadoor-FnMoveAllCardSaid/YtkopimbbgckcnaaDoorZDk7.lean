/- Joined by a program (wip/shake.py): the declarations that 'YtkopimbbgckcnaaDoorCardFnMoveAll' reaches. -/
import Derived.Test.YtkopimbbgckcnaaDoorZDk6
set_option linter.unusedVariables false
set_option linter.unusedSimpArgs false
set_option linter.unusedSectionVars false
namespace Go.Proofs.YtkopimbbgckcnaaDoor.P
open Go.RowKit Go.Proofs.YtkopimbbgckcnaaDoorW.PrintWords Go.Proofs.YtkopimbbgckcnaaDoorW.PrintLast
set_option maxHeartbeats 8000000 in
set_option maxRecDepth 100000 in
theorem laws_FnMoveAll.calls (k : Nat) (A0 : Option Addr) (c0 : Nat) (l0 : List Int) (r : Bool) (w : World) (hr0 : Kd.C (Kd.int .u8) w A0 l0.length l0) (hc0 : l0.length ≤ c0) (h : laws_FnMoveAll.f k l0 = some r) (hG : Glob w) :
  Calls Tryd.prog 14 #[.slice A0 l0.length c0] w fun e w' => e = .returned (.bool r) ∧ Below w.heap.size w w' := by
 have hu30 := Tryd.underlying30
 have HR0 := Aside0.mk hr0
 have HC0 := Aside0.mk hc0
 clear hr0 hc0
 have HB := Aside0.mk (Below.refl w.heap.size w)
 have HG := Aside0.mk hG
 clear hG
 unfold laws_FnMoveAll.f at h
 have H := h
 clear h
 by_cases c2 : (l0.length : Int) > 1048576
 ·rw [if_pos c2] at H
  have c2b0 : decide (1048576 < (l0.length : Int)) = true := decide_eq_true c2
  have c2b1 : decide (1048576 < l0.length) = true := decide_eq_true (by omega)
  clear c2
  obtain rfl := Option.some.inj H
  go_enter Tryd.func14, Tryd.ntmps14
  go_wp2
  go_ret
  exact ⟨fi_, bel_⟩
 ·rw [if_neg c2] at H
  have c2b0 : decide (1048576 < (l0.length : Int)) = false := decide_eq_false c2
  have c2b1 : decide (1048576 < l0.length) = false := decide_eq_false (by omega)
  clear c2
  replace H := Option.bind_eq_some_iff.mp H
  obtain ⟨⟨t831, t834, t835, t836, t837, t838⟩, A30, H⟩ := H
  try dsimp only at H
  have A3 := Aside0.mk A30
  clear A30
  replace H := Option.bind_eq_some_iff.mp H
  obtain ⟨t840, A40, H⟩ := H
  try dsimp only at H
  have A4 := Aside0.mk A40
  clear A40
  have HC5 := Aside0.mk H
  clear H
  go_enter Tryd.func14, Tryd.ntmps14
  go_upto_region 5 with (first | ((with_reducible refine gate_callee (f := 24) rfl ?_); refine gl_ 17 Tryd.func24 #[.slice A0 l0.length c0] ?_; (with_reducible refine (spec_DrawOpDo.calls k _ _ l0 t831 t834 t835 t836 t837 t838 _ ?side1 ?side2 A3.out).mono ?_); (case side1 => exact cx_ HR0.out); (case side2 => exact HC0.out); rintro e w6 ⟨v832, rfl, ho0, hb⟩; refine ⟨_, rfl, ?_⟩; have HO833 := Aside0.mk (Kd.Q_lower ho0 (below_size (bel_))); replace HB := Aside0.mk (below_step (bel_) hb); (try clear hb ho0)) | ((with_reducible refine gate_dst (N := 4) rfl ?_); refine bx_ 4 (#[.int .i64 0, .int .i64 0, .int .i64 0, .int .i64 0, .string (⟨#[]⟩ : ByteArray)]) 30 ?_; intro gb839 hg w7 hbox hb; have n0_ := Aside0.mk (Kd.Q_below (qp_ HO833.out) hb); have n1_ := Aside0.mk (below_step (bel_) hb); have n2_ := Aside0.mk (hbox); have n3_ := Aside0.mk ((by rw [hg]; exact (below_size (bel_)) : w.heap.size ≤ gb839)); have n4_ := Aside0.mk ((by rw [hg]; exact (below_size (bel_)) : w.heap.size ≤ gb839)); clear HO833; clear HB; have HO833 := n0_; have HB := n1_; have BK839 := n2_; have GW839 := n3_; have GE839 := n4_; clear n0_ n1_ n2_ n3_ n4_; clear hb hbox hg; have hcz8_0 := cz_ BK839.out 0 (.int .i64 0); have hcz8_1 := cz_ BK839.out 1 (.int .i64 0); have hcz8_2 := cz_ BK839.out 2 (.int .i64 0); have hcz8_3 := cz_ BK839.out 3 (.int .i64 0); have hcz8_4 := cz_ BK839.out 4 (.string (⟨#[]⟩ : ByteArray)); have hfz8_0 := blk_frozen BK839.out 0; have hfz8_1 := blk_frozen BK839.out 1; have hfz8_2 := blk_frozen BK839.out 2; have hfz8_3 := blk_frozen BK839.out 3; have hfz8_4 := blk_frozen BK839.out 4; obtain ⟨Ao9, co9, eo9, _⟩ := Kd.Q_slice HO833.out; subst eo9) | ((with_reducible refine gate_callee (f := 20) rfl ?_); refine gl_ 22 Tryd.func20 #[.slice Ao9 t831.length co9, .agg #[.int .i64 t834, .int .i64 t835, .int .i64 t836, .int .i64 t837, .string t838]] ?_; (with_reducible refine (impl_OpDo.calls k _ _ t831 t834 t835 t836 t837 t838 t840 _ ?side1 ?side2 A4.out ?side3).mono ?_); (case side1 => refine (Kd.Q_reads' (e := 43) (base := w.heap.size) (ok := fun k_ => True) (n := t831.length) (c := co9) ?_).2.2; exact (by (with_reducible repeat (first | apply Kd.Q_alloc | apply Kd.Q_drewN | apply Kd.Q_drew)); exact (Kd.Q_mono (Kd.Q_far (p := ⟨gb839, 4, none⟩) (Kd.Q_far (p := ⟨gb839, 3, none⟩) (Kd.Q_far (p := ⟨gb839, 2, none⟩) (Kd.Q_far (p := ⟨gb839, 1, none⟩) (Kd.Q_far (p := ⟨gb839, 0, none⟩) (Kd.Q_types HO833.out BK839.out (by decide)) (fun _ hk => hk.2) (.int .i64 t834)) (fun _ hk => hk.2) (.int .i64 t835)) (fun _ hk => hk.2) (.int .i64 t836)) (fun _ hk => hk.2) (.int .i64 t837)) (fun _ hk => hk.2) (.string t838)) (fun _ h_ => h_.1)))); (case side2 => exact (Kd.Q_reads' HO833.out).2.1); (case side3 => exact Glob.below HG.out (bel_)); rintro e w10 ⟨v841, rfl, ho0, hb⟩; refine ⟨_, rfl, ?_⟩; have n0_ := Aside0.mk (Kd.Q_elder' (by (with_reducible repeat (first | apply Kd.Q_alloc | apply Kd.Q_drewN | apply Kd.Q_drew)); exact (Kd.Q_mono (Kd.Q_far (p := ⟨gb839, 4, none⟩) (Kd.Q_far (p := ⟨gb839, 3, none⟩) (Kd.Q_far (p := ⟨gb839, 2, none⟩) (Kd.Q_far (p := ⟨gb839, 1, none⟩) (Kd.Q_far (p := ⟨gb839, 0, none⟩) (Kd.Q_types HO833.out BK839.out (by decide)) (fun _ hk => hk.2) (.int .i64 t834)) (fun _ hk => hk.2) (.int .i64 t835)) (fun _ hk => hk.2) (.int .i64 t836)) (fun _ hk => hk.2) (.int .i64 t837)) (fun _ hk => hk.2) (.string t838)) (fun _ h_ => h_.1))) (Kd.R_base ho0) hb); have n1_ := Aside0.mk (Kd.R_lower (Kd.R_new' ho0 (Kd.Q_lt (by (with_reducible repeat (first | apply Kd.Q_alloc | apply Kd.Q_drewN | apply Kd.Q_drew)); exact (Kd.Q_mono (Kd.Q_far (p := ⟨gb839, 4, none⟩) (Kd.Q_far (p := ⟨gb839, 3, none⟩) (Kd.Q_far (p := ⟨gb839, 2, none⟩) (Kd.Q_far (p := ⟨gb839, 1, none⟩) (Kd.Q_far (p := ⟨gb839, 0, none⟩) (Kd.Q_types HO833.out BK839.out (by decide)) (fun _ hk => hk.2) (.int .i64 t834)) (fun _ hk => hk.2) (.int .i64 t835)) (fun _ hk => hk.2) (.int .i64 t836)) (fun _ hk => hk.2) (.int .i64 t837)) (fun _ hk => hk.2) (.string t838)) (fun _ h_ => h_.1))))) (below_size (bel_))); have n2_ := Aside0.mk (blk_below (g := gb839) (o := .cells #[.int .i64 t834, .int .i64 t835, .int .i64 t836, .int .i64 t837, .string t838] 30 (0, 0)) (by (with_reducible repeat (first | refine blk_drewN ?_ _ | refine blk_drew ?_ | refine blk_alloc ?_ _)); refine blk_put (cs := #[.int .i64 t834, .int .i64 t835, .int .i64 t836, .int .i64 t837, .string (⟨#[]⟩ : ByteArray)]) ?_ 4 _ rfl; (with_reducible repeat (first | refine blk_drewN ?_ _ | refine blk_drew ?_ | refine blk_alloc ?_ _)); refine blk_put (cs := #[.int .i64 t834, .int .i64 t835, .int .i64 t836, .int .i64 0, .string (⟨#[]⟩ : ByteArray)]) ?_ 3 _ rfl; (with_reducible repeat (first | refine blk_drewN ?_ _ | refine blk_drew ?_ | refine blk_alloc ?_ _)); refine blk_put (cs := #[.int .i64 t834, .int .i64 t835, .int .i64 0, .int .i64 0, .string (⟨#[]⟩ : ByteArray)]) ?_ 2 _ rfl; (with_reducible repeat (first | refine blk_drewN ?_ _ | refine blk_drew ?_ | refine blk_alloc ?_ _)); refine blk_put (cs := #[.int .i64 t834, .int .i64 0, .int .i64 0, .int .i64 0, .string (⟨#[]⟩ : ByteArray)]) ?_ 1 _ rfl; (with_reducible repeat (first | refine blk_drewN ?_ _ | refine blk_drew ?_ | refine blk_alloc ?_ _)); refine blk_put (cs := #[.int .i64 0, .int .i64 0, .int .i64 0, .int .i64 0, .string (⟨#[]⟩ : ByteArray)]) ?_ 0 _ rfl; (with_reducible repeat (first | refine blk_drewN ?_ _ | refine blk_drew ?_ | refine blk_alloc ?_ _)); exact BK839.out) hb); have n3_ := Aside0.mk (below_step (bel_) hb); clear HO833; clear BK839; clear HB; have HO833 := n0_; have HO842 := n1_; have BK839 := n2_; have HB := n3_; clear n0_ n1_ n2_ n3_; (try clear hb ho0)))
  (try simp only [Act.put, List.setIfInBounds_toArray, List.set_cons_zero, List.set_cons_succ])
  go_cut [43] (fun v43 wc => ∃ (kq : Nat) (x43_4 : Bool), v43 = .bool x43_4 ∧ Aside0 (laws_FnMoveAll.j0 kq t831 t840 x43_4 t834 t835 t836 t837 t838 = some r) ∧ Aside0 (kq ≤ k) ∧ Aside0 (Kd.Q k43 43 wc w.heap.size (fun k_ => some k_ ≠ (v841 : Value).ownBlock) (.slice Ao9 t831.length co9) t831) ∧ Aside0 (Kd.R k43 43 wc w.heap.size (fun k_ => some k_ ≠ ((.slice Ao9 t831.length co9) : Value).ownBlock) v841 t840) ∧ Aside0 (wc.heap[gb839]? = some (.cells #[.int .i64 t834, .int .i64 t835, .int .i64 t836, .int .i64 t837, .string t838] 30 (0, 0))) ∧ Aside0 (Below w.heap.size w wc))
  case first =>
   have H := HC5.out
   clear HC5
   replace H := Option.bind_eq_some_iff.mp H
   obtain ⟨t843, A110, H⟩ := H
   try dsimp only at H
   have A11 := Aside0.mk A110
   clear A110
   replace H := Option.bind_eq_some_iff.mp H
   obtain ⟨t846, A120, H⟩ := H
   try dsimp only at H
   have A12 := Aside0.mk A120
   clear A120
   by_cases c13 : t846 = true
   ·subst c13
    have H1 : ((spec_TreeOk.f k t831).bind fun t847 => (if t847 = true then ((spec_OpOk.f k t834 t835 t836 t837 t838).bind fun t848 => (if t848 = true then (laws_FnMoveAll.j0 k t831 t840 (t834 != 3) t834 t835 t836 t837 t838) else (laws_FnMoveAll.j0 k t831 t840 true t834 t835 t836 t837 t838))) else (laws_FnMoveAll.j0 k t831 t840 true t834 t835 t836 t837 t838))) = some r := by rw [if_pos rfl] at H; exact H
    clear H
    have H := H1
    clear H1
    replace H := Option.bind_eq_some_iff.mp H
    obtain ⟨t847, A140, H⟩ := H
    try dsimp only at H
    have A14 := Aside0.mk A140
    clear A140
    by_cases c15 : t847 = true
    ·subst c15
     have H1 : ((spec_OpOk.f k t834 t835 t836 t837 t838).bind fun t848 => (if t848 = true then (laws_FnMoveAll.j0 k t831 t840 (t834 != 3) t834 t835 t836 t837 t838) else (laws_FnMoveAll.j0 k t831 t840 true t834 t835 t836 t837 t838))) = some r := by rw [if_pos rfl] at H; exact H
     clear H
     have H := H1
     clear H1
     replace H := Option.bind_eq_some_iff.mp H
     obtain ⟨t848, A160, H⟩ := H
     try dsimp only at H
     have A16 := Aside0.mk A160
     clear A160
     by_cases c17 : t848 = true
     ·subst c17
      have H1 : (laws_FnMoveAll.j0 k t831 t840 (t834 != 3) t834 t835 t836 t837 t838) = some r := by rw [if_pos rfl] at H; exact H
      clear H
      have H := H1
      clear H1
      have H' := Aside0.mk H
      clear H
      have hcz18_0 := cz_ BK839.out 0 (.int .i64 t834)
      have hcz18_1 := cz_ BK839.out 1 (.int .i64 t835)
      have hcz18_2 := cz_ BK839.out 2 (.int .i64 t836)
      have hcz18_3 := cz_ BK839.out 3 (.int .i64 t837)
      have hcz18_4 := cz_ BK839.out 4 (.string t838)
      have hfz18_0 := blk_frozen BK839.out 0
      have hfz18_1 := blk_frozen BK839.out 1
      have hfz18_2 := blk_frozen BK839.out 2
      have hfz18_3 := blk_frozen BK839.out 3
      have hfz18_4 := blk_frozen BK839.out 4
      go_wp2_with (first | ((with_reducible refine gate_callee (f := 17) rfl ?_); refine gl_ 26 Tryd.func17 #[.slice Ao9 t831.length co9, .agg #[.int .i64 t834, .int .i64 t835, .int .i64 t836, .int .i64 t837, .string t838]] ?_; (with_reducible refine (spec_OpDo.calls k _ _ t831 t834 t835 t836 t837 t838 t843 _ ?side1 ?side2 A11.out).mono ?_); (case side1 => exact cx_ (Kd.Q_reads' HO833.out).2.2); (case side2 => exact (Kd.Q_reads' HO833.out).2.1); rintro e w19 ⟨v844, rfl, ho0, hb⟩; refine ⟨_, rfl, ?_⟩; have HO845 := Aside0.mk (Kd.R_lower (Kd.R_new' (Kd.R_new' ho0 (Kd.Q_lt (qp_ HO833.out))) (Kd.R_lt (rp_ HO842.out))) (below_size (bel_))); replace HO833 := Aside0.mk (Kd.Q_elder' (qp_ HO833.out) (Kd.R_base ho0) hb); replace HO842 := Aside0.mk (Kd.R_elder' (rp_ HO842.out) (Kd.R_base ho0) hb); replace HB := Aside0.mk (below_step (bel_) hb); replace BK839 := Aside0.mk (bb_ BK839.out hb); (try clear hb ho0); obtain ⟨Ao20, co20, eo20⟩ := Kd.R_slice HO842.out; subst eo20; obtain ⟨Ao21, co21, eo21⟩ := Kd.R_slice HO845.out; subst eo21) | ((with_reducible refine gate_callee (f := 25) rfl ?_); refine gl_ 27 Tryd.func25 #[.slice Ao20 t840.length co20, .slice Ao21 t843.length co21] ?_; (with_reducible refine (laws_lpRows.calls k _ _ t840 _ _ t843 true _ ?side1 ?side2 ?side3 ?side4 A12.out).mono ?_); (case side1 => exact cx_ (Kd.R_reads' HO842.out).2.2); (case side2 => exact (Kd.R_reads' HO842.out).2.1); (case side3 => exact cx_ (Kd.R_reads' HO845.out).2.2); (case side4 => exact (Kd.R_reads' HO845.out).2.1); rintro e w' ⟨rfl, ⟨nd, rfl⟩⟩; refine ⟨_, rfl, ?_⟩) | (go_at_call 26; (with_reducible refine (spec_TreeOk.calls k _ _ t831 true _ ?side1 ?side2 A14.out).mono ?_); (case side1 => exact cx_ (Kd.Q_reads' HO833.out).2.2); (case side2 => exact (Kd.Q_reads' HO833.out).2.1); rintro e w22 ⟨rfl, hb⟩; replace HO833 := Aside0.mk (Kd.Q_below (qp_ HO833.out) hb); replace HO842 := Aside0.mk (Kd.R_below (rp_ HO842.out) hb); replace HO845 := Aside0.mk (Kd.R_below (rp_ HO845.out) hb); replace HB := Aside0.mk (below_step (bel_) hb); replace BK839 := Aside0.mk (bb_ BK839.out hb); (try clear hb); have hcz23_0 := cz_ BK839.out 0 (.int .i64 t834); have hcz23_1 := cz_ BK839.out 1 (.int .i64 t835); have hcz23_2 := cz_ BK839.out 2 (.int .i64 t836); have hcz23_3 := cz_ BK839.out 3 (.int .i64 t837); have hcz23_4 := cz_ BK839.out 4 (.string t838); have hfz23_0 := blk_frozen BK839.out 0; have hfz23_1 := blk_frozen BK839.out 1; have hfz23_2 := blk_frozen BK839.out 2; have hfz23_3 := blk_frozen BK839.out 3; have hfz23_4 := blk_frozen BK839.out 4) | (go_at_call 27; (with_reducible refine (spec_OpOk.calls k t834 t835 t836 t837 t838 true _ A16.out).mono ?_); rintro e w24 ⟨rfl, hb⟩; replace HO833 := Aside0.mk (Kd.Q_below (qp_ HO833.out) hb); replace HO842 := Aside0.mk (Kd.R_below (rp_ HO842.out) hb); replace HO845 := Aside0.mk (Kd.R_below (rp_ HO845.out) hb); replace HB := Aside0.mk (below_step (bel_) hb); replace BK839 := Aside0.mk (bb_ BK839.out hb); (try clear hb); have hcz25_0 := cz_ BK839.out 0 (.int .i64 t834); have hcz25_1 := cz_ BK839.out 1 (.int .i64 t835); have hcz25_2 := cz_ BK839.out 2 (.int .i64 t836); have hcz25_3 := cz_ BK839.out 3 (.int .i64 t837); have hcz25_4 := cz_ BK839.out 4 (.string t838); have hfz25_0 := blk_frozen BK839.out 0; have hfz25_1 := blk_frozen BK839.out 1; have hfz25_2 := blk_frozen BK839.out 2; have hfz25_3 := blk_frozen BK839.out 3; have hfz25_4 := blk_frozen BK839.out 4))
      go_meet
      case rel => exact ⟨_, ((t834 != 3)), (si_), H', ⟨by first | omega | exact Nat.le_refl _⟩, ⟨by (with_reducible repeat (first | apply Kd.Q_alloc | apply Kd.Q_drewN | apply Kd.Q_drew)); exact Kd.Q_mono HO833.out (fun _ hk => hk.1.2)⟩, ⟨by (with_reducible repeat (first | apply Kd.R_alloc | apply Kd.R_drewN | apply Kd.R_drew)); exact Kd.R_mono HO842.out (fun _ hk => hk.1.2)⟩, ⟨by (with_reducible repeat (first | refine blk_drewN ?_ _ | refine blk_drew ?_ | refine blk_alloc ?_ _)); exact BK839.out⟩, ⟨bel_⟩⟩
     ·replace c17 := Bool.eq_false_iff.mpr c17
      subst c17
      have H1 : (laws_FnMoveAll.j0 k t831 t840 true t834 t835 t836 t837 t838) = some r := by rw [if_neg (show ¬ (false = true) by decide)] at H; exact H
      clear H
      have H := H1
      clear H1
      have H' := Aside0.mk H
      clear H
      have hcz26_0 := cz_ BK839.out 0 (.int .i64 t834)
      have hcz26_1 := cz_ BK839.out 1 (.int .i64 t835)
      have hcz26_2 := cz_ BK839.out 2 (.int .i64 t836)
      have hcz26_3 := cz_ BK839.out 3 (.int .i64 t837)
      have hcz26_4 := cz_ BK839.out 4 (.string t838)
      have hfz26_0 := blk_frozen BK839.out 0
      have hfz26_1 := blk_frozen BK839.out 1
      have hfz26_2 := blk_frozen BK839.out 2
      have hfz26_3 := blk_frozen BK839.out 3
      have hfz26_4 := blk_frozen BK839.out 4
      go_wp2_with (first | ((with_reducible refine gate_callee (f := 17) rfl ?_); refine gl_ 26 Tryd.func17 #[.slice Ao9 t831.length co9, .agg #[.int .i64 t834, .int .i64 t835, .int .i64 t836, .int .i64 t837, .string t838]] ?_; (with_reducible refine (spec_OpDo.calls k _ _ t831 t834 t835 t836 t837 t838 t843 _ ?side1 ?side2 A11.out).mono ?_); (case side1 => exact cx_ (Kd.Q_reads' HO833.out).2.2); (case side2 => exact (Kd.Q_reads' HO833.out).2.1); rintro e w27 ⟨v844, rfl, ho0, hb⟩; refine ⟨_, rfl, ?_⟩; have HO845 := Aside0.mk (Kd.R_lower (Kd.R_new' (Kd.R_new' ho0 (Kd.Q_lt (qp_ HO833.out))) (Kd.R_lt (rp_ HO842.out))) (below_size (bel_))); replace HO833 := Aside0.mk (Kd.Q_elder' (qp_ HO833.out) (Kd.R_base ho0) hb); replace HO842 := Aside0.mk (Kd.R_elder' (rp_ HO842.out) (Kd.R_base ho0) hb); replace HB := Aside0.mk (below_step (bel_) hb); replace BK839 := Aside0.mk (bb_ BK839.out hb); (try clear hb ho0); obtain ⟨Ao28, co28, eo28⟩ := Kd.R_slice HO842.out; subst eo28; obtain ⟨Ao29, co29, eo29⟩ := Kd.R_slice HO845.out; subst eo29) | ((with_reducible refine gate_callee (f := 25) rfl ?_); refine gl_ 27 Tryd.func25 #[.slice Ao28 t840.length co28, .slice Ao29 t843.length co29] ?_; (with_reducible refine (laws_lpRows.calls k _ _ t840 _ _ t843 true _ ?side1 ?side2 ?side3 ?side4 A12.out).mono ?_); (case side1 => exact cx_ (Kd.R_reads' HO842.out).2.2); (case side2 => exact (Kd.R_reads' HO842.out).2.1); (case side3 => exact cx_ (Kd.R_reads' HO845.out).2.2); (case side4 => exact (Kd.R_reads' HO845.out).2.1); rintro e w' ⟨rfl, ⟨nd, rfl⟩⟩; refine ⟨_, rfl, ?_⟩) | (go_at_call 26; (with_reducible refine (spec_TreeOk.calls k _ _ t831 true _ ?side1 ?side2 A14.out).mono ?_); (case side1 => exact cx_ (Kd.Q_reads' HO833.out).2.2); (case side2 => exact (Kd.Q_reads' HO833.out).2.1); rintro e w30 ⟨rfl, hb⟩; replace HO833 := Aside0.mk (Kd.Q_below (qp_ HO833.out) hb); replace HO842 := Aside0.mk (Kd.R_below (rp_ HO842.out) hb); replace HO845 := Aside0.mk (Kd.R_below (rp_ HO845.out) hb); replace HB := Aside0.mk (below_step (bel_) hb); replace BK839 := Aside0.mk (bb_ BK839.out hb); (try clear hb); have hcz31_0 := cz_ BK839.out 0 (.int .i64 t834); have hcz31_1 := cz_ BK839.out 1 (.int .i64 t835); have hcz31_2 := cz_ BK839.out 2 (.int .i64 t836); have hcz31_3 := cz_ BK839.out 3 (.int .i64 t837); have hcz31_4 := cz_ BK839.out 4 (.string t838); have hfz31_0 := blk_frozen BK839.out 0; have hfz31_1 := blk_frozen BK839.out 1; have hfz31_2 := blk_frozen BK839.out 2; have hfz31_3 := blk_frozen BK839.out 3; have hfz31_4 := blk_frozen BK839.out 4) | (go_at_call 27; (with_reducible refine (spec_OpOk.calls k t834 t835 t836 t837 t838 false _ A16.out).mono ?_); rintro e w32 ⟨rfl, hb⟩; replace HO833 := Aside0.mk (Kd.Q_below (qp_ HO833.out) hb); replace HO842 := Aside0.mk (Kd.R_below (rp_ HO842.out) hb); replace HO845 := Aside0.mk (Kd.R_below (rp_ HO845.out) hb); replace HB := Aside0.mk (below_step (bel_) hb); replace BK839 := Aside0.mk (bb_ BK839.out hb); (try clear hb)))
      go_meet
      case rel => exact ⟨_, (true), (si_), H', ⟨by first | omega | exact Nat.le_refl _⟩, ⟨by (with_reducible repeat (first | apply Kd.Q_alloc | apply Kd.Q_drewN | apply Kd.Q_drew)); exact Kd.Q_mono HO833.out (fun _ hk => hk.1.2)⟩, ⟨by (with_reducible repeat (first | apply Kd.R_alloc | apply Kd.R_drewN | apply Kd.R_drew)); exact Kd.R_mono HO842.out (fun _ hk => hk.1.2)⟩, ⟨by (with_reducible repeat (first | refine blk_drewN ?_ _ | refine blk_drew ?_ | refine blk_alloc ?_ _)); exact BK839.out⟩, ⟨bel_⟩⟩
    ·replace c15 := Bool.eq_false_iff.mpr c15
     subst c15
     have H1 : (laws_FnMoveAll.j0 k t831 t840 true t834 t835 t836 t837 t838) = some r := by rw [if_neg (show ¬ (false = true) by decide)] at H; exact H
     clear H
     have H := H1
     clear H1
     have H' := Aside0.mk H
     clear H
     have hcz33_0 := cz_ BK839.out 0 (.int .i64 t834)
     have hcz33_1 := cz_ BK839.out 1 (.int .i64 t835)
     have hcz33_2 := cz_ BK839.out 2 (.int .i64 t836)
     have hcz33_3 := cz_ BK839.out 3 (.int .i64 t837)
     have hcz33_4 := cz_ BK839.out 4 (.string t838)
     have hfz33_0 := blk_frozen BK839.out 0
     have hfz33_1 := blk_frozen BK839.out 1
     have hfz33_2 := blk_frozen BK839.out 2
     have hfz33_3 := blk_frozen BK839.out 3
     have hfz33_4 := blk_frozen BK839.out 4
     go_wp2_with (first | ((with_reducible refine gate_callee (f := 17) rfl ?_); refine gl_ 26 Tryd.func17 #[.slice Ao9 t831.length co9, .agg #[.int .i64 t834, .int .i64 t835, .int .i64 t836, .int .i64 t837, .string t838]] ?_; (with_reducible refine (spec_OpDo.calls k _ _ t831 t834 t835 t836 t837 t838 t843 _ ?side1 ?side2 A11.out).mono ?_); (case side1 => exact cx_ (Kd.Q_reads' HO833.out).2.2); (case side2 => exact (Kd.Q_reads' HO833.out).2.1); rintro e w34 ⟨v844, rfl, ho0, hb⟩; refine ⟨_, rfl, ?_⟩; have HO845 := Aside0.mk (Kd.R_lower (Kd.R_new' (Kd.R_new' ho0 (Kd.Q_lt (qp_ HO833.out))) (Kd.R_lt (rp_ HO842.out))) (below_size (bel_))); replace HO833 := Aside0.mk (Kd.Q_elder' (qp_ HO833.out) (Kd.R_base ho0) hb); replace HO842 := Aside0.mk (Kd.R_elder' (rp_ HO842.out) (Kd.R_base ho0) hb); replace HB := Aside0.mk (below_step (bel_) hb); replace BK839 := Aside0.mk (bb_ BK839.out hb); (try clear hb ho0); obtain ⟨Ao35, co35, eo35⟩ := Kd.R_slice HO842.out; subst eo35; obtain ⟨Ao36, co36, eo36⟩ := Kd.R_slice HO845.out; subst eo36) | ((with_reducible refine gate_callee (f := 25) rfl ?_); refine gl_ 27 Tryd.func25 #[.slice Ao35 t840.length co35, .slice Ao36 t843.length co36] ?_; (with_reducible refine (laws_lpRows.calls k _ _ t840 _ _ t843 true _ ?side1 ?side2 ?side3 ?side4 A12.out).mono ?_); (case side1 => exact cx_ (Kd.R_reads' HO842.out).2.2); (case side2 => exact (Kd.R_reads' HO842.out).2.1); (case side3 => exact cx_ (Kd.R_reads' HO845.out).2.2); (case side4 => exact (Kd.R_reads' HO845.out).2.1); rintro e w' ⟨rfl, ⟨nd, rfl⟩⟩; refine ⟨_, rfl, ?_⟩) | (go_at_call 26; (with_reducible refine (spec_TreeOk.calls k _ _ t831 false _ ?side1 ?side2 A14.out).mono ?_); (case side1 => exact cx_ (Kd.Q_reads' HO833.out).2.2); (case side2 => exact (Kd.Q_reads' HO833.out).2.1); rintro e w37 ⟨rfl, hb⟩; replace HO833 := Aside0.mk (Kd.Q_below (qp_ HO833.out) hb); replace HO842 := Aside0.mk (Kd.R_below (rp_ HO842.out) hb); replace HO845 := Aside0.mk (Kd.R_below (rp_ HO845.out) hb); replace HB := Aside0.mk (below_step (bel_) hb); replace BK839 := Aside0.mk (bb_ BK839.out hb); (try clear hb)))
     go_meet
     case rel => exact ⟨_, (true), (si_), H', ⟨by first | omega | exact Nat.le_refl _⟩, ⟨by (with_reducible repeat (first | apply Kd.Q_alloc | apply Kd.Q_drewN | apply Kd.Q_drew)); exact Kd.Q_mono HO833.out (fun _ hk => hk.1.2)⟩, ⟨by (with_reducible repeat (first | apply Kd.R_alloc | apply Kd.R_drewN | apply Kd.R_drew)); exact Kd.R_mono HO842.out (fun _ hk => hk.1.2)⟩, ⟨by (with_reducible repeat (first | refine blk_drewN ?_ _ | refine blk_drew ?_ | refine blk_alloc ?_ _)); exact BK839.out⟩, ⟨bel_⟩⟩
   ·replace c13 := Bool.eq_false_iff.mpr c13
    subst c13
    have H1 : (none) = some r := by rw [if_neg (show ¬ (false = true) by decide)] at H; exact H
    clear H
    have H := H1
    clear H1
    exact absurd H (by simp)
  case rest =>
   clear HC5
   try clear c1
   try clear c2
   try clear c2b0
   try clear c2b1
   try clear p2
   try clear c13
   try clear c14
   try clear c15
   try clear c17
   try clear c20
   try clear c24
   try clear c25
   try clear hcz18_0
   try clear hcz18_1
   try clear hcz18_2
   try clear hcz18_3
   try clear hcz18_4
   try clear hcz23_0
   try clear hcz23_1
   try clear hcz23_2
   try clear hcz23_3
   try clear hcz23_4
   try clear hcz25_0
   try clear hcz25_1
   try clear hcz25_2
   try clear hcz25_3
   try clear hcz25_4
   try clear hcz26_0
   try clear hcz26_1
   try clear hcz26_2
   try clear hcz26_3
   try clear hcz26_4
   try clear hcz31_0
   try clear hcz31_1
   try clear hcz31_2
   try clear hcz31_3
   try clear hcz31_4
   try clear hcz33_0
   try clear hcz33_1
   try clear hcz33_2
   try clear hcz33_3
   try clear hcz33_4
   try clear hcz8_0
   try clear hcz8_1
   try clear hcz8_2
   try clear hcz8_3
   try clear hcz8_4
   try clear hfz18_0
   try clear hfz18_1
   try clear hfz18_2
   try clear hfz18_3
   try clear hfz18_4
   try clear hfz23_0
   try clear hfz23_1
   try clear hfz23_2
   try clear hfz23_3
   try clear hfz23_4
   try clear hfz25_0
   try clear hfz25_1
   try clear hfz25_2
   try clear hfz25_3
   try clear hfz25_4
   try clear hfz26_0
   try clear hfz26_1
   try clear hfz26_2
   try clear hfz26_3
   try clear hfz26_4
   try clear hfz31_0
   try clear hfz31_1
   try clear hfz31_2
   try clear hfz31_3
   try clear hfz31_4
   try clear hfz33_0
   try clear hfz33_1
   try clear hfz33_2
   try clear hfz33_3
   try clear hfz33_4
   try clear hfz8_0
   try clear hfz8_1
   try clear hfz8_2
   try clear hfz8_3
   try clear hfz8_4
   obtain ⟨kq, x43_4, rfl, HA, HJ4, HO_3, HO_5, BK839, HB⟩ := hcut
   cases kq with
   | zero => exact absurd HA.out (by simp [laws_FnMoveAll.j0])
   | succ kj4 =>
    have H := HA.out
    clear HA
    simp only [laws_FnMoveAll.j0] at H
    by_cases c38 : x43_4 = true
    ·subst c38
     have H1 : ((spec_OpDo.f kj4 t831 t834 t835 t836 t837 t838).bind fun t849 => ((laws_lpRows.f kj4 t840 t849).bind fun t852 => (some t852))) = some r := by rw [if_pos rfl] at H; exact H
     clear H
     have H := H1
     clear H1
     replace H := Option.bind_eq_some_iff.mp H
     obtain ⟨t849, A390, H⟩ := H
     try dsimp only at H
     have A39 := Aside0.mk A390
     clear A390
     replace H := Option.bind_eq_some_iff.mp H
     obtain ⟨t852, A400, H⟩ := H
     try dsimp only at H
     have A40 := Aside0.mk A400
     clear A400
     obtain rfl := Option.some.inj H
     have hcz41_0 : wc.cell? ⟨gb839, 0, none⟩ = some (.int .i64 t834) := (blk_cell BK839.out 0).trans rfl
     have hcz41_1 : wc.cell? ⟨gb839, 1, none⟩ = some (.int .i64 t835) := (blk_cell BK839.out 1).trans rfl
     have hcz41_2 : wc.cell? ⟨gb839, 2, none⟩ = some (.int .i64 t836) := (blk_cell BK839.out 2).trans rfl
     have hcz41_3 : wc.cell? ⟨gb839, 3, none⟩ = some (.int .i64 t837) := (blk_cell BK839.out 3).trans rfl
     have hcz41_4 : wc.cell? ⟨gb839, 4, none⟩ = some (.string t838) := (blk_cell BK839.out 4).trans rfl
     have hfz41_0 := blk_frozen BK839.out 0
     have hfz41_1 := blk_frozen BK839.out 1
     have hfz41_2 := blk_frozen BK839.out 2
     have hfz41_3 := blk_frozen BK839.out 3
     have hfz41_4 := blk_frozen BK839.out 4
     go_wp2_with (first | ((with_reducible refine gate_callee (f := 17) rfl ?_); refine gl_ 47 Tryd.func17 #[.slice Ao9 t831.length co9, .agg #[.int .i64 t834, .int .i64 t835, .int .i64 t836, .int .i64 t837, .string t838]] ?_; (with_reducible refine (spec_OpDo.calls kj4 _ _ t831 t834 t835 t836 t837 t838 t849 _ ?side1 ?side2 A39.out).mono ?_); (case side1 => exact cx_ (Kd.Q_reads' HO_3.out).2.2); (case side2 => exact (Kd.Q_reads' HO_3.out).2.1); rintro e w42 ⟨v850, rfl, ho0, hb⟩; refine ⟨_, rfl, ?_⟩; have HO851 := Aside0.mk (Kd.R_lower (Kd.R_new' (Kd.R_new' ho0 (Kd.Q_lt (qp_ HO_3.out))) (Kd.R_lt (rp_ HO_5.out))) (below_size (bel_))); replace HO_3 := Aside0.mk (Kd.Q_elder' (qp_ HO_3.out) (Kd.R_base ho0) hb); replace HO_5 := Aside0.mk (Kd.R_elder' (rp_ HO_5.out) (Kd.R_base ho0) hb); replace HB := Aside0.mk (below_step (bel_) hb); replace BK839 := Aside0.mk (bb_ BK839.out hb); (try clear hb ho0); obtain ⟨Ao43, co43, eo43⟩ := Kd.R_slice HO_5.out; subst eo43; obtain ⟨Ao44, co44, eo44⟩ := Kd.R_slice HO851.out; subst eo44) | ((with_reducible refine gate_callee (f := 25) rfl ?_); refine gl_ 48 Tryd.func25 #[.slice Ao43 t840.length co43, .slice Ao44 t849.length co44] ?_; (with_reducible refine (laws_lpRows.calls kj4 _ _ t840 _ _ t849 t852 _ ?side1 ?side2 ?side3 ?side4 A40.out).mono ?_); (case side1 => exact cx_ (Kd.R_reads' HO_5.out).2.2); (case side2 => exact (Kd.R_reads' HO_5.out).2.1); (case side3 => exact cx_ (Kd.R_reads' HO851.out).2.2); (case side4 => exact (Kd.R_reads' HO851.out).2.1); rintro e w' ⟨rfl, ⟨nd, rfl⟩⟩; refine ⟨_, rfl, ?_⟩))
     go_ret
     exact ⟨fi_, bel_⟩
    ·replace c38 := Bool.eq_false_iff.mpr c38
     subst c38
     have H1 : (laws_FnMoveAll.l0 kj4 t831 t840 0 t834 t835 t836 t837 t838) = some r := by rw [if_neg (show ¬ (false = true) by decide)] at H; exact H
     clear H
     have H := H1
     clear H1
     have H' := Aside0.mk H
     clear H
     go_wp2
     go_loopg [6] kj4 (fun kq v6 w' => ∃ (x6_2 : Int), v6 = .int .i64 x6_2 ∧ Aside0 (laws_FnMoveAll.l0 kq t831 t840 x6_2 t834 t835 t836 t837 t838 = some r) ∧ Aside0 (kq ≤ kj4) ∧ Aside0 (Kd.Q k43 43 w' w.heap.size (fun k_ => some k_ ≠ (v841 : Value).ownBlock) (.slice Ao9 t831.length co9) t831) ∧ Aside0 (Kd.R k43 43 w' w.heap.size (fun k_ => some k_ ≠ ((.slice Ao9 t831.length co9) : Value).ownBlock) v841 t840) ∧ Aside0 (w'.heap[gb839]? = some (.cells #[.int .i64 t834, .int .i64 t835, .int .i64 t836, .int .i64 t837, .string t838] 30 (0, 0))) ∧ Aside0 (Below w.heap.size w w'))
     case atStart => exact ⟨(0), (si_), H', ⟨Nat.le_refl _⟩, ⟨by (with_reducible repeat (first | apply Kd.Q_alloc | apply Kd.Q_drewN | apply Kd.Q_drew)); exact HO_3.out⟩, ⟨by (with_reducible repeat (first | apply Kd.R_alloc | apply Kd.R_drewN | apply Kd.R_drew)); exact HO_5.out⟩, ⟨by (with_reducible repeat (first | refine blk_drewN ?_ _ | refine blk_drew ?_ | refine blk_alloc ?_ _)); exact BK839.out⟩, ⟨bel_⟩⟩
     case round =>
      clear H'
      try clear c1
      try clear c2
      try clear c2b0
      try clear c2b1
      try clear p2
      try clear c3
      try clear c13
      try clear c14
      try clear c15
      try clear c17
      try clear c20
      try clear c24
      try clear c25
      try clear c38
      try clear hcz18_0
      try clear hcz18_1
      try clear hcz18_2
      try clear hcz18_3
      try clear hcz18_4
      try clear hcz23_0
      try clear hcz23_1
      try clear hcz23_2
      try clear hcz23_3
      try clear hcz23_4
      try clear hcz25_0
      try clear hcz25_1
      try clear hcz25_2
      try clear hcz25_3
      try clear hcz25_4
      try clear hcz26_0
      try clear hcz26_1
      try clear hcz26_2
      try clear hcz26_3
      try clear hcz26_4
      try clear hcz31_0
      try clear hcz31_1
      try clear hcz31_2
      try clear hcz31_3
      try clear hcz31_4
      try clear hcz33_0
      try clear hcz33_1
      try clear hcz33_2
      try clear hcz33_3
      try clear hcz33_4
      try clear hcz41_0
      try clear hcz41_1
      try clear hcz41_2
      try clear hcz41_3
      try clear hcz41_4
      try clear hcz8_0
      try clear hcz8_1
      try clear hcz8_2
      try clear hcz8_3
      try clear hcz8_4
      try clear hfz18_0
      try clear hfz18_1
      try clear hfz18_2
      try clear hfz18_3
      try clear hfz18_4
      try clear hfz23_0
      try clear hfz23_1
      try clear hfz23_2
      try clear hfz23_3
      try clear hfz23_4
      try clear hfz25_0
      try clear hfz25_1
      try clear hfz25_2
      try clear hfz25_3
      try clear hfz25_4
      try clear hfz26_0
      try clear hfz26_1
      try clear hfz26_2
      try clear hfz26_3
      try clear hfz26_4
      try clear hfz31_0
      try clear hfz31_1
      try clear hfz31_2
      try clear hfz31_3
      try clear hfz31_4
      try clear hfz33_0
      try clear hfz33_1
      try clear hfz33_2
      try clear hfz33_3
      try clear hfz33_4
      try clear hfz41_0
      try clear hfz41_1
      try clear hfz41_2
      try clear hfz41_3
      try clear hfz41_4
      try clear hfz8_0
      try clear hfz8_1
      try clear hfz8_2
      try clear hfz8_3
      try clear hfz8_4
      try clear p2
      obtain ⟨x6_2, rfl, HA, HK2, HO_3, HO_5, BK839, HB⟩ := hrel
      cases gk with
      | zero => exact absurd HA.out (by simp [laws_FnMoveAll.l0])
      | succ k2 =>
       have H := HA.out
       clear HA
       simp only [laws_FnMoveAll.l0] at H
       by_cases c45 : x6_2 < (t831.length : Int)
       ·rw [if_pos c45] at H
        have c45b0 : decide (x6_2 < (t831.length : Int)) = true := decide_eq_true c45
        clear c45
        by_cases c46 : 0 ≤ x6_2
        ·rw [if_pos c46] at H
         have c46b0 : decide (0 ≤ x6_2) = true := decide_eq_true c46
         clear c46
         replace H := Option.bind_eq_some_iff.mp H
         obtain ⟨⟨t854, t855⟩, A470, H⟩ := H
         try dsimp only at H
         have A47 := Aside0.mk A470
         clear A470
         replace H := Option.bind_eq_some_iff.mp H
         obtain ⟨⟨t856, t857⟩, A480, H⟩ := H
         try dsimp only at H
         have A48 := Aside0.mk A480
         clear A480
         by_cases c49 : ((rd_T43 t831 x6_2).f0) = t835
         ·rw [if_pos c49] at H
          have c49b0 : (((rd_T43 t831 x6_2).f0) == t835) = true := beq_iff_eq.mpr c49
          have c49b1 : (((rd_T43 t831 x6_2).f0) != t835) = false := bne_eq_false_iff_eq.mpr c49
          clear c49
          replace H := Option.bind_eq_some_iff.mp H
          obtain ⟨t858, A500, H⟩ := H
          try dsimp only at H
          have A50 := Aside0.mk A500
          clear A500
          replace H := Option.bind_eq_some_iff.mp H
          obtain ⟨t859, A510, H⟩ := H
          try dsimp only at H
          have A51 := Aside0.mk A510
          clear A510
          by_cases c52 : (t858 != t859) = true
          ·rw [if_pos c52] at H
           exact absurd H (by simp)
          ·rw [if_neg c52] at H
           have c52b0 : (t858 != t859) = false := by simpa using c52
           (try (have c52b1 : decide (t858 = t859) = true := by simpa using c52))
           (try (have c52b2 : (t858 == t859) = true := by simpa using c52))
           clear c52
           have H' := Aside0.mk H
           clear H
           have p853 : 0 ≤ (x6_2 : Int) := od_
           have q853 : x6_2 < (t831.length : Int) := od_
           obtain ⟨ad853, e853, hx853_0, hx853_1, hx853_2⟩ := at_T43 (Kd.Q_reads' HO_3.out).2.2 x6_2 p853 q853
           cases e853
           replace p853 := eq_true p853
           replace q853 := eq_true q853
           try go_wp2_with (first | ((with_reducible refine gate_callee (f := 35) rfl ?_); refine gl_ 63 Tryd.func35 #[.slice (some ad853) t831.length co9, .int .i64 ((rd_T43 t831 x6_2).f0)] ?_; (with_reducible refine (impl_TreeUp.calls k2 _ _ t831 ((rd_T43 t831 x6_2).f0) t854 t855 _ ?side1 ?side2 A47.out ?side3).mono ?_); (case side1 => exact cx_ (Kd.Q_reads' HO_3.out).2.2); (case side2 => exact (Kd.Q_reads' HO_3.out).2.1); (case side3 => exact Glob.below HG.out (bel_)); rintro e w53 ⟨rfl, hb⟩; refine ⟨_, rfl, ?_⟩; replace HO_3 := Aside0.mk (Kd.Q_below (qp_ HO_3.out) hb); replace HO_5 := Aside0.mk (Kd.R_below (rp_ HO_5.out) hb); replace HB := Aside0.mk (below_step (bel_) hb); replace BK839 := Aside0.mk (bb_ BK839.out hb); (try clear hb); obtain ⟨Ao54, co54, eo54⟩ := Kd.R_slice HO_5.out; subst eo54) | ((with_reducible refine gate_callee (f := 35) rfl ?_); refine gl_ 69 Tryd.func35 #[.slice Ao54 t840.length co54, .int .i64 ((rd_T43 t831 x6_2).f0)] ?_; (with_reducible refine (impl_TreeUp.calls k2 _ _ t840 ((rd_T43 t831 x6_2).f0) t856 t857 _ ?side1 ?side2 A48.out ?side3).mono ?_); (case side1 => exact cx_ (Kd.R_reads' HO_5.out).2.2); (case side2 => exact (Kd.R_reads' HO_5.out).2.1); (case side3 => exact Glob.below HG.out (bel_)); rintro e w55 ⟨rfl, hb⟩; refine ⟨_, rfl, ?_⟩; replace HO_3 := Aside0.mk (Kd.Q_below (qp_ HO_3.out) hb); replace HO_5 := Aside0.mk (Kd.R_below (rp_ HO_5.out) hb); replace HB := Aside0.mk (below_step (bel_) hb); replace BK839 := Aside0.mk (bb_ BK839.out hb); (try clear hb)))
           have n0_ := Aside0.mk (Kd.Q_drew HO_3.out)
           have n1_ := Aside0.mk (Kd.R_drew HO_5.out)
           have n2_ := Aside0.mk (blk_drew BK839.out)
           have n3_ := Aside0.mk (below_drew1 HB.out)
           clear HO_3
           clear HO_5
           clear BK839
           clear HB
           have HO_3 := n0_
           have HO_5 := n1_
           have BK839 := n2_
           have HB := n3_
           clear n0_ n1_ n2_ n3_
           refine start_ (n := 45) (S := fun w' => w'.cell? ⟨gb839, 0, none⟩ = some (.int .i64 t834) ∧ w'.cell? ⟨gb839, 1, none⟩ = some (.int .i64 t835) ∧ w'.cell? ⟨gb839, 2, none⟩ = some (.int .i64 t836) ∧ w'.cell? ⟨gb839, 3, none⟩ = some (.int .i64 t837) ∧ w'.cell? ⟨gb839, 4, none⟩ = some (.string t838)) (ds := []) #[false, false, false, false, false, false, false, false, false, false, false, false, false, false, false, false, false, false, false, false, false, false, false, false, false, false, false, false, false, false, false, false, false, false, false, false, false, false, false, false, false, false, false, false, false] (by kernel_rfl) rfl rfl ⟨(blk_cell BK839.out 0).trans rfl, (blk_cell BK839.out 1).trans rfl, (blk_cell BK839.out 2).trans rfl, (blk_cell BK839.out 3).trans rfl, (blk_cell BK839.out 4).trans rfl⟩ (fun hHeld => ?_); refine with_tabW laws_FnMoveAll.tab13 laws_FnMoveAll.bits13 (fun HT_ HW_ => ?_)
           generalize w55.drew = w56 at HO_3 HO_5 BK839 HB hHeld ⊢
           refine pa_ 0 72 ?_
           refine pa_ 1 73 ?_
           refine ta5_ 2 74 hHeld ?_
           refine pa_ 3 75 ?_
           refine pa_ 4 76 ?_
           refine po_ 5 77 ?_
           refine po_ 6 78 ?_
           refine po_ 7 79 ?_
           refine pa_ 8 80 ?_
           refine pa_ 9 81 ?_
           refine pa_ 10 82 ?_
           refine pa_ 11 83 ?_
           refine pa_ 12 84 ?_
           refine pa_ 15 87 ?_
           refine pa_ 16 88 ?_
           refine pa_ 17 89 ?_
           refine ta5_ 13 85 hHeld ?_
           refine ta5_ 18 90 hHeld ?_
           refine on_ 14 86 (fun K hK => ?_)
           refine goes_ Tryd.func34 (by kernel_rfl) rfl #[.slice (some ad853) t831.length co9, .int .i64 ((rd_T43 t831 x6_2).f0), .int .i64 t835] (by rfl) rfl rfl ar_ ?_
           with_reducible refine (impl_TreeUnder.calls k2 _ _ t831 ((rd_T43 t831 x6_2).f0) t835 t858 _ ?side1 ?side2 A50.out ?side3).mono ?_
           (case side1 => exact cx_ (Kd.Q_reads' HO_3.out).2.2)
           (case side2 => exact (Kd.Q_reads' HO_3.out).2.1)
           (case side3 => exact Glob.below HG.out (bel_))
           rintro e w57 ⟨rfl, hb⟩
           refine ⟨_, rfl, ?_⟩
           have n0_ := Aside0.mk (Kd.Q_below (qp_ HO_3.out) hb)
           have n1_ := Aside0.mk (Kd.R_below (rp_ HO_5.out) hb)
           have n2_ := Aside0.mk (bb_ BK839.out hb)
           have n3_ := Aside0.mk (below_step (bel_) hb)
           clear HO_3
           clear HO_5
           clear BK839
           clear HB
           have HO_3 := n0_
           have HO_5 := n1_
           have BK839 := n2_
           have HB := n3_
           clear n0_ n1_ n2_ n3_
           (try clear hb)
           (try clear hb2)
           (try clear hk)
           (try clear hi)
           refine hK.out _ _ ⟨(blk_cell BK839.out 0).trans rfl, (blk_cell BK839.out 1).trans rfl, (blk_cell BK839.out 2).trans rfl, (blk_cell BK839.out 3).trans rfl, (blk_cell BK839.out 4).trans rfl⟩ (fun hHeld => ?_)
           clear hK K
           refine no_ 86 ?_
           refine on_ 19 91 (fun K hK => ?_)
           refine goes_ Tryd.func34 (by kernel_rfl) rfl #[.slice Ao54 t840.length co54, .int .i64 ((rd_T43 t831 x6_2).f0), .int .i64 t835] (by rfl) rfl rfl ar_ ?_
           with_reducible refine (impl_TreeUnder.calls k2 _ _ t840 ((rd_T43 t831 x6_2).f0) t835 t859 _ ?side1 ?side2 A51.out ?side3).mono ?_
           (case side1 => exact cx_ (Kd.R_reads' HO_5.out).2.2)
           (case side2 => exact (Kd.R_reads' HO_5.out).2.1)
           (case side3 => exact Glob.below HG.out (bel_))
           rintro e w58 ⟨rfl, hb⟩
           refine ⟨_, rfl, ?_⟩
           have n0_ := Aside0.mk (Kd.Q_below (qp_ HO_3.out) hb)
           have n1_ := Aside0.mk (Kd.R_below (rp_ HO_5.out) hb)
           have n2_ := Aside0.mk (bb_ BK839.out hb)
           have n3_ := Aside0.mk (below_step (bel_) hb)
           clear HO_3
           clear HO_5
           clear BK839
           clear HB
           have HO_3 := n0_
           have HO_5 := n1_
           have BK839 := n2_
           have HB := n3_
           clear n0_ n1_ n2_ n3_
           (try clear hb)
           (try clear hb2)
           (try clear hk)
           (try clear hi)
           refine hK.out _ _ ⟨(blk_cell BK839.out 0).trans rfl, (blk_cell BK839.out 1).trans rfl, (blk_cell BK839.out 2).trans rfl, (blk_cell BK839.out 3).trans rfl, (blk_cell BK839.out 4).trans rfl⟩ (fun hHeld => ?_)
           clear hK K
           refine no_ 91 ?_
           refine pa_ 20 92 ?_
           refine pa_ 21 93 ?_
           refine pa_ 22 94 ?_
           refine pa_ 23 95 ?_
           refine pa_ 24 96 ?_
           refine ta5_ 25 97 hHeld ?_
           refine pa_ 26 98 ?_
           refine pa_ 27 99 ?_
           refine po_ 28 100 ?_
           refine po_ 29 101 ?_
           refine po_ 30 102 ?_
           refine po_ 31 103 ?_
           refine po_ 32 104 ?_
           refine pa_ 33 105 ?_
           refine pa_ 34 106 ?_
           refine po_ 35 107 ?_
           refine po_ 36 108 ?_
           refine po_ 37 109 ?_
           refine po_ 38 110 ?_
           refine po_ 39 111 ?_
           refine po_ 40 112 ?_
           refine po_ 41 113 ?_
           refine po_ 42 114 ?_
           refine pa_ 43 115 ?_
           refine pa_ 44 116 ?_
           refine done_ (done_of HT_.out (by kernel_rfl)) ?_
           try go_wp2
           go_roundg k2
           case measure => have := HJ4.out; have := HK2.out; omega
           case rel => exact ⟨(wrap64 (x6_2 + 1)), (si_), H', ⟨by have := HJ4.out; have := HK2.out; omega⟩, ⟨by (with_reducible repeat (first | apply Kd.Q_alloc | apply Kd.Q_drewN | apply Kd.Q_drew)); exact HO_3.out⟩, ⟨by (with_reducible repeat (first | apply Kd.R_alloc | apply Kd.R_drewN | apply Kd.R_drew)); exact HO_5.out⟩, ⟨by (with_reducible repeat (first | refine blk_drewN ?_ _ | refine blk_drew ?_ | refine blk_alloc ?_ _)); exact BK839.out⟩, ⟨bel_⟩⟩
         ·rw [if_neg c49] at H
          have c49b0 : (((rd_T43 t831 x6_2).f0) == t835) = false := beq_eq_false_iff_ne.mpr c49
          have c49b1 : (((rd_T43 t831 x6_2).f0) != t835) = true := bne_iff_ne.mpr c49
          by_cases c59 : t854 = t856
          ·rw [if_pos c59] at H
           have c59b0 : (t854 == t856) = true := beq_iff_eq.mpr c59
           have c59b1 : (t854 != t856) = false := bne_eq_false_iff_eq.mpr c59
           clear c59
           replace H := Option.bind_eq_some_iff.mp H
           obtain ⟨t860, A600, H⟩ := H
           try dsimp only at H
           have A60 := Aside0.mk A600
           clear A600
           replace H := Option.bind_eq_some_iff.mp H
           obtain ⟨t861, A610, H⟩ := H
           try dsimp only at H
           have A61 := Aside0.mk A610
           clear A610
           by_cases c62 : (t860 != t861) = true
           ·rw [if_pos c62] at H
            exact absurd H (by simp)
           ·rw [if_neg c62] at H
            have c62b0 : (t860 != t861) = false := by simpa using c62
            (try (have c62b1 : decide (t860 = t861) = true := by simpa using c62))
            (try (have c62b2 : (t860 == t861) = true := by simpa using c62))
            clear c62
            replace H := Option.bind_eq_some_iff.mp H
            obtain ⟨t862, A630, H⟩ := H
            try dsimp only at H
            have A63 := Aside0.mk A630
            clear A630
            by_cases c64 : t862 = true
            ·subst c64
             have H1 : ((impl_TreeKids.f k2 t831 ((rd_T43 t831 x6_2).f0)).bind fun t863 => ((impl_TreeKids.f k2 t840 ((rd_T43 t831 x6_2).f0)).bind fun t866 => ((laws_lpInts.f k2 t863 t866).bind fun t869 => (if t869 = true then (laws_FnMoveAll.l0 k2 t831 t840 (wrap64 (x6_2 + 1)) t834 t835 t836 t837 t838) else (none))))) = some r := by rw [if_pos rfl] at H; exact H
             clear H
             have H := H1
             clear H1
             replace H := Option.bind_eq_some_iff.mp H
             obtain ⟨t863, A650, H⟩ := H
             try dsimp only at H
             have A65 := Aside0.mk A650
             clear A650
             replace H := Option.bind_eq_some_iff.mp H
             obtain ⟨t866, A660, H⟩ := H
             try dsimp only at H
             have A66 := Aside0.mk A660
             clear A660
             replace H := Option.bind_eq_some_iff.mp H
             obtain ⟨t869, A670, H⟩ := H
             try dsimp only at H
             have A67 := Aside0.mk A670
             clear A670
             by_cases c68 : t869 = true
             ·subst c68
              have H1 : (laws_FnMoveAll.l0 k2 t831 t840 (wrap64 (x6_2 + 1)) t834 t835 t836 t837 t838) = some r := by rw [if_pos rfl] at H; exact H
              clear H
              have H := H1
              clear H1
              have H' := Aside0.mk H
              clear H
              have p853 : 0 ≤ (x6_2 : Int) := od_
              have q853 : x6_2 < (t831.length : Int) := od_
              obtain ⟨ad853, e853, hx853_0, hx853_1, hx853_2⟩ := at_T43 (Kd.Q_reads' HO_3.out).2.2 x6_2 p853 q853
              cases e853
              replace p853 := eq_true p853
              replace q853 := eq_true q853
              try go_wp2_with (first | ((with_reducible refine gate_callee (f := 35) rfl ?_); refine gl_ 63 Tryd.func35 #[.slice (some ad853) t831.length co9, .int .i64 ((rd_T43 t831 x6_2).f0)] ?_; (with_reducible refine (impl_TreeUp.calls k2 _ _ t831 ((rd_T43 t831 x6_2).f0) t854 t855 _ ?side1 ?side2 A47.out ?side3).mono ?_); (case side1 => exact cx_ (Kd.Q_reads' HO_3.out).2.2); (case side2 => exact (Kd.Q_reads' HO_3.out).2.1); (case side3 => exact Glob.below HG.out (bel_)); rintro e w69 ⟨rfl, hb⟩; refine ⟨_, rfl, ?_⟩; replace HO_3 := Aside0.mk (Kd.Q_below (qp_ HO_3.out) hb); replace HO_5 := Aside0.mk (Kd.R_below (rp_ HO_5.out) hb); replace HB := Aside0.mk (below_step (bel_) hb); replace BK839 := Aside0.mk (bb_ BK839.out hb); (try clear hb); obtain ⟨Ao70, co70, eo70⟩ := Kd.R_slice HO_5.out; subst eo70) | ((with_reducible refine gate_callee (f := 35) rfl ?_); refine gl_ 69 Tryd.func35 #[.slice Ao70 t840.length co70, .int .i64 ((rd_T43 t831 x6_2).f0)] ?_; (with_reducible refine (impl_TreeUp.calls k2 _ _ t840 ((rd_T43 t831 x6_2).f0) t856 t857 _ ?side1 ?side2 A48.out ?side3).mono ?_); (case side1 => exact cx_ (Kd.R_reads' HO_5.out).2.2); (case side2 => exact (Kd.R_reads' HO_5.out).2.1); (case side3 => exact Glob.below HG.out (bel_)); rintro e w71 ⟨rfl, hb⟩; refine ⟨_, rfl, ?_⟩; replace HO_3 := Aside0.mk (Kd.Q_below (qp_ HO_3.out) hb); replace HO_5 := Aside0.mk (Kd.R_below (rp_ HO_5.out) hb); replace HB := Aside0.mk (below_step (bel_) hb); replace BK839 := Aside0.mk (bb_ BK839.out hb); (try clear hb)))
              have n0_ := Aside0.mk (Kd.Q_drew HO_3.out)
              have n1_ := Aside0.mk (Kd.R_drew HO_5.out)
              have n2_ := Aside0.mk (blk_drew BK839.out)
              have n3_ := Aside0.mk (below_drew1 HB.out)
              clear HO_3
              clear HO_5
              clear BK839
              clear HB
              have HO_3 := n0_
              have HO_5 := n1_
              have BK839 := n2_
              have HB := n3_
              clear n0_ n1_ n2_ n3_
              refine start_ (n := 45) (S := fun w' => w'.cell? ⟨gb839, 0, none⟩ = some (.int .i64 t834) ∧ w'.cell? ⟨gb839, 1, none⟩ = some (.int .i64 t835) ∧ w'.cell? ⟨gb839, 2, none⟩ = some (.int .i64 t836) ∧ w'.cell? ⟨gb839, 3, none⟩ = some (.int .i64 t837) ∧ w'.cell? ⟨gb839, 4, none⟩ = some (.string t838)) (ds := []) #[false, false, false, false, false, false, false, false, false, false, false, false, false, false, false, false, false, false, false, false, false, false, false, false, false, false, false, false, false, false, false, false, false, false, false, false, false, false, false, false, false, false, false, false, false] (by kernel_rfl) rfl rfl ⟨(blk_cell BK839.out 0).trans rfl, (blk_cell BK839.out 1).trans rfl, (blk_cell BK839.out 2).trans rfl, (blk_cell BK839.out 3).trans rfl, (blk_cell BK839.out 4).trans rfl⟩ (fun hHeld => ?_); refine with_tabW laws_FnMoveAll.tab13 laws_FnMoveAll.bits13 (fun HT_ HW_ => ?_)
              generalize w71.drew = w72 at HO_3 HO_5 BK839 HB hHeld ⊢
              refine pa_ 0 72 ?_
              refine pa_ 1 73 ?_
              refine ta5_ 2 74 hHeld ?_
              refine pa_ 3 75 ?_
              refine pa_ 4 76 ?_
              refine pa_ 5 77 ?_
              refine pa_ 6 78 ?_
              refine pa_ 7 79 ?_
              refine pa_ 8 80 ?_
              refine pa_ 9 81 ?_
              refine pa_ 10 82 ?_
              refine pa_ 11 83 ?_
              refine pa_ 12 84 ?_
              refine pa_ 15 87 ?_
              refine pa_ 16 88 ?_
              refine pa_ 17 89 ?_
              refine ta5_ 13 85 hHeld ?_
              refine ta5_ 18 90 hHeld ?_
              refine on_ 14 86 (fun K hK => ?_)
              refine goes_ Tryd.func34 (by kernel_rfl) rfl #[.slice (some ad853) t831.length co9, .int .i64 ((rd_T43 t831 x6_2).f0), .int .i64 t835] (by rfl) rfl rfl ar_ ?_
              with_reducible refine (impl_TreeUnder.calls k2 _ _ t831 ((rd_T43 t831 x6_2).f0) t835 t860 _ ?side1 ?side2 A60.out ?side3).mono ?_
              (case side1 => exact cx_ (Kd.Q_reads' HO_3.out).2.2)
              (case side2 => exact (Kd.Q_reads' HO_3.out).2.1)
              (case side3 => exact Glob.below HG.out (bel_))
              rintro e w73 ⟨rfl, hb⟩
              refine ⟨_, rfl, ?_⟩
              have n0_ := Aside0.mk (Kd.Q_below (qp_ HO_3.out) hb)
              have n1_ := Aside0.mk (Kd.R_below (rp_ HO_5.out) hb)
              have n2_ := Aside0.mk (bb_ BK839.out hb)
              have n3_ := Aside0.mk (below_step (bel_) hb)
              clear HO_3
              clear HO_5
              clear BK839
              clear HB
              have HO_3 := n0_
              have HO_5 := n1_
              have BK839 := n2_
              have HB := n3_
              clear n0_ n1_ n2_ n3_
              (try clear hb)
              (try clear hb2)
              (try clear hk)
              (try clear hi)
              refine hK.out _ _ ⟨(blk_cell BK839.out 0).trans rfl, (blk_cell BK839.out 1).trans rfl, (blk_cell BK839.out 2).trans rfl, (blk_cell BK839.out 3).trans rfl, (blk_cell BK839.out 4).trans rfl⟩ (fun hHeld => ?_)
              clear hK K
              refine no_ 86 ?_
              refine on_ 19 91 (fun K hK => ?_)
              refine goes_ Tryd.func34 (by kernel_rfl) rfl #[.slice Ao70 t840.length co70, .int .i64 ((rd_T43 t831 x6_2).f0), .int .i64 t835] (by rfl) rfl rfl ar_ ?_
              with_reducible refine (impl_TreeUnder.calls k2 _ _ t840 ((rd_T43 t831 x6_2).f0) t835 t861 _ ?side1 ?side2 A61.out ?side3).mono ?_
              (case side1 => exact cx_ (Kd.R_reads' HO_5.out).2.2)
              (case side2 => exact (Kd.R_reads' HO_5.out).2.1)
              (case side3 => exact Glob.below HG.out (bel_))
              rintro e w74 ⟨rfl, hb⟩
              refine ⟨_, rfl, ?_⟩
              have n0_ := Aside0.mk (Kd.Q_below (qp_ HO_3.out) hb)
              have n1_ := Aside0.mk (Kd.R_below (rp_ HO_5.out) hb)
              have n2_ := Aside0.mk (bb_ BK839.out hb)
              have n3_ := Aside0.mk (below_step (bel_) hb)
              clear HO_3
              clear HO_5
              clear BK839
              clear HB
              have HO_3 := n0_
              have HO_5 := n1_
              have BK839 := n2_
              have HB := n3_
              clear n0_ n1_ n2_ n3_
              (try clear hb)
              (try clear hb2)
              (try clear hk)
              (try clear hi)
              refine hK.out _ _ ⟨(blk_cell BK839.out 0).trans rfl, (blk_cell BK839.out 1).trans rfl, (blk_cell BK839.out 2).trans rfl, (blk_cell BK839.out 3).trans rfl, (blk_cell BK839.out 4).trans rfl⟩ (fun hHeld => ?_)
              clear hK K
              refine no_ 91 ?_
              refine pa_ 20 92 ?_
              refine pa_ 21 93 ?_
              refine pa_ 22 94 ?_
              refine pa_ 23 95 ?_
              refine pa_ 24 96 ?_
              refine ta5_ 25 97 hHeld ?_
              refine pa_ 26 98 ?_
              refine pa_ 27 99 ?_
              refine pa_ 28 100 ?_
              refine pa_ 29 101 ?_
              refine pa_ 30 102 ?_
              refine ta5_ 31 103 hHeld ?_
              refine on_ 32 104 (fun K hK => ?_)
              refine goes_ Tryd.func34 (by kernel_rfl) rfl #[.slice (some ad853) t831.length co9, .int .i64 ((rd_T43 t831 x6_2).f0), .int .i64 t835] (by rfl) rfl rfl ar_ ?_
              with_reducible refine (impl_TreeUnder.calls k2 _ _ t831 ((rd_T43 t831 x6_2).f0) t835 true _ ?side1 ?side2 A63.out ?side3).mono ?_
              (case side1 => exact cx_ (Kd.Q_reads' HO_3.out).2.2)
              (case side2 => exact (Kd.Q_reads' HO_3.out).2.1)
              (case side3 => exact Glob.below HG.out (bel_))
              rintro e w75 ⟨rfl, hb⟩
              refine ⟨_, rfl, ?_⟩
              have n0_ := Aside0.mk (Kd.Q_below (qp_ HO_3.out) hb)
              have n1_ := Aside0.mk (Kd.R_below (rp_ HO_5.out) hb)
              have n2_ := Aside0.mk (bb_ BK839.out hb)
              have n3_ := Aside0.mk (below_step (bel_) hb)
              clear HO_3
              clear HO_5
              clear BK839
              clear HB
              have HO_3 := n0_
              have HO_5 := n1_
              have BK839 := n2_
              have HB := n3_
              clear n0_ n1_ n2_ n3_
              (try clear hb)
              (try clear hb2)
              (try clear hk)
              (try clear hi)
              refine hK.out _ _ ⟨(blk_cell BK839.out 0).trans rfl, (blk_cell BK839.out 1).trans rfl, (blk_cell BK839.out 2).trans rfl, (blk_cell BK839.out 3).trans rfl, (blk_cell BK839.out 4).trans rfl⟩ (fun hHeld => ?_)
              clear hK K
              refine no_ 104 ?_
              refine pa_ 33 105 ?_
              refine pa_ 34 106 ?_
              refine pa_ 35 107 ?_
              refine pa_ 36 108 ?_
              refine pa_ 38 110 ?_
              refine pa_ 39 111 ?_
              refine on_ 37 109 (fun K hK => ?_)
              refine goes_ Tryd.func32 (by kernel_rfl) rfl #[.slice (some ad853) t831.length co9, .int .i64 ((rd_T43 t831 x6_2).f0)] (by rfl) rfl rfl ar_ ?_
              with_reducible refine (impl_TreeKids.calls k2 _ _ t831 ((rd_T43 t831 x6_2).f0) t863 _ ?side1 ?side2 A65.out ?side3).mono ?_
              (case side1 => exact cx_ (Kd.Q_reads' HO_3.out).2.2)
              (case side2 => exact (Kd.Q_reads' HO_3.out).2.1)
              (case side3 => exact Glob.below HG.out (bel_))
              rintro e w76 ⟨v864, rfl, ho0, hb⟩
              refine ⟨_, rfl, ?_⟩
              have n0_ := Aside0.mk (Kd.Q_below (qp_ HO_3.out) hb)
              have n1_ := Aside0.mk (Kd.R_below (rp_ HO_5.out) hb)
              have n2_ := Aside0.mk (Kd.R_lower ho0 (below_size (bel_)))
              have n3_ := Aside0.mk (bb_ BK839.out hb)
              have n4_ := Aside0.mk (below_step (bel_) hb)
              clear HO_3
              clear HO_5
              clear BK839
              clear HB
              have HO_3 := n0_
              have HO_5 := n1_
              have HO865 := n2_
              have BK839 := n3_
              have HB := n4_
              clear n0_ n1_ n2_ n3_ n4_
              (try clear hb)
              (try clear hb2)
              (try clear hk)
              (try clear hi)
              (try clear ho0)
              refine hK.out _ _ ⟨(blk_cell BK839.out 0).trans rfl, (blk_cell BK839.out 1).trans rfl, (blk_cell BK839.out 2).trans rfl, (blk_cell BK839.out 3).trans rfl, (blk_cell BK839.out 4).trans rfl⟩ (fun hHeld => ?_)
              clear hK K
              refine no_ 109 ?_
              refine on_ 40 112 (fun K hK => ?_)
              refine goes_ Tryd.func32 (by kernel_rfl) rfl #[.slice Ao70 t840.length co70, .int .i64 ((rd_T43 t831 x6_2).f0)] (by rfl) rfl rfl ar_ ?_
              with_reducible refine (impl_TreeKids.calls k2 _ _ t840 ((rd_T43 t831 x6_2).f0) t866 _ ?side1 ?side2 A66.out ?side3).mono ?_
              (case side1 => exact cx_ (Kd.R_reads' HO_5.out).2.2)
              (case side2 => exact (Kd.R_reads' HO_5.out).2.1)
              (case side3 => exact Glob.below HG.out (bel_))
              rintro e w77 ⟨v867, rfl, ho0, hb⟩
              refine ⟨_, rfl, ?_⟩
              have n0_ := Aside0.mk (Kd.Q_below (qp_ HO_3.out) hb)
              have n1_ := Aside0.mk (Kd.R_below (rp_ HO_5.out) hb)
              have n2_ := Aside0.mk (Kd.R_elder' (rp_ HO865.out) (Kd.R_base ho0) hb)
              have n3_ := Aside0.mk (Kd.R_lower (Kd.R_new' ho0 (Kd.R_lt (rp_ HO865.out))) (below_size (bel_)))
              have n4_ := Aside0.mk (bb_ BK839.out hb)
              have n5_ := Aside0.mk (below_step (bel_) hb)
              clear HO_3
              clear HO_5
              clear HO865
              clear BK839
              clear HB
              have HO_3 := n0_
              have HO_5 := n1_
              have HO865 := n2_
              have HO868 := n3_
              have BK839 := n4_
              have HB := n5_
              clear n0_ n1_ n2_ n3_ n4_ n5_
              (try clear hb)
              (try clear hb2)
              (try clear hk)
              (try clear hi)
              (try clear ho0)
              obtain ⟨Ao78, co78, eo78⟩ := Kd.R_slice HO865.out
              (first | subst eo78 | (injection eo78 with f1_ f2_ f3_; have f4_ := f1_.symm; have f5_ := f3_.symm; clear f1_ f2_ f3_; subst f4_; subst f5_))
              obtain ⟨Ao79, co79, eo79⟩ := Kd.R_slice HO868.out
              (first | subst eo79 | (injection eo79 with f1_ f2_ f3_; have f4_ := f1_.symm; have f5_ := f3_.symm; clear f1_ f2_ f3_; subst f4_; subst f5_))
              refine hK.out _ _ ⟨(blk_cell BK839.out 0).trans rfl, (blk_cell BK839.out 1).trans rfl, (blk_cell BK839.out 2).trans rfl, (blk_cell BK839.out 3).trans rfl, (blk_cell BK839.out 4).trans rfl⟩ (fun hHeld => ?_)
              clear hK K
              refine no_ 112 ?_
              refine on_ 41 113 (fun K hK => ?_)
              refine goes_ Tryd.func36 (by kernel_rfl) rfl #[.slice Ao78 t863.length co78, .slice Ao79 t866.length co79] (by rfl) rfl rfl ar_ ?_
              with_reducible refine (laws_lpInts.calls k2 _ _ t863 _ _ t866 true _ ?side1 ?side2 ?side3 ?side4 A67.out).mono ?_
              (case side1 => exact cx_ (Kd.R_reads' HO865.out).2.2)
              (case side2 => exact (Kd.R_reads' HO865.out).2.1)
              (case side3 => exact cx_ (Kd.R_reads' HO868.out).2.2)
              (case side4 => exact (Kd.R_reads' HO868.out).2.1)
              rintro e w' ⟨rfl, ⟨nd, rfl⟩⟩
              refine ⟨_, rfl, ?_⟩
              refine hK.out _ _ ⟨(blk_cell BK839.out 0).trans rfl, (blk_cell BK839.out 1).trans rfl, (blk_cell BK839.out 2).trans rfl, (blk_cell BK839.out 3).trans rfl, (blk_cell BK839.out 4).trans rfl⟩ (fun hHeld => ?_)
              clear hK K
              refine no_ 113 ?_
              refine pa_ 42 114 ?_
              refine pa_ 43 115 ?_
              refine pa_ 44 116 ?_
              refine done_ (done_of HT_.out (by kernel_rfl)) ?_
              try go_wp2
              go_roundg k2
              case measure => have := HJ4.out; have := HK2.out; omega
              case rel => exact ⟨(wrap64 (x6_2 + 1)), (si_), H', ⟨by have := HJ4.out; have := HK2.out; omega⟩, ⟨by (with_reducible repeat (first | apply Kd.Q_alloc | apply Kd.Q_drewN | apply Kd.Q_drew)); exact HO_3.out⟩, ⟨by (with_reducible repeat (first | apply Kd.R_alloc | apply Kd.R_drewN | apply Kd.R_drew)); exact HO_5.out⟩, ⟨by (with_reducible repeat (first | refine blk_drewN ?_ _ | refine blk_drew ?_ | refine blk_alloc ?_ _)); exact BK839.out⟩, ⟨bel_⟩⟩
             ·replace c68 := Bool.eq_false_iff.mpr c68
              subst c68
              have H1 : (none) = some r := by rw [if_neg (show ¬ (false = true) by decide)] at H; exact H
              clear H
              have H := H1
              clear H1
              exact absurd H (by simp)
            ·replace c64 := Bool.eq_false_iff.mpr c64
             subst c64
             have H1 : (laws_FnMoveAll.l0 k2 t831 t840 (wrap64 (x6_2 + 1)) t834 t835 t836 t837 t838) = some r := by rw [if_neg (show ¬ (false = true) by decide)] at H; exact H
             clear H
             have H := H1
             clear H1
             have H' := Aside0.mk H
             clear H
             have p853 : 0 ≤ (x6_2 : Int) := od_
             have q853 : x6_2 < (t831.length : Int) := od_
             obtain ⟨ad853, e853, hx853_0, hx853_1, hx853_2⟩ := at_T43 (Kd.Q_reads' HO_3.out).2.2 x6_2 p853 q853
             cases e853
             replace p853 := eq_true p853
             replace q853 := eq_true q853
             try go_wp2_with (first | ((with_reducible refine gate_callee (f := 35) rfl ?_); refine gl_ 63 Tryd.func35 #[.slice (some ad853) t831.length co9, .int .i64 ((rd_T43 t831 x6_2).f0)] ?_; (with_reducible refine (impl_TreeUp.calls k2 _ _ t831 ((rd_T43 t831 x6_2).f0) t854 t855 _ ?side1 ?side2 A47.out ?side3).mono ?_); (case side1 => exact cx_ (Kd.Q_reads' HO_3.out).2.2); (case side2 => exact (Kd.Q_reads' HO_3.out).2.1); (case side3 => exact Glob.below HG.out (bel_)); rintro e w80 ⟨rfl, hb⟩; refine ⟨_, rfl, ?_⟩; replace HO_3 := Aside0.mk (Kd.Q_below (qp_ HO_3.out) hb); replace HO_5 := Aside0.mk (Kd.R_below (rp_ HO_5.out) hb); replace HB := Aside0.mk (below_step (bel_) hb); replace BK839 := Aside0.mk (bb_ BK839.out hb); (try clear hb); obtain ⟨Ao81, co81, eo81⟩ := Kd.R_slice HO_5.out; subst eo81) | ((with_reducible refine gate_callee (f := 35) rfl ?_); refine gl_ 69 Tryd.func35 #[.slice Ao81 t840.length co81, .int .i64 ((rd_T43 t831 x6_2).f0)] ?_; (with_reducible refine (impl_TreeUp.calls k2 _ _ t840 ((rd_T43 t831 x6_2).f0) t856 t857 _ ?side1 ?side2 A48.out ?side3).mono ?_); (case side1 => exact cx_ (Kd.R_reads' HO_5.out).2.2); (case side2 => exact (Kd.R_reads' HO_5.out).2.1); (case side3 => exact Glob.below HG.out (bel_)); rintro e w82 ⟨rfl, hb⟩; refine ⟨_, rfl, ?_⟩; replace HO_3 := Aside0.mk (Kd.Q_below (qp_ HO_3.out) hb); replace HO_5 := Aside0.mk (Kd.R_below (rp_ HO_5.out) hb); replace HB := Aside0.mk (below_step (bel_) hb); replace BK839 := Aside0.mk (bb_ BK839.out hb); (try clear hb)))
             have n0_ := Aside0.mk (Kd.Q_drew HO_3.out)
             have n1_ := Aside0.mk (Kd.R_drew HO_5.out)
             have n2_ := Aside0.mk (blk_drew BK839.out)
             have n3_ := Aside0.mk (below_drew1 HB.out)
             clear HO_3
             clear HO_5
             clear BK839
             clear HB
             have HO_3 := n0_
             have HO_5 := n1_
             have BK839 := n2_
             have HB := n3_
             clear n0_ n1_ n2_ n3_
             refine start_ (n := 45) (S := fun w' => w'.cell? ⟨gb839, 0, none⟩ = some (.int .i64 t834) ∧ w'.cell? ⟨gb839, 1, none⟩ = some (.int .i64 t835) ∧ w'.cell? ⟨gb839, 2, none⟩ = some (.int .i64 t836) ∧ w'.cell? ⟨gb839, 3, none⟩ = some (.int .i64 t837) ∧ w'.cell? ⟨gb839, 4, none⟩ = some (.string t838)) (ds := []) #[false, false, false, false, false, false, false, false, false, false, false, false, false, false, false, false, false, false, false, false, false, false, false, false, false, false, false, false, false, false, false, false, false, false, false, false, false, false, false, false, false, false, false, false, false] (by kernel_rfl) rfl rfl ⟨(blk_cell BK839.out 0).trans rfl, (blk_cell BK839.out 1).trans rfl, (blk_cell BK839.out 2).trans rfl, (blk_cell BK839.out 3).trans rfl, (blk_cell BK839.out 4).trans rfl⟩ (fun hHeld => ?_); refine with_tabW laws_FnMoveAll.tab13 laws_FnMoveAll.bits13 (fun HT_ HW_ => ?_)
             generalize w82.drew = w83 at HO_3 HO_5 BK839 HB hHeld ⊢
             refine pa_ 0 72 ?_
             refine pa_ 1 73 ?_
             refine ta5_ 2 74 hHeld ?_
             refine pa_ 3 75 ?_
             refine pa_ 4 76 ?_
             refine pa_ 5 77 ?_
             refine pa_ 6 78 ?_
             refine pa_ 7 79 ?_
             refine pa_ 8 80 ?_
             refine pa_ 9 81 ?_
             refine pa_ 10 82 ?_
             refine pa_ 11 83 ?_
             refine pa_ 12 84 ?_
             refine pa_ 15 87 ?_
             refine pa_ 16 88 ?_
             refine pa_ 17 89 ?_
             refine ta5_ 13 85 hHeld ?_
             refine ta5_ 18 90 hHeld ?_
             refine on_ 14 86 (fun K hK => ?_)
             refine goes_ Tryd.func34 (by kernel_rfl) rfl #[.slice (some ad853) t831.length co9, .int .i64 ((rd_T43 t831 x6_2).f0), .int .i64 t835] (by rfl) rfl rfl ar_ ?_
             with_reducible refine (impl_TreeUnder.calls k2 _ _ t831 ((rd_T43 t831 x6_2).f0) t835 t860 _ ?side1 ?side2 A60.out ?side3).mono ?_
             (case side1 => exact cx_ (Kd.Q_reads' HO_3.out).2.2)
             (case side2 => exact (Kd.Q_reads' HO_3.out).2.1)
             (case side3 => exact Glob.below HG.out (bel_))
             rintro e w84 ⟨rfl, hb⟩
             refine ⟨_, rfl, ?_⟩
             have n0_ := Aside0.mk (Kd.Q_below (qp_ HO_3.out) hb)
             have n1_ := Aside0.mk (Kd.R_below (rp_ HO_5.out) hb)
             have n2_ := Aside0.mk (bb_ BK839.out hb)
             have n3_ := Aside0.mk (below_step (bel_) hb)
             clear HO_3
             clear HO_5
             clear BK839
             clear HB
             have HO_3 := n0_
             have HO_5 := n1_
             have BK839 := n2_
             have HB := n3_
             clear n0_ n1_ n2_ n3_
             (try clear hb)
             (try clear hb2)
             (try clear hk)
             (try clear hi)
             refine hK.out _ _ ⟨(blk_cell BK839.out 0).trans rfl, (blk_cell BK839.out 1).trans rfl, (blk_cell BK839.out 2).trans rfl, (blk_cell BK839.out 3).trans rfl, (blk_cell BK839.out 4).trans rfl⟩ (fun hHeld => ?_)
             clear hK K
             refine no_ 86 ?_
             refine on_ 19 91 (fun K hK => ?_)
             refine goes_ Tryd.func34 (by kernel_rfl) rfl #[.slice Ao81 t840.length co81, .int .i64 ((rd_T43 t831 x6_2).f0), .int .i64 t835] (by rfl) rfl rfl ar_ ?_
             with_reducible refine (impl_TreeUnder.calls k2 _ _ t840 ((rd_T43 t831 x6_2).f0) t835 t861 _ ?side1 ?side2 A61.out ?side3).mono ?_
             (case side1 => exact cx_ (Kd.R_reads' HO_5.out).2.2)
             (case side2 => exact (Kd.R_reads' HO_5.out).2.1)
             (case side3 => exact Glob.below HG.out (bel_))
             rintro e w85 ⟨rfl, hb⟩
             refine ⟨_, rfl, ?_⟩
             have n0_ := Aside0.mk (Kd.Q_below (qp_ HO_3.out) hb)
             have n1_ := Aside0.mk (Kd.R_below (rp_ HO_5.out) hb)
             have n2_ := Aside0.mk (bb_ BK839.out hb)
             have n3_ := Aside0.mk (below_step (bel_) hb)
             clear HO_3
             clear HO_5
             clear BK839
             clear HB
             have HO_3 := n0_
             have HO_5 := n1_
             have BK839 := n2_
             have HB := n3_
             clear n0_ n1_ n2_ n3_
             (try clear hb)
             (try clear hb2)
             (try clear hk)
             (try clear hi)
             refine hK.out _ _ ⟨(blk_cell BK839.out 0).trans rfl, (blk_cell BK839.out 1).trans rfl, (blk_cell BK839.out 2).trans rfl, (blk_cell BK839.out 3).trans rfl, (blk_cell BK839.out 4).trans rfl⟩ (fun hHeld => ?_)
             clear hK K
             refine no_ 91 ?_
             refine pa_ 20 92 ?_
             refine pa_ 21 93 ?_
             refine pa_ 22 94 ?_
             refine pa_ 23 95 ?_
             refine pa_ 24 96 ?_
             refine ta5_ 25 97 hHeld ?_
             refine pa_ 26 98 ?_
             refine pa_ 27 99 ?_
             refine pa_ 28 100 ?_
             refine pa_ 29 101 ?_
             refine pa_ 30 102 ?_
             refine ta5_ 31 103 hHeld ?_
             refine on_ 32 104 (fun K hK => ?_)
             refine goes_ Tryd.func34 (by kernel_rfl) rfl #[.slice (some ad853) t831.length co9, .int .i64 ((rd_T43 t831 x6_2).f0), .int .i64 t835] (by rfl) rfl rfl ar_ ?_
             with_reducible refine (impl_TreeUnder.calls k2 _ _ t831 ((rd_T43 t831 x6_2).f0) t835 false _ ?side1 ?side2 A63.out ?side3).mono ?_
             (case side1 => exact cx_ (Kd.Q_reads' HO_3.out).2.2)
             (case side2 => exact (Kd.Q_reads' HO_3.out).2.1)
             (case side3 => exact Glob.below HG.out (bel_))
             rintro e w86 ⟨rfl, hb⟩
             refine ⟨_, rfl, ?_⟩
             have n0_ := Aside0.mk (Kd.Q_below (qp_ HO_3.out) hb)
             have n1_ := Aside0.mk (Kd.R_below (rp_ HO_5.out) hb)
             have n2_ := Aside0.mk (bb_ BK839.out hb)
             have n3_ := Aside0.mk (below_step (bel_) hb)
             clear HO_3
             clear HO_5
             clear BK839
             clear HB
             have HO_3 := n0_
             have HO_5 := n1_
             have BK839 := n2_
             have HB := n3_
             clear n0_ n1_ n2_ n3_
             (try clear hb)
             (try clear hb2)
             (try clear hk)
             (try clear hi)
             refine hK.out _ _ ⟨(blk_cell BK839.out 0).trans rfl, (blk_cell BK839.out 1).trans rfl, (blk_cell BK839.out 2).trans rfl, (blk_cell BK839.out 3).trans rfl, (blk_cell BK839.out 4).trans rfl⟩ (fun hHeld => ?_)
             clear hK K
             refine no_ 104 ?_
             refine pa_ 33 105 ?_
             refine pa_ 34 106 ?_
             refine po_ 35 107 ?_
             refine po_ 36 108 ?_
             refine po_ 37 109 ?_
             refine po_ 38 110 ?_
             refine po_ 39 111 ?_
             refine po_ 40 112 ?_
             refine po_ 41 113 ?_
             refine po_ 42 114 ?_
             refine pa_ 43 115 ?_
             refine pa_ 44 116 ?_
             refine done_ (done_of HT_.out (by kernel_rfl)) ?_
             try go_wp2
             go_roundg k2
             case measure => have := HJ4.out; have := HK2.out; omega
             case rel => exact ⟨(wrap64 (x6_2 + 1)), (si_), H', ⟨by have := HJ4.out; have := HK2.out; omega⟩, ⟨by (with_reducible repeat (first | apply Kd.Q_alloc | apply Kd.Q_drewN | apply Kd.Q_drew)); exact HO_3.out⟩, ⟨by (with_reducible repeat (first | apply Kd.R_alloc | apply Kd.R_drewN | apply Kd.R_drew)); exact HO_5.out⟩, ⟨by (with_reducible repeat (first | refine blk_drewN ?_ _ | refine blk_drew ?_ | refine blk_alloc ?_ _)); exact BK839.out⟩, ⟨bel_⟩⟩
          ·rw [if_neg c59] at H
           have c59b0 : (t854 == t856) = false := beq_eq_false_iff_ne.mpr c59
           have c59b1 : (t854 != t856) = true := bne_iff_ne.mpr c59
           exact absurd H (by simp)
        ·rw [if_neg c46] at H
         exact absurd H (by simp)
       ·rw [if_neg c45] at H
        have c45b0 : decide (x6_2 < (t831.length : Int)) = false := decide_eq_false c45
        clear c45
        obtain rfl := Option.some.inj H
        go_wp2
        go_ret
        exact ⟨fi_, bel_⟩

def laws_FnMoveAll.Pure : Prop := ∀ (l0 : List Int), l0.length ≤ maxLen → l0.length * 1 ≤ 140737488351232 → (∀ x ∈ l0, (Lit.int .u8 x).wf = true) → ∃ k, laws_FnMoveAll.f k l0 = some true
theorem laws_FnMoveAll.walk (P : laws_FnMoveAll.Pure) (a0 : Option Addr) (len0 cap0 : Nat) (z0 : List Int) (w : World) (w0 : (a0 = none ∧ len0 = 0 ∧ cap0 = 0 ∧ z0 = []) ∨ ∃ x, a0 = some x ∧ len0 ≤ cap0 ∧ cap0 ≤ maxLen ∧ z0.length = cap0 ∧ (∀ i, i < z0.length → w.cell? (x.add i) = some (.int .u8 (z0.getD i 0))) ∧ ∀ n ∈ z0, (Lit.int .u8 n).wf = true) (y0 : len0 * 1 ≤ 140737488351232) (hG : Glob w) :
  Calls Tryd.prog 14 #[.slice a0 len0 cap0] w fun e w' => e = .returned (.bool true) ∧ Below w.heap.size w w' := by
 obtain ⟨l0, rfl, hr0, hm0, hw0, hc0⟩ := ReadsInt.ofRowC w0
 obtain ⟨k, h⟩ := P l0 hm0 y0 hw0
 refine (laws_FnMoveAll.calls k _ _ l0 true w (Kd.C_of_reads (d := (0 : Int)) (h1 := fun _ => rfl) hr0) hc0 h hG).mono ?_
 rintro e w' ⟨rfl, hd⟩
 exact ⟨rfl, hd⟩

end Go.Proofs.YtkopimbbgckcnaaDoor.P
namespace Go.Proofs.YtkopimbbgckcnaaDoor.FP
open Go.Proofs.YtkopimbbgckcnaaDoor.P
theorem sib_insFirst_new (p i : Nat) (t : ByteArray) (s : Fo) : ∀ {F : Fo} (q : Nat), i ∉ F.ids → p ∈ F.ids → sib i q (insFirst p i t s F) = 0
 | .nil, _, _, h => by simp [Fo.ids] at h
 | .nd j u k n, q, h, hp => by
  simp only [Fo.ids, List.mem_cons, List.mem_append, not_or] at h hp
  have hj : ¬ j = i := fun e => h.1 e.symm
  rw [insFirst]
  by_cases e : j = p
  ·rw [if_pos e, sib, if_neg hj, if_pos (by simp [Fo.ids]), sib, if_pos rfl]
  ·rw [if_neg e, sib, if_neg hj]
   by_cases hk : p ∈ k.ids
   ·rw [if_pos ((mem_insFirst p i t s i k).2 (Or.inr ⟨hk, Or.inl rfl⟩)), sib_insFirst_new p i t s 0 h.2.1 hk]
   ·rw [if_neg (by rw [mem_insFirst]; grind), sib_insFirst_new p i t s j h.2.2 (by grind)]
theorem sib_insAfter_new (a i : Nat) (t : ByteArray) (s : Fo) : ∀ {F : Fo} (q : Nat), i ∉ F.ids → a ∈ F.ids → sib i q (insAfter a i t s F) = a
 | .nil, _, _, h => by simp [Fo.ids] at h
 | .nd j u k n, q, h, hp => by
  simp only [Fo.ids, List.mem_cons, List.mem_append, not_or] at h hp
  have hj : ¬ j = i := fun e => h.1 e.symm
  rw [insAfter]
  by_cases e : j = a
  ·rw [if_pos e, sib, if_neg hj, if_neg h.2.1, sib, if_pos rfl, e]
  ·rw [if_neg e, sib, if_neg hj]
   by_cases hk : a ∈ k.ids
   ·rw [if_pos ((mem_insAfter a i t s i k).2 (Or.inr ⟨hk, Or.inl rfl⟩)), sib_insAfter_new a i t s 0 h.2.1 hk]
   ·rw [if_neg (by rw [mem_insAfter]; grind), sib_insAfter_new a i t s j h.2.2 (by grind)]
theorem sibT_insFirst_new (p i : Nat) (t : ByteArray) (s : Fo) : ∀ {F : Fo}, i ∉ F.ids → p ∈ F.ids → sibT i (insFirst p i t s F) = 0
 | .nil, _, h => by simp [Fo.ids] at h
 | .nd j u k n, h, hp => by
  simp only [Fo.ids, List.mem_cons, List.mem_append, not_or] at h hp
  rw [insFirst]
  by_cases e : j = p
  ·rw [if_pos e, sibT, if_pos (by simp [Fo.ids]), sib, if_pos rfl]
  ·rw [if_neg e, sibT]
   by_cases hk : p ∈ k.ids
   ·rw [if_pos ((mem_insFirst p i t s i k).2 (Or.inr ⟨hk, Or.inl rfl⟩)), sib_insFirst_new p i t s 0 h.2.1 hk]
   ·rw [if_neg (by rw [mem_insFirst]; grind), sibT_insFirst_new p i t s h.2.2 (by grind)]
theorem sibT_insAfter_new (a i : Nat) (t : ByteArray) (s : Fo) : ∀ {F : Fo}, i ∉ F.ids → a ∈ F.ids → a ∉ F.tops → sibT i (insAfter a i t s F) = a
 | .nil, _, h, _ => by simp [Fo.ids] at h
 | .nd j u k n, h, hp, ht => by
  simp only [Fo.ids, Fo.tops, List.mem_cons, List.mem_append, not_or] at h hp ht
  have e : ¬ j = a := fun g => ht.1 g.symm
  rw [insAfter, if_neg e, sibT]
  by_cases hk : a ∈ k.ids
  ·rw [if_pos ((mem_insAfter a i t s i k).2 (Or.inr ⟨hk, Or.inl rfl⟩)), sib_insAfter_new a i t s 0 h.2.1 hk]
  ·rw [if_neg (by rw [mem_insAfter]; grind), sibT_insAfter_new a i t s h.2.2 (by grind) ht.2]
theorem PutOk.sib {H : Fo} {q : Nat × Nat} {i : Nat} {s : Fo} {t : ByteArray} (o : PutOk H q i s) (h0 : ∀ x ∈ H.ids, x ≠ 0) : sibT i (putF H q i t s) = q.2 := by
 have ht := near_at_top (G := H) o.nd h0 o h0
 unfold putF
 by_cases h : q.2 = 0
 ·rw [if_pos h, sibT_insFirst_new _ _ _ _ o.iH o.up, h]
 ·rw [if_neg h, sibT_insAfter_new _ _ _ _ o.iH (o.at_.resolve_left h).1 (ht.resolve_left h)]
theorem MvOk.sib {G : Fo} {q : Nat × Nat} {i : Nat} (o : MvOk G i q) (h0 : ∀ x ∈ G.ids, x ≠ 0) : sibT i (mvF G q i) = q.2 := o.put.sib fun x hx => h0 x (del_ids_sub i hx)
theorem MvOk.par_new {G : Fo} {q : Nat × Nat} {i : Nat} (o : MvOk G i q) : par i 0 (mvF G q i) = q.1 := o.put.par
end Go.Proofs.YtkopimbbgckcnaaDoor.FP
namespace Go.Proofs.YtkopimbbgckcnaaDoor.PL
open Go.RowKit Go.Proofs.YtkopimbbgckcnaaDoor.P Go.Proofs.YtkopimbbgckcnaaDoorW.PrintWords Go.Proofs.YtkopimbbgckcnaaDoorW.PrintLast
theorem of_f (b : List Int) (p : Int) (m : Nat) (l : List ByteArray) (hb : Bytes b) (hp : Rd p (m + 1)) (h1 : 1 ≤ l.length) (h2 : l.length ≤ 1000) : ∃ (s : ByteArray), Ev (fun k => spec_l6Rd_of.f k b p l) (s, p + 1) ∧ s ∈ l := by
 obtain ⟨r, hr, _, h0, hlt, _⟩ := pick_f b p (l.length : Int) m hb hp
 have hlt := hlt (by omega)
 have hi : r.toNat < l.length := by omega
 refine ⟨l[r.toNat], ?_, List.getElem_mem hi⟩
 unfold spec_l6Rd_of.f
 refine Ev.bind hr ?_
 refine ev_pos h0 (ev_pos hlt ?_)
 have : rdOf ByteArray.empty l r = l[r.toNat] := by
  unfold rdOf
  rw [List.getD_eq_getElem?_getD, List.getElem?_eq_getElem hi]
  rfl
 rw [this]
 exact evnow _
theorem text_l0_f (b : List Int) (hb : Bytes b) : ∀ (n : Nat) (s : ByteArray) (p : Int) (m : Nat), s.size + n ≤ 1000 → Rd p (m + n + 2) → ∃ (s' : ByteArray) (p' : Int), Ev (fun k => spec_l71Text.l0 k s n b p) (s', p') ∧ Rd p' m ∧ s'.size ≤ 1010
 | 0, s, p, m, hs, hp => by
  obtain ⟨r, hr, hR, _, _, _⟩ := pick_f b p 40 (m + 1) hb hp
  by_cases h0 : r = 0
  ·obtain ⟨u, hu, hm⟩ := of_f b (p + 1) m [(⟨#[101]⟩ : ByteArray), (⟨#[32]⟩ : ByteArray), (⟨#[97, 97, 97, 97]⟩ : ByteArray), (⟨#[39]⟩ : ByteArray)] hb hR (by simp) (by simp)
   have hz : u.size ≤ 4 := by
    simp only [List.mem_cons, List.not_mem_nil, or_false] at hm
    rcases hm with rfl | rfl | rfl | rfl <;> decide
   refine ⟨s ++ u, p + 1 + 1, ?_, ⟨by have := hR.1; omega, by have := hR.2; omega⟩, by rw [ByteArray.size_append]; omega⟩
   refine Ev.step (fun k => by simp only [spec_l71Text.l0]; rfl) ?_
   refine ev_neg (by omega) (Ev.bind hr (ev_pos h0 (Ev.bind hu (ev_pos (show s.size + u.size ≤ 9223372036854775807 by omega) (evnow _)))))
  ·refine ⟨s, p + 1, ?_, hR.less (by omega), by omega⟩
   refine Ev.step (fun k => by simp only [spec_l71Text.l0]; rfl) ?_
   exact ev_neg (by omega) (Ev.bind hr (ev_neg h0 (evnow _)))
 | n + 1, s, p, m, hs, hp => by
  obtain ⟨u, hu, hm⟩ := of_f b p (m + n + 2) [(⟨#[97]⟩ : ByteArray), (⟨#[98]⟩ : ByteArray), (⟨#[99]⟩ : ByteArray), (⟨#[100]⟩ : ByteArray)] hb (hp.less (by omega)) (by simp) (by simp)
  have hz : u.size = 1 := by
   simp only [List.mem_cons, List.not_mem_nil, or_false] at hm
   rcases hm with rfl | rfl | rfl | rfl <;> decide
  obtain ⟨s', p', h1, h2, h3⟩ := text_l0_f b hb n (s ++ u) (p + 1) m (by rw [ByteArray.size_append]; omega) ⟨by have := hp.1; omega, by have := hp.2; omega⟩
  refine ⟨s', p', ?_, h2, h3⟩
  refine Ev.step (fun k => by simp only [spec_l71Text.l0]; rfl) ?_
  refine ev_pos (by omega) (Ev.bind hu (ev_pos (show s.size + u.size ≤ 9223372036854775807 by omega) ?_))
  have hw : wrap64 (((n + 1 : Nat) : Int) - 1) = n := by rw [wrap_id _ (by omega) (by have := hs; omega)]; omega
  rw [hw]
  exact h1
theorem dtext_f (b : List Int) (p : Int) (m : Nat) (hb : Bytes b) (hp : Rd p (m + 6)) : ∃ (s : ByteArray) (p' : Int), Ev (fun k => spec_l71Text.f k b p) (s, p') ∧ Rd p' m ∧ s.size ≤ 1010 := by
 obtain ⟨r, hr, hR, h0, hlt, _⟩ := pick_f b p 4 (m + 5) hb hp
 have hlt := hlt (by omega)
 obtain ⟨n, rfl⟩ : ∃ n : Nat, r = n := ⟨r.toNat, by omega⟩
 obtain ⟨s', p', h1, h2, h3⟩ := text_l0_f b hb n ⟨#[]⟩ (p + 1) m (by show 0 + n ≤ 1000; omega) (hR.less (by omega))
 refine ⟨s', p', ?_, h2, h3⟩
 unfold spec_l71Text.f
 exact Ev.bind hr h1
theorem did_f (b : List Int) (p : Int) (m : Nat) (hb : Bytes b) (hp : Rd p (m + 2)) : ∃ r p' : Int, Ev (fun k => spec_l71Id.f k b p) (r, p') ∧ Rd p' m ∧ 11 ≤ r ∧ r ≤ 44 := by
 obtain ⟨x, hx, hR, x0, x1, _⟩ := pick_f b p 3 (m + 1) hb hp
 obtain ⟨y, hy, hR2, y0, y1, _⟩ := pick_f b (p + 1) 4 m hb hR
 have x1 := x1 (by omega)
 have y1 := y1 (by omega)
 have e : wrap64 (wrap64 (wrap64 (10 * wrap64 (1 + x)) + 1) + y) = 10 * (1 + x) + 1 + y := by
  rw [wrap_id (1 + x) (by omega) (by omega), wrap_id (10 * (1 + x)) (by omega) (by omega), wrap_id (10 * (1 + x) + 1) (by omega) (by omega), wrap_id _ (by omega) (by omega)]
 refine ⟨10 * (1 + x) + 1 + y, p + 1 + 1, ?_, hR2, by omega, by omega⟩
 unfold spec_l71Id.f
 refine Ev.bind hx (Ev.bind hy ?_)
 rw [e]
 exact evnow _
theorem i64_small {x : Int} (h0 : -1000 ≤ x) (h1 : x ≤ 1000) : I64 x := ⟨by omega, by omega⟩
def OpX (k i u a : Int) (s : ByteArray) : Prop := I64 k ∧ I64 i ∧ I64 u ∧ I64 a ∧ s.size ≤ 2000
theorem opx_j1 (b : List Int) (hb : Bytes b) (k i u a p : Int) (s : ByteArray) (m : Nat) (h : OpX k i u a s) (hp : Rd p (m + 2)) :
  ∃ (k' i' u' a' : Int) (s' : ByteArray) (p' : Int), Ev (fun n => spec_l71Op.j1 n b p k i u a s) (k', i', u', a', s', p') ∧ OpX k' i' u' a' s' ∧ Rd p' m := by
 obtain ⟨h1, h2, h3, h4, h5⟩ := h
 obtain ⟨r, hr, hR, r0, r1, _⟩ := pick_f b p 30 (m + 1) hb hp
 obtain ⟨x, hx, hX, x0, x1, _⟩ := pick_f b (p + 1) 5 m hb hR
 obtain ⟨y, hy, hY, y0, y1, _⟩ := pick_f b (p + 1) 50 m hb hR
 have x1 := x1 (by omega)
 have y1 := y1 (by omega)
 have ix : I64 x := i64_small (by omega) (by omega)
 have iy : I64 y := i64_small (by omega) (by omega)
 by_cases e0 : r = 0
 ·refine ⟨x, i, u, a, s, p + 1 + 1, ?_, ⟨ix, h2, h3, h4, h5⟩, hX⟩
  refine Ev.step (fun n => by simp only [spec_l71Op.j1]; rfl) ?_
  exact Ev.bind hr (ev_pos e0 (Ev.bind hx (evnow _)))
 ·by_cases e1 : r = 1
  ·refine ⟨k, y, u, a, s, p + 1 + 1, ?_, ⟨h1, iy, h3, h4, h5⟩, hX⟩
   refine Ev.step (fun n => by simp only [spec_l71Op.j1]; rfl) ?_
   exact Ev.bind hr (ev_neg e0 (ev_pos e1 (Ev.bind hy (evnow _))))
  ·by_cases e2 : r = 2
   ·refine ⟨k, i, y, a, s, p + 1 + 1, ?_, ⟨h1, h2, iy, h4, h5⟩, hX⟩
    refine Ev.step (fun n => by simp only [spec_l71Op.j1]; rfl) ?_
    exact Ev.bind hr (ev_neg e0 (ev_neg e1 (ev_pos e2 (Ev.bind hy (evnow _)))))
   ·by_cases e3 : r = 3
    ·refine ⟨k, i, u, y, s, p + 1 + 1, ?_, ⟨h1, h2, h3, iy, h5⟩, hX⟩
     refine Ev.step (fun n => by simp only [spec_l71Op.j1]; rfl) ?_
     exact Ev.bind hr (ev_neg e0 (ev_neg e1 (ev_neg e2 (ev_pos e3 (Ev.bind hy (evnow _))))))
    ·refine ⟨k, i, u, a, s, p + 1, ?_, ⟨h1, h2, h3, h4, h5⟩, hR.less (by omega)⟩
     refine Ev.step (fun n => by simp only [spec_l71Op.j1]; rfl) ?_
     exact Ev.bind hr (ev_neg e0 (ev_neg e1 (ev_neg e2 (ev_neg e3 (evnow _)))))
theorem opx_j0 (b : List Int) (hb : Bytes b) (up at_ w : Int) (f : Bool) (k i u a p : Int) (s : ByteArray) (m : Nat) (h : OpX k i u a s) (hu : I64 up) (ha : I64 at_) (hp : Rd p (m + 2)) :
  ∃ (k' i' u' a' : Int) (s' : ByteArray) (p' : Int), Ev (fun n => spec_l71Op.j0 n up at_ w f b p k i u a s) (k', i', u', a', s', p') ∧ OpX k' i' u' a' s' ∧ Rd p' m := by
 obtain ⟨h1, h2, h3, h4, h5⟩ := h
 have j1 : I64 1 := i64_small (by omega) (by omega)
 have j3 : I64 3 := i64_small (by omega) (by omega)
 cases f with
 | true =>
  obtain ⟨k', i', u', a', s', p', g1, g2, g3⟩ := opx_j1 b hb 1 i up at_ p s m ⟨j1, h2, hu, ha, h5⟩ hp
  refine ⟨k', i', u', a', s', p', ?_, g2, g3⟩
  refine Ev.step (fun n => by simp only [spec_l71Op.j0]; rfl) ?_
  exact ev_pos (by simp) g1
 | false =>
  obtain ⟨k', i', u', a', s', p', g1, g2, g3⟩ := opx_j1 b hb 3 i up at_ p ⟨#[]⟩ m ⟨j3, h2, hu, ha, by decide⟩ hp
  by_cases w2 : w = 2
  ·refine ⟨k', i', u', a', s', p', ?_, g2, g3⟩
   refine Ev.step (fun n => by simp only [spec_l71Op.j0]; rfl) ?_
   exact ev_neg (by decide) (ev_pos w2 g1)
  ·by_cases w3 : w = 3
   ·refine ⟨k', i', u', a', s', p', ?_, g2, g3⟩
    refine Ev.step (fun n => by simp only [spec_l71Op.j0]; rfl) ?_
    exact ev_neg (by decide) (ev_neg w2 (ev_pos w3 g1))
   ·obtain ⟨k', i', u', a', s', p', g1, g2, g3⟩ := opx_j1 b hb k i u a p s m ⟨h1, h2, h3, h4, h5⟩ hp
    refine ⟨k', i', u', a', s', p', ?_, g2, g3⟩
    refine Ev.step (fun n => by simp only [spec_l71Op.j0]; rfl) ?_
    exact ev_neg (by decide) (ev_neg w2 (ev_neg w3 g1))
theorem rd_mem (l : List Int) (r : Int) (h0 : 0 ≤ r) (h1 : r < l.length) : rd l r ∈ l := by
 have hi : r.toNat < l.length := by omega
 unfold rd
 rw [List.getD_eq_getElem?_getD, List.getElem?_eq_getElem hi]
 exact List.getElem_mem hi
theorem op71_f (b : List Int) (hb : Bytes b) (p : Int) (m : Nat) (hp : Rd p (m + 17)) :
  ∃ (k i u a : Int) (s : ByteArray) (p' : Int), Ev (fun n => spec_l71Op.f n b p) (k, i, u, a, s, p') ∧ OpX k i u a s ∧ Rd p' m := by
 obtain ⟨i, p1, hi, R1, i0, i1⟩ := did_f b p (m + 15) hb hp
 obtain ⟨s, p2, hs, R2, s0⟩ := dtext_f b p1 (m + 9) hb R1
 obtain ⟨u, p3, hu, R3, u0, u1⟩ := did_f b p2 (m + 7) hb R2
 obtain ⟨x, hx, R4, x0, x1, _⟩ := pick_f b p3 5 (m + 6) hb R3
 have x1 := x1 (by omega)
 obtain ⟨v, p5, hv, R5, v0, v1⟩ := did_f b (p3 + 1) (m + 4) hb R4
 obtain ⟨y, hy, R6, y0, y1, _⟩ := pick_f b p5 2 (m + 3) hb R5
 have y1 := y1 (by omega)
 obtain ⟨z, hz, R7, z0, z1, _⟩ := pick_f b (p5 + 1) 5 (m + 2) hb R6
 have iu : I64 (rd ([1, 1, u, 2, 3] : List Int) x) := by
  have := rd_mem ([1, 1, u, 2, 3] : List Int) x x0 (by simpa using x1)
  simp only [List.mem_cons, List.not_mem_nil, or_false] at this
  exact i64_small (by omega) (by omega)
 have ia : I64 (rd ([0, v] : List Int) y) := by
  have := rd_mem ([0, v] : List Int) y y0 (by simpa using y1)
  simp only [List.mem_cons, List.not_mem_nil, or_false] at this
  exact i64_small (by omega) (by omega)
 have hX : OpX 2 i 0 0 s := ⟨i64_small (by omega) (by omega), i64_small (by omega) (by omega), i64_small (by omega) (by omega), i64_small (by omega) (by omega), by omega⟩
 unfold spec_l71Op.f
 by_cases e0 : z = 0
 ·obtain ⟨k', i', u', a', s', p', g1, g2, g3⟩ := opx_j0 b hb _ _ z (z == 0) 2 i 0 0 (p5 + 1 + 1) s m hX iu ia R7
  refine ⟨k', i', u', a', s', p', ?_, g2, g3⟩
  refine Ev.bind hi (Ev.bind hs (Ev.bind hu ?_))
  simp only [Option.bind_some]
  refine Ev.bind hx (ev_pos x0 (ev_pos (by simpa using x1) (Ev.bind hv ?_)))
  refine Ev.bind hy (ev_pos y0 (ev_pos (by simpa using y1) (Ev.bind hz (ev_pos e0 g1))))
 ·obtain ⟨k', i', u', a', s', p', g1, g2, g3⟩ := opx_j0 b hb _ _ z (z == 1) 2 i 0 0 (p5 + 1 + 1) s m hX iu ia R7
  refine ⟨k', i', u', a', s', p', ?_, g2, g3⟩
  refine Ev.bind hi (Ev.bind hs (Ev.bind hu ?_))
  simp only [Option.bind_some]
  refine Ev.bind hx (ev_pos x0 (ev_pos (by simpa using x1) (Ev.bind hv ?_)))
  refine Ev.bind hy (ev_pos y0 (ev_pos (by simpa using y1) (Ev.bind hz (ev_neg e0 g1))))
theorem open_f (code : List Int) (h : ∀ x ∈ code, 0 ≤ x ∧ x ≤ 255) : ∃ b : List Int, spec_l6Open.f code = some (b, 0) ∧ Bytes b := by
 unfold spec_l6Open.f
 by_cases hl : (code.length : Int) > 2000
 ·refine ⟨code.take 2000, by rw [if_pos hl, if_pos (by omega)], by rw [List.length_take]; omega, fun x hx => h x (List.mem_of_mem_take hx)⟩
 ·exact ⟨code, by rw [if_neg hl], by omega, h⟩
theorem byte_of {x : Int} (h : (Lit.int .u8 x).wf = true) : 0 ≤ x ∧ x ≤ 255 := by
 simp only [Lit.wf, Bool.and_eq_true, decide_eq_true_eq] at h
 exact ⟨h.1, h.2⟩
def wfD (r : S43) : Prop := I64 r.f0 ∧ r.f2.size ≤ 2000
theorem do_wf (t : List S43) (B kd id up at_ : Int) (s : ByteArray) (hI : Inv t B) (hB0 : 0 ≤ B) (hB : B ≤ 1099511627776) (hk : kd = 1 ∨ kd = 2 ∨ kd = 3) (hid : id ≠ 3) (hid64 : I64 id) (hl : t.length ≤ 100000) (hs : s.size ≤ 2000) (hw : ∀ r ∈ t, wfD r) :
  ∃ t' : List S43, Ev (fun n => spec_l3Do.f n t kd id up at_ s) t' ∧ Inv t' (2 * B + 1) ∧ (t'.length ≤ t.length + 1 ∧ t.length ≤ t'.length) ∧ ∀ r ∈ t', wfD r := by
 obtain ⟨t', h1, h2, h3⟩ := do_f t B kd id up at_ s hI hB0 hB hk hid hid64 hl hs
 exact ⟨t', h1, h2, h3, h2.ids⟩
theorem mem_set_wf {t : List S43} (h : ∀ r ∈ t, wfD r) {k : Nat} {v : S43} (hv : wfD v) : ∀ r ∈ t.set k v, wfD r := fun r hr => by
 rcases List.mem_or_eq_of_mem_set hr with hr | rfl
 ·exact h r hr
 ·exact hv
theorem tree_l1 (b : List Int) (hb : Bytes b) : ∀ (n : Nat) (t : List S43) (i : Nat) (p : Int) (m : Nat), i + n = t.length → (∀ r ∈ t, wfD r) → 3 ≤ t.length → t.length ≤ 20 → Rd p (m + n + 3) →
  ∃ (t' : List S43) (p' : Int), Ev (fun k => spec_l71Tree.l1 k t i b p) (t', p') ∧ (∀ r ∈ t', wfD r) ∧ 2 ≤ t'.length ∧ t'.length ≤ 21 ∧ Rd p' m
 | 0, t, i, p, m, h, hw, h3, h20, hp => by
  obtain ⟨r, hr, hR, r0, r1, _⟩ := pick_f b p 24 (m + 2) hb hp
  obtain ⟨x, hx, hX, x0, x1, _⟩ := pick_f b (p + 1) (t.length : Int) (m + 1) hb hR
  obtain ⟨y, hy, hY, y0, y1, _⟩ := pick_f b (p + 1 + 1) 5 m hb hX
  have x1 := x1 (by omega)
  obtain ⟨j, rfl⟩ : ∃ n : Nat, x = n := ⟨x.toNat, by omega⟩
  have hj : j < t.length := by omega
  have hwj := hw _ (List.getElem_mem hj)
  by_cases e0 : r = 0
  ·refine ⟨t.set j ⟨t[j].f0, y, t[j].f2⟩, p + 1 + 1 + 1, ?_, mem_set_wf hw hwj, by rw [List.length_set]; omega, by rw [List.length_set]; omega, hY⟩
   refine Ev.step (fun n => by simp only [spec_l71Tree.l1]; rfl) ?_
   refine ev_neg (by omega) (Ev.bind hr (ev_pos e0 (Ev.bind hx (Ev.bind hy (ev_pos x0 (ev_pos x1 ?_))))))
   simp only [rdR_get t j hj, Int.toNat_natCast]
   exact evnow _
  ·by_cases e1 : r = 1
   ·refine ⟨t ++ [⟨t[j].f0, t[j].f1, t[j].f2⟩], p + 1 + 1, ?_, fun q hq => ?_, by simp; omega, by simp; omega, hX.less (by omega)⟩
    ·refine Ev.step (fun n => by simp only [spec_l71Tree.l1]; rfl) ?_
     refine ev_neg (by omega) (Ev.bind hr (ev_neg e0 (ev_pos e1 (Ev.bind hx (ev_pos x0 (ev_pos x1 (ev_pos (by omega) ?_)))))))
     simp only [rdR_get t j hj]
     exact evnow _
    ·rcases List.mem_append.1 hq with hq | hq
     ·exact hw q hq
     ·rw [List.mem_singleton.1 hq]; exact hwj
   ·by_cases e2 : r = 2
    ·refine ⟨t.drop (1 : Int).toNat, p + 1, ?_, fun q hq => hw q (List.mem_of_mem_drop hq), by rw [List.length_drop]; simp; omega, by rw [List.length_drop]; omega, hR.less (by omega)⟩
     refine Ev.step (fun n => by simp only [spec_l71Tree.l1]; rfl) ?_
     exact ev_neg (by omega) (Ev.bind hr (ev_neg e0 (ev_neg e1 (ev_pos e2 (ev_pos (by omega) (evnow _))))))
    ·refine ⟨t, p + 1, ?_, hw, by omega, by omega, hR.less (by omega)⟩
     refine Ev.step (fun n => by simp only [spec_l71Tree.l1]; rfl) ?_
     exact ev_neg (by omega) (Ev.bind hr (ev_neg e0 (ev_neg e1 (ev_neg e2 (evnow _)))))
 | n + 1, t, i, p, m, h, hw, h3, h20, hp => by
  have hi : i < t.length := by omega
  have hwi := hw _ (List.getElem_mem hi)
  have hsz : t[i].f2.size ≤ 2000 := hwi.2
  have ht := text_f t[i].f2 (by omega)
  have wi : wrap64 ((i : Int) + 1) = ((i + 1 : Nat) : Int) := by rw [wrap_id _ (by omega) (by omega)]; omega
  cases hB : textB t[i].f2 with
  | true =>
   rw [hB] at ht
   obtain ⟨t', p', h1, h2⟩ := tree_l1 b hb n t (i + 1) p m (by omega) hw h3 h20 (hp.less (by omega))
   refine ⟨t', p', ?_, h2⟩
   refine Ev.step (fun n => by simp only [spec_l71Tree.l1]; rfl) ?_
   refine ev_pos (by omega) (ev_pos (by omega) ?_)
   rw [rdR_get t i hi, wi]
   exact Ev.bind ht (ev_pos rfl h1)
  | false =>
   rw [hB] at ht
   obtain ⟨r, hr, hR, r0, r1, _⟩ := pick_f b p 2 (m + n + 3) hb (hp.less (by omega))
   by_cases e0 : r = 0
   ·obtain ⟨t', p', h1, h2⟩ := tree_l1 b hb n (t.set i ⟨t[i].f0, t[i].f1, ⟨#[]⟩⟩) (i + 1) (p + 1) m (by rw [List.length_set]; omega) (mem_set_wf hw ⟨hwi.1, by show (0 : Nat) ≤ 2000; omega⟩) (by rw [List.length_set]; omega) (by rw [List.length_set]; omega) hR
    refine ⟨t', p', ?_, h2⟩
    refine Ev.step (fun n => by simp only [spec_l71Tree.l1]; rfl) ?_
    refine ev_pos (by omega) (ev_pos (by omega) ?_)
    rw [rdR_get t i hi, wi, Int.toNat_natCast]
    exact Ev.bind ht (ev_neg (by decide) (Ev.bind hr (ev_pos e0 h1)))
   ·obtain ⟨t', p', h1, h2⟩ := tree_l1 b hb n t (i + 1) (p + 1) m (by omega) hw h3 h20 hR
    refine ⟨t', p', ?_, h2⟩
    refine Ev.step (fun n => by simp only [spec_l71Tree.l1]; rfl) ?_
    refine ev_pos (by omega) (ev_pos (by omega) ?_)
    rw [rdR_get t i hi, wi]
    exact Ev.bind ht (ev_neg (by decide) (Ev.bind hr (ev_neg e0 h1)))
theorem tree_j2 (b : List Int) (hb : Bytes b) (x4 : Int) (t : List S43) (B : Nat) (up p : Int) (m : Nat) (hI : Inv t B) (hB : B ≤ 100000) (hw : ∀ r ∈ t, wfD r) (hl : t.length ≤ 1000) (hp : Rd p (m + 10)) :
  ∃ (t' : List S43) (p' : Int), (∀ (r : List S43 × Int), Ev (fun k => spec_l71Tree.l0 k t' (wrap64 (x4 - 1)) b p') r → Ev (fun k => spec_l71Tree.j2 k t x4 up b p) r) ∧ Inv t' ((2 * B + 1 : Nat) : Int) ∧ (t'.length ≤ t.length + 1 ∧ t.length ≤ t'.length) ∧ (∀ r ∈ t', wfD r) ∧ Rd p' m := by
 obtain ⟨ks, hks, hkl, hkk⟩ := kids_f t up (by omega)
 have tail : ∀ (at_ q : Int), Rd q (m + 8) → ∃ (t' : List S43) (p' : Int), (∀ (f : Nat → Option (List S43 × Int)) (r : List S43 × Int), (∀ n, f n = ((spec_l71Id.f n b q).bind fun z => ((spec_l71Text.f n b z.2).bind fun y => ((spec_l3Do.f n t 1 z.1 up at_ y.1).bind fun t' => (spec_l71Tree.l0 n t' (wrap64 (x4 - 1)) b y.2))))) → Ev (fun k => spec_l71Tree.l0 k t' (wrap64 (x4 - 1)) b p') r → Ev f r) ∧ Inv t' ((2 * B + 1 : Nat) : Int) ∧ (t'.length ≤ t.length + 1 ∧ t.length ≤ t'.length) ∧ (∀ r ∈ t', wfD r) ∧ Rd p' m := by
  intro at_ q hq
  obtain ⟨z, p1, hz, hZ, z0, z1⟩ := did_f b q (m + 6) hb hq
  obtain ⟨y, p2, hy, hY, y0⟩ := dtext_f b p1 m hb hZ
  obtain ⟨t', ht', hI', hlt, hwt⟩ := do_wf t B 1 z up at_ y hI (by omega) (by omega) (Or.inl rfl) (by omega) (i64_small (by omega) (by omega)) (by omega) (by omega) hw
  exact ⟨t', p2, fun f r hf h => Ev.congr hf (Ev.bind hz (Ev.bind hy (Ev.bind ht' h))), hI'.more (by omega), hlt, hwt, hY⟩
 by_cases hz : (ks.length : Int) > 0
 ·obtain ⟨x, hx, hX, x0, x1, _⟩ := pick_f b p 2 (m + 9) hb hp
  by_cases e0 : x = 0
  ·obtain ⟨y, hy, hY, y0, y1, _⟩ := pick_f b (p + 1) (ks.length : Int) (m + 8) hb hX
   have y1 := y1 (by omega)
   obtain ⟨t', p', h1, h2⟩ := tail (rd ks y) (p + 1 + 1) hY
   refine ⟨t', p', fun r hr => ?_, h2⟩
   refine Ev.step (fun n => by simp only [spec_l71Tree.j2]; rfl) ?_
   refine Ev.bind hks (ev_pos hz (Ev.bind hx ?_))
   refine Ev.step (fun n => by simp only [spec_l71Tree.j3]; rfl) ?_
   refine ev_pos (by simp [e0]) (Ev.bind hy (ev_pos y0 (ev_pos y1 ?_)))
   exact h1 _ r (fun n => rfl) hr
  ·obtain ⟨t', p', h1, h2⟩ := tail 0 (p + 1) (hX.less (by omega))
   refine ⟨t', p', fun r hr => ?_, h2⟩
   refine Ev.step (fun n => by simp only [spec_l71Tree.j2]; rfl) ?_
   refine Ev.bind hks (ev_pos hz (Ev.bind hx ?_))
   refine Ev.step (fun n => by simp only [spec_l71Tree.j3]; rfl) ?_
   refine ev_neg (by simp [e0]) ?_
   exact h1 _ r (fun n => rfl) hr
 ·obtain ⟨t', p', h1, h2⟩ := tail 0 p (hp.less (by omega))
  refine ⟨t', p', fun r hr => ?_, h2⟩
  refine Ev.step (fun n => by simp only [spec_l71Tree.j2]; rfl) ?_
  refine Ev.bind hks (ev_neg hz ?_)
  refine Ev.step (fun n => by simp only [spec_l71Tree.j3]; rfl) ?_
  refine ev_neg (by decide) ?_
  exact h1 _ r (fun n => rfl) hr
theorem tree_l0 (b : List Int) (hb : Bytes b) : ∀ (n : Nat) (t : List S43) (B : Nat) (p : Int) (m : Nat), Inv t B → (B + 1) * 2 ^ n ≤ 16384 → (∀ r ∈ t, wfD r) → 3 ≤ t.length → t.length + n ≤ 20 → Rd p (m + 12 * n + 30) →
  ∃ (t' : List S43) (p' : Int), Ev (fun k => spec_l71Tree.l0 k t n b p) (t', p') ∧ (∀ r ∈ t', wfD r) ∧ 2 ≤ t'.length ∧ t'.length ≤ 21 ∧ Rd p' m
 | 0, t, B, p, m, hI, hB, hw, h3, hl, hp => by
  obtain ⟨t', p', h1, h2⟩ := tree_l1 b hb t.length t 0 p m (by omega) hw h3 (by omega) (hp.less (by omega))
  refine ⟨t', p', ?_, h2⟩
  refine Ev.step (fun n => by simp only [spec_l71Tree.l0]; rfl) ?_
  exact ev_neg (by omega) h1
 | n + 1, t, B, p, m, hI, hB, hw, h3, hl, hp => by
  have hB2 : B + 1 ≤ 16384 := Nat.le_trans (Nat.le_mul_of_pos_right _ (Nat.two_pow_pos _)) hB
  have hB3 : (2 * B + 1 + 1) * 2 ^ n ≤ 16384 := by
   have e : (2 * B + 1 + 1) * 2 ^ n = (B + 1) * 2 ^ (n + 1) := by rw [Nat.pow_succ, show 2 * B + 1 + 1 = (B + 1) * 2 by omega, Nat.mul_assoc, Nat.mul_comm 2]
   rw [e]; exact hB
  have wn : wrap64 (((n + 1 : Nat) : Int) - 1) = n := by rw [wrap_id _ (by omega) (by omega)]; omega
  have go : ∀ (up q : Int), Rd q (m + 12 * n + 40) → ∃ (t' : List S43) (p' : Int), Ev (fun k => spec_l71Tree.j2 k t (n + 1 : Nat) up b q) (t', p') ∧ (∀ r ∈ t', wfD r) ∧ 2 ≤ t'.length ∧ t'.length ≤ 21 ∧ Rd p' m := by
   intro up q hq
   obtain ⟨t1, p1, h1, h2, h3', h4, h5⟩ := tree_j2 b hb (n + 1 : Nat) t B up q (m + 12 * n + 30) hI (by omega) hw (by omega) hq
   obtain ⟨t', p', g1, g2⟩ := tree_l0 b hb n t1 (2 * B + 1) p1 m h2 hB3 h4 (by omega) (by omega) h5
   exact ⟨t', p', h1 _ (by rw [wn]; exact g1), g2⟩
  by_cases e3 : (t.length : Int) > 3
  ·obtain ⟨x, hx, hX, x0, x1, _⟩ := pick_f b p 3 (m + 12 * n + 41) hb (hp.less (by omega))
   by_cases e0 : x > 0
   ·obtain ⟨y, hy, hY, y0, y1, _⟩ := pick_f b (p + 1) (t.length : Int) (m + 12 * n + 40) hb hX
    have y1 := y1 (by omega)
    obtain ⟨t', p', g1, g2⟩ := go (rd_T43 t y).f0 (p + 1 + 1) hY
    refine ⟨t', p', ?_, g2⟩
    refine Ev.step (fun n => by simp only [spec_l71Tree.l0]; rfl) ?_
    refine ev_pos (by omega) (ev_pos e3 (Ev.bind hx ?_))
    refine Ev.step (fun n => by simp only [spec_l71Tree.j1]; rfl) ?_
    exact ev_pos (by simpa using e0) (Ev.bind hy (ev_pos y0 (ev_pos y1 g1)))
   ·obtain ⟨t', p', g1, g2⟩ := go 1 (p + 1) (hX.less (by omega))
    refine ⟨t', p', ?_, g2⟩
    refine Ev.step (fun n => by simp only [spec_l71Tree.l0]; rfl) ?_
    refine ev_pos (by omega) (ev_pos e3 (Ev.bind hx ?_))
    refine Ev.step (fun n => by simp only [spec_l71Tree.j1]; rfl) ?_
    exact ev_neg (by simpa using e0) g1
  ·obtain ⟨t', p', g1, g2⟩ := go 1 p (hp.less (by omega))
   refine ⟨t', p', ?_, g2⟩
   refine Ev.step (fun n => by simp only [spec_l71Tree.l0]; rfl) ?_
   refine ev_pos (by omega) (ev_neg e3 ?_)
   refine Ev.step (fun n => by simp only [spec_l71Tree.j1]; rfl) ?_
   exact ev_neg (by decide) g1
theorem tree71_f (b : List Int) (hb : Bytes b) (p : Int) (m : Nat) (hp : Rd p (m + 200)) : ∃ (t : List S43) (p' : Int), Ev (fun k => spec_l71Tree.f k b p) (t, p') ∧ (∀ r ∈ t, wfD r) ∧ 2 ≤ t.length ∧ t.length ≤ 21 ∧ Rd p' m := by
 obtain ⟨r, hr, hR, r0, r1, _⟩ := pick_f b p 11 (m + 199) hb hp
 have r1 := r1 (by omega)
 obtain ⟨n, rfl⟩ : ∃ n : Nat, r = n := ⟨r.toNat, by omega⟩
 have hI : Inv ([⟨1, 0, ⟨#[]⟩⟩, ⟨2, 0, ⟨#[]⟩⟩, ⟨3, 0, ⟨#[]⟩⟩] : List S43) ((0 : Nat) : Int) := by
  refine ⟨fun x hx => ?_, fun x hx h3 => ?_, ⟨⟨3, 0, ⟨#[]⟩⟩, by simp, rfl⟩, fun x hx => ?_⟩
  all_goals simp only [List.mem_cons, List.not_mem_nil, or_false] at hx
  ·rcases hx with rfl | rfl | rfl <;> exact ⟨Int.le_refl _, Int.le_refl _⟩
  ·rcases hx with rfl | rfl | rfl <;> rfl
  ·rcases hx with rfl | rfl | rfl <;> exact ⟨i64_small (by decide) (by decide), by decide⟩
 have hwf : ∀ r ∈ ([⟨1, 0, ⟨#[]⟩⟩, ⟨2, 0, ⟨#[]⟩⟩, ⟨3, 0, ⟨#[]⟩⟩] : List S43), wfD r := fun x hx => by
  simp only [List.mem_cons, List.not_mem_nil, or_false] at hx
  rcases hx with rfl | rfl | rfl <;> exact ⟨i64_small (by decide) (by decide), by decide⟩
 have hpow : (0 + 1) * 2 ^ n ≤ 16384 := by
  have : 2 ^ n ≤ 2 ^ 14 := Nat.pow_le_pow_right (by decide) (by omega)
  omega
 obtain ⟨t, p', h1, h2⟩ := tree_l0 b hb n _ 0 (p + 1) m hI hpow hwf (by simp) (by simp; omega) (hR.less (by omega))
 refine ⟨t, p', ?_, h2⟩
 unfold spec_l71Tree.f spec_TreeNew.f
 simp only [Option.bind_some]
 exact Ev.bind hr h1
theorem row_l0 (b : List Int) (hb : Bytes b) : ∀ (n : Nat) (t : List S43) (i : Nat) (p : Int) (m : Nat), i + n = 6 → (∀ r ∈ t, wfD r) → 2 ≤ t.length → t.length ≤ 21 → Rd p (m + 202 * n + 10) →
  ∃ (t' : List S43) (id p' : Int), Ev (fun k => spec_l71Row.l0 k t i b p) (t', id, p') ∧ (∀ r ∈ t', wfD r) ∧ 2 ≤ t'.length ∧ t'.length ≤ 21 ∧ I64 id ∧ Rd p' m := by
 intro n
 have last : ∀ (t : List S43) (i : Nat) (p : Int) (m : Nat), (∀ r ∈ t, wfD r) → 2 ≤ t.length → t.length ≤ 21 → Rd p (m + 3) → ∃ (t' : List S43) (id p' : Int), Ev (fun k => spec_l71Row.j1 k t i false b p) (t', id, p') ∧ (∀ r ∈ t', wfD r) ∧ 2 ≤ t'.length ∧ t'.length ≤ 21 ∧ I64 id ∧ Rd p' m := by
  intro t i p m hw h2 h21 hp
  obtain ⟨z, p1, hz, hZ, z0, z1⟩ := did_f b p (m + 1) hb hp
  obtain ⟨y, hy, hY, y0, y1, _⟩ := pick_f b p1 5 m hb hZ
  have y1 := y1 (by omega)
  refine ⟨t, rd [1, 2, 3, z, 0] y, p1 + 1, ?_, hw, h2, h21, ?_, hY⟩
  ·refine Ev.step (fun n => by simp only [spec_l71Row.j1]; rfl) ?_
   refine ev_neg (by decide) (Ev.bind hz ?_)
   simp only [Option.bind_some]
   exact Ev.bind hy (ev_pos y0 (ev_pos (by simpa using y1) (evnow _)))
  ·have := rd_mem ([1, 2, 3, z, 0] : List Int) y y0 (by simpa using y1)
   simp only [List.mem_cons, List.not_mem_nil, or_false] at this
   exact i64_small (by omega) (by omega)
 induction n with
 | zero =>
  intro t i p m h hw h2 h21 hp
  obtain ⟨t', id, p', g1, g2⟩ := last t i p m hw h2 h21 (hp.less (by omega))
  refine ⟨t', id, p', ?_, g2⟩
  refine Ev.step (fun n => by simp only [spec_l71Row.l0]; rfl) ?_
  exact ev_neg (by omega) g1
 | succ n ih =>
  intro t i p m h hw h2 h21 hp
  obtain ⟨x, hx, hX, x0, x1, _⟩ := pick_f b p 12 (m + 202 * n + 211) hb (hp.less (by omega))
  by_cases e0 : x > 0
  ·obtain ⟨y, hy, hY, y0, y1, _⟩ := pick_f b (p + 1) (t.length : Int) (m + 202 * n + 210) hb hX
   have y1 := y1 (by omega)
   obtain ⟨j, rfl⟩ : ∃ n : Nat, y = n := ⟨y.toNat, by omega⟩
   have hj : j < t.length := by omega
   have hwj := hw _ (List.getElem_mem hj)
   have wi : wrap64 ((i : Int) + 1) = ((i + 1 : Nat) : Int) := by rw [wrap_id _ (by omega) (by omega)]; omega
   cases hm : madeB t[j].f0 with
   | true =>
    refine ⟨t, t[j].f0, p + 1 + 1, ?_, hw, h2, h21, hwj.1, hY.less (by omega)⟩
    refine Ev.step (fun n => by simp only [spec_l71Row.l0]; rfl) ?_
    refine ev_pos (by omega) (Ev.bind hx ?_)
    refine Ev.step (fun n => by simp only [spec_l71Row.j1]; rfl) ?_
    refine ev_pos (by simpa using e0) (Ev.bind hy (ev_pos y0 (ev_pos y1 ?_)))
    rw [rdR_get t j hj, made_f _ hwj.1, hm]
    simp only [Option.bind_some]
    exact ev_pos (by simp) (evnow _)
   | false =>
    by_cases e3 : (i : Int) = 3
    ·obtain ⟨t1, p1, g1, g2, g3, g4, g5⟩ := tree71_f b hb (p + 1 + 1) (m + 202 * n + 10) hY
     obtain ⟨t', id, p', k1, k2⟩ := ih t1 (i + 1) p1 m (by omega) g2 g3 g4 g5
     refine ⟨t', id, p', ?_, k2⟩
     refine Ev.step (fun n => by simp only [spec_l71Row.l0]; rfl) ?_
     refine ev_pos (by omega) (Ev.bind hx ?_)
     refine Ev.step (fun n => by simp only [spec_l71Row.j1]; rfl) ?_
     refine ev_pos (by simpa using e0) (Ev.bind hy (ev_pos y0 (ev_pos y1 ?_)))
     rw [rdR_get t j hj, made_f _ hwj.1, hm, wi]
     simp only [Option.bind_some]
     exact ev_neg (by decide) (ev_pos e3 (Ev.bind g1 k1))
    ·obtain ⟨t', id, p', k1, k2⟩ := ih t (i + 1) (p + 1 + 1) m (by omega) hw h2 h21 (hY.less (by omega))
     refine ⟨t', id, p', ?_, k2⟩
     refine Ev.step (fun n => by simp only [spec_l71Row.l0]; rfl) ?_
     refine ev_pos (by omega) (Ev.bind hx ?_)
     refine Ev.step (fun n => by simp only [spec_l71Row.j1]; rfl) ?_
     refine ev_pos (by simpa using e0) (Ev.bind hy (ev_pos y0 (ev_pos y1 ?_)))
     rw [rdR_get t j hj, made_f _ hwj.1, hm, wi]
     simp only [Option.bind_some]
     exact ev_neg (by decide) (ev_neg e3 k1)
  ·obtain ⟨t', id, p', g1, g2⟩ := last t i (p + 1) m hw h2 h21 (hX.less (by omega))
   refine ⟨t', id, p', ?_, g2⟩
   refine Ev.step (fun n => by simp only [spec_l71Row.l0]; rfl) ?_
   refine ev_pos (by omega) (Ev.bind hx ?_)
   rw [decide_eq_false e0]
   exact g1
theorem row71_f (b : List Int) (hb : Bytes b) (p : Int) (m : Nat) (hp : Rd p (m + 1500)) : ∃ (t : List S43) (id p' : Int), Ev (fun k => spec_l71Row.f k b p) (t, id, p') ∧ (∀ r ∈ t, wfD r) ∧ 2 ≤ t.length ∧ t.length ≤ 21 ∧ I64 id ∧ Rd p' m := by
 obtain ⟨t, p1, h1, h2, h3, h4, h5⟩ := tree71_f b hb p (m + 1300) hp
 obtain ⟨t', id, p', g1, g2⟩ := row_l0 b hb 6 t 0 p1 m (by omega) h2 h3 h4 (h5.less (by omega))
 exact ⟨t', id, p', Ev.bind h1 g1, g2⟩
structure Dr (t : List S43) (k i u a : Int) (s : ByteArray) : Prop where
 wf : ∀ r ∈ t, wfD r
 two : 2 ≤ t.length
 few : t.length ≤ 21
 op : OpX k i u a s
theorem fits_j2 (b : List Int) (hb : Bytes b) (t : List S43) (f : Bool) (k i u a p : Int) (s : ByteArray) (m : Nat) (d : Dr t k i u a s) (hp : Rd p (m + 2)) :
  ∃ (k' i' u' a' : Int) (s' : ByteArray) (p' : Int), Ev (fun n => spec_l71Fits.j2 n t f b p k i u a s) (t, k', i', u', a', s', p') ∧ Dr t k' i' u' a' s' ∧ Rd p' m := by
 obtain ⟨hw, h2, h21, h3, h4, h5, h6, h7⟩ := d
 cases f with
 | false =>
  refine ⟨k, i, u, a, s, p, ?_, ⟨hw, h2, h21, h3, h4, h5, h6, h7⟩, hp.less (by omega)⟩
  refine Ev.step (fun n => by simp only [spec_l71Fits.j2]; rfl) ?_
  exact ev_neg (by decide) (evnow _)
 | true =>
  obtain ⟨y, hy, hY, y0, y1, _⟩ := pick_f b p (t.length : Int) (m + 1) hb hp
  have y1 := y1 (by omega)
  obtain ⟨j, rfl⟩ : ∃ n : Nat, y = n := ⟨y.toNat, by omega⟩
  have hj : j < t.length := by omega
  have hwj := hw _ (List.getElem_mem hj)
  obtain ⟨ks, hks, hkl, hkk⟩ := kids_f t t[j].f0 (by omega)
  have hk64 : ∀ x ∈ ks, I64 x := fun x hx => by
   obtain ⟨_, _, _, q, hq, _, _, e, _⟩ := hkk x hx
   rw [← e]
   exact (hw _ (List.getElem_mem hq)).1
  by_cases hz : (ks.length : Int) > 0
  ·obtain ⟨x, hx, hX, x0, x1, _⟩ := pick_f b (p + 1) (ks.length : Int) m hb hY
   have x1 := x1 (by omega)
   refine ⟨k, i, t[j].f0, rd ks x, s, p + 1 + 1, ?_, ⟨hw, h2, h21, h3, h4, hwj.1, hk64 _ (rd_mem ks x x0 x1), h7⟩, hX⟩
   refine Ev.step (fun n => by simp only [spec_l71Fits.j2]; rfl) ?_
   refine ev_pos (by simp) (Ev.bind hy (ev_pos y0 (ev_pos y1 ?_)))
   simp only [rdR_get t j hj]
   exact Ev.bind hks (ev_pos hz (Ev.bind hx (ev_pos x0 (ev_pos x1 (evnow _)))))
  ·refine ⟨k, i, t[j].f0, a, s, p + 1, ?_, ⟨hw, h2, h21, h3, h4, hwj.1, h6, h7⟩, hY.less (by omega)⟩
   refine Ev.step (fun n => by simp only [spec_l71Fits.j2]; rfl) ?_
   refine ev_pos (by simp) (Ev.bind hy (ev_pos y0 (ev_pos y1 ?_)))
   simp only [rdR_get t j hj]
   exact Ev.bind hks (ev_neg hz (evnow _))
theorem fits_j1 (b : List Int) (hb : Bytes b) (t : List S43) (k i u a p : Int) (s : ByteArray) (m : Nat) (d : Dr t k i u a s) (hp : Rd p (m + 3)) :
  ∃ (k' i' u' a' : Int) (s' : ByteArray) (p' : Int), Ev (fun n => spec_l71Fits.j1 n t b p k i u a s) (t, k', i', u', a', s', p') ∧ Dr t k' i' u' a' s' ∧ Rd p' m := by
 obtain ⟨x, hx, hX, x0, x1, _⟩ := pick_f b p 3 (m + 2) hb hp
 by_cases e0 : x = 0
 ·by_cases e3 : k = 3
  ·obtain ⟨k', i', u', a', s', p', h1, h2⟩ := fits_j2 b hb t true k i u a (p + 1) s m d hX
   refine ⟨k', i', u', a', s', p', ?_, h2⟩
   refine Ev.step (fun n => by simp only [spec_l71Fits.j1]; rfl) ?_
   exact Ev.bind hx (ev_pos e0 (ev_pos e3 h1))
  ·obtain ⟨k', i', u', a', s', p', h1, h2⟩ := fits_j2 b hb t (k == 1) k i u a (p + 1) s m d hX
   refine ⟨k', i', u', a', s', p', ?_, h2⟩
   refine Ev.step (fun n => by simp only [spec_l71Fits.j1]; rfl) ?_
   exact Ev.bind hx (ev_pos e0 (ev_neg e3 h1))
 ·obtain ⟨k', i', u', a', s', p', h1, h2⟩ := fits_j2 b hb t false k i u a (p + 1) s m d hX
  refine ⟨k', i', u', a', s', p', ?_, h2⟩
  refine Ev.step (fun n => by simp only [spec_l71Fits.j1]; rfl) ?_
  exact Ev.bind hx (ev_neg e0 h1)
theorem fits_j0 (b : List Int) (hb : Bytes b) (t : List S43) (id : Int) (f : Bool) (k i u a p : Int) (s : ByteArray) (m : Nat) (d : Dr t k i u a s) (hid : I64 id) (hp : Rd p (m + 3)) :
  ∃ (k' i' u' a' : Int) (s' : ByteArray) (p' : Int), Ev (fun n => spec_l71Fits.j0 n t id f b p k i u a s) (t, k', i', u', a', s', p') ∧ Dr t k' i' u' a' s' ∧ Rd p' m := by
 cases f with
 | true =>
  obtain ⟨k', i', u', a', s', p', h1, h2⟩ := fits_j1 b hb t k id u a p s m ⟨d.wf, d.two, d.few, d.op.1, hid, d.op.2.2.1, d.op.2.2.2.1, d.op.2.2.2.2⟩ hp
  refine ⟨k', i', u', a', s', p', ?_, h2⟩
  refine Ev.step (fun n => by simp only [spec_l71Fits.j0]; rfl) ?_
  exact ev_pos (by simp) h1
 | false =>
  obtain ⟨k', i', u', a', s', p', h1, h2⟩ := fits_j1 b hb t k i u a p s m d hp
  refine ⟨k', i', u', a', s', p', ?_, h2⟩
  refine Ev.step (fun n => by simp only [spec_l71Fits.j0]; rfl) ?_
  exact ev_neg (by decide) h1
theorem fits71_f (b : List Int) (hb : Bytes b) (p : Int) (m : Nat) (hp : Rd p (m + 1530)) :
  ∃ (t : List S43) (k i u a : Int) (s : ByteArray) (p' : Int), Ev (fun n => spec_l71Fits.f n b p) (t, k, i, u, a, s, p') ∧ Dr t k i u a s ∧ Rd p' m := by
 obtain ⟨t, id, p1, h1, h2, h3, h4, h5, h6⟩ := row71_f b hb p (m + 30) hp
 obtain ⟨k, i, u, a, s, p2, g1, g2, g3⟩ := op71_f b hb p1 (m + 13) h6
 obtain ⟨x, hx, hX, x0, x1, _⟩ := pick_f b p2 5 (m + 12) hb g3
 have d : Dr t k i u a s := ⟨h2, h3, h4, g2⟩
 unfold spec_l71Fits.f
 by_cases e0 : x > 0
 ·by_cases e1 : k = 1
  ·obtain ⟨k', i', u', a', s', p', q1, q2⟩ := fits_j0 b hb t id false k i u a (p2 + 1) s m d h5 (hX.less (by omega))
   exact ⟨t, k', i', u', a', s', p', Ev.bind h1 (Ev.bind g1 (Ev.bind hx (ev_pos e0 (ev_pos e1 q1)))), q2⟩
  ·obtain ⟨k', i', u', a', s', p', q1, q2⟩ := fits_j0 b hb t id (madeB id) k i u a (p2 + 1) s m d h5 (hX.less (by omega))
   refine ⟨t, k', i', u', a', s', p', Ev.bind h1 (Ev.bind g1 (Ev.bind hx (ev_pos e0 (ev_neg e1 ?_)))), q2⟩
   simp only [made_f id h5, Option.bind_some]
   exact q1
 ·obtain ⟨k', i', u', a', s', p', q1, q2⟩ := fits_j0 b hb t id false k i u a (p2 + 1) s m d h5 (hX.less (by omega))
  exact ⟨t, k', i', u', a', s', p', Ev.bind h1 (Ev.bind g1 (Ev.bind hx (ev_neg e0 q1))), q2⟩
theorem drawOpDo_f (code : List Int) (h : ∀ x ∈ code, (Lit.int .u8 x).wf = true) : ∃ (t : List S43) (k i u a : Int) (s : ByteArray), Ev (fun n => spec_DrawOpDo.f n code) (t, k, i, u, a, s) ∧ Dr t k i u a s := by
 obtain ⟨b, hb, hB⟩ := open_f code (fun x hx => byte_of (h x hx))
 obtain ⟨t, k, i, u, a, s, p', h1, h2, _⟩ := fits71_f b hB 0 0 ⟨by omega, by omega⟩
 refine ⟨t, k, i, u, a, s, ?_, h2⟩
 unfold spec_DrawOpDo.f
 rw [hb]
 simp only [Option.bind_some]
 exact Ev.bind h1 (evnow _)
end Go.Proofs.YtkopimbbgckcnaaDoor.PL
namespace Go.Proofs.YtkopimbbgckcnaaDoor.PL
open Go.RowKit Go.Proofs.YtkopimbbgckcnaaDoor.P Go.Proofs.YtkopimbbgckcnaaDoorW.PrintWords Go.Proofs.YtkopimbbgckcnaaDoorW.PrintLast Go.Proofs.YtkopimbbgckcnaaDoor.FP
theorem doF_len {G : Fo} (g : Good G) (kd : Int) (i : Nat) (hit : i ∉ G.tops) (up at_ : Int) (s : ByteArray) : (doF G kd (i : Int) up at_ s).ids.length ≤ 2000 := by
 have hg := g.len
 unfold doF
 rcases fndF_cases g i with ⟨hi, hf⟩ | ⟨hi, hf⟩
 ·have hi0 := g.ne0 i hi
  rw [hf, if_neg hi0, if_neg hi0, if_neg hi0]
  split
  ·rw [setF_ids]; omega
  ·split
   ·omega
   ·split
    ·omega
    ·rename_i hu
     obtain ⟨h, hr⟩ := reptop_ex G g.nd g.ne0
     have hp := near_del hr g.nd g.three hi hit (id := (i : Int)) (up := up) (at_ := at_) rfl hu
     have hperm := ids_del i G g.nd hi
     obtain ⟨n1, n2⟩ := List.nodup_cons.1 (hperm.nodup_iff.1 g.nd)
     obtain ⟨n3, n4, n5⟩ := List.nodup_append.1 n2
     have e1 := (putF_ids (p := nearF G (i : Int) up at_) (i := i) (t := txtF i G) (s := sub i G) n4 hp.1 (hp.2.imp id And.left)).length_eq
     have e2 := hperm.length_eq
     simp only [List.length_cons, List.length_append] at e1 e2
     omega
 ·rw [hf, if_pos rfl, if_pos rfl, if_pos rfl]
  have hp := near_ok (G := G) (tops_ids g.three) (i : Int) up at_
  have e1 := (putF_ids (p := nearF G (i : Int) up at_) (i := (i : Int).toNat) (t := s) (s := .nil) g.nd hp.up (hp.at_.imp id And.left)).length_eq
  simp only [List.length_cons, List.length_append, Fo.ids, List.length_nil] at e1
  split
  ·omega
  ·split <;> omega
theorem opDoR_len (l : List S43) (k i u a : Int) (s : ByteArray) : (opDoR l k i u a s).length ≤ 2000 := by
 unfold opDoR
 split
 ·rename_i ho
  split
  ·rename_i ht
   obtain ⟨m, rfl, h4, h37⟩ := made_num (opB_made k i u a s ho)
   have g := good_of ht
   rw [fl_len]
   exact doF_len g k m (by rw [g.tops]; simp; omega) u a s
  ·simp
 ·simp
theorem lpR_l0 (l : List S43) (hl : l.length ≤ 1099511627776) : ∀ (n i : Nat), i + n = l.length → Ev (fun k => laws_lpRows.l0 k l l i) true
 | 0, i, h => by
  refine Ev.step (f := fun _ => some true) (fun k => ?_) (evnow _)
  simp only [laws_lpRows.l0]; rw [if_neg (by omega)]
 | n + 1, i, h => by
  refine Ev.step (fun k => ?_) (lpR_l0 l hl n (i + 1) (by omega))
  simp only [laws_lpRows.l0]
  rw [if_pos (by omega), if_pos (by omega), if_pos (by omega)]
  simp only [BEq.rfl, Bool.not_true, Bool.or_false, Bool.false_eq_true, if_false]
  rw [wrapS i (by omega) (by omega)]
  rfl
theorem lpR_f (l : List S43) (hl : l.length ≤ 1099511627776) : Ev (fun k => laws_lpRows.f k l l) true := by
 unfold laws_lpRows.f
 exact ev_pos rfl (lpR_l0 l hl l.length 0 (by omega))
theorem lpR_do (l : List S43) (k i u a : Int) (s : ByteArray) : Ev (fun n => laws_lpRows.f n (opDoR l k i u a s) (opDoR l k i u a s)) true := lpR_f _ (by have := opDoR_len l k i u a s; omega)
theorem Dr.wfR {t : List S43} {k i u a : Int} {s : ByteArray} (d : Dr t k i u a s) : ∀ r ∈ t, wfR r := fun r hr => ⟨(d.wf r hr).1, by have := (d.wf r hr).2; omega⟩
theorem Dr.size {t : List S43} {k i u a : Int} {s : ByteArray} (d : Dr t k i u a s) : s.size ≤ 9223372036854775807 := by have := d.op.2.2.2.2; omega
theorem Dr.iop {t : List S43} {k i u a : Int} {s : ByteArray} (d : Dr t k i u a s) : Ev (fun n => impl_OpDo.f n t k i u a s) (opDoR t k i u a s) := iopDo_f t k i u a s d.size
theorem Dr.sop {t : List S43} {k i u a : Int} {s : ByteArray} (d : Dr t k i u a s) : Ev (fun n => spec_OpDo.f n t k i u a s) (opDoR t k i u a s) :=
 sopDo_f t k i u a s (by have := d.few; omega) d.wfR d.op.2.1 d.op.2.2.1 d.op.2.2.2.1 d.size
theorem Dr.tree {t : List S43} {k i u a : Int} {s : ByteArray} (d : Dr t k i u a s) : Ev (fun n => spec_TreeOk.f n t) (treeB t) := stree_f t (by have := d.few; omega) d.wfR
theorem Dr.opOk {t : List S43} {k i u a : Int} {s : ByteArray} (d : Dr t k i u a s) : Ev (fun n => spec_OpOk.f n k i u a s) (opB k i u a s) := sop_f k i u a s d.op.2.1 d.op.2.2.1 d.op.2.2.2.1 d.size
theorem Dr.same {t : List S43} {k i u a : Int} {s : ByteArray} (d : Dr t k i u a s) {f : Nat → Option Bool} (hf : ∀ n, f n = ((spec_OpDo.f n t k i u a s).bind fun y => ((laws_lpRows.f n (opDoR t k i u a s) y).bind fun z => (some z)))) : Ev f true :=
 Ev.congr hf (Ev.bind d.sop (Ev.bind (lpR_do t k i u a s) (evnow _)))
theorem ids_row {l : List S43} (ht : treeB l = true) {r : S43} (hr : r ∈ l) : ∃ x ∈ (toFo l).ids, r = ⟨(x : Int), (dep x 0 (toFo l) : Int), txtF x (toFo l)⟩ := by
 have v := val_of ht
 have hr2 : r ∈ (toFo l).fl 0 := by rw [toFo_fl ht]; exact hr
 exact fl_get v.nd hr2
theorem pure_of {f : Nat → Option Bool} (h : Ev f true) : ∃ k, f k = some true := by
 obtain ⟨K, hK⟩ := h
 exact ⟨K, hK K (Nat.le_refl K)⟩
theorem lpI_l0 (l : List Int) (hl : l.length ≤ 1099511627776) : ∀ (n i : Nat), i + n = l.length → Ev (fun k => laws_lpInts.l0 k l l i) true
 | 0, i, h => by
  refine Ev.step (f := fun _ => some true) (fun k => ?_) (evnow _)
  simp only [laws_lpInts.l0]; rw [if_neg (by omega)]
 | n + 1, i, h => by
  refine Ev.step (fun k => ?_) (lpI_l0 l hl n (i + 1) (by omega))
  simp only [laws_lpInts.l0]
  rw [if_pos (by omega), if_pos (by omega), if_pos (by omega)]
  simp only [if_true]
  rw [wrapS i (by omega) (by omega)]
  rfl
theorem lpI_f (l : List Int) (hl : l.length ≤ 1099511627776) : Ev (fun k => laws_lpInts.f k l l) true := by
 unfold laws_lpInts.f
 exact ev_pos rfl (lpI_l0 l hl l.length 0 (by omega))
theorem moved_ev {l : List S43} {i u a : Int} {s : ByteArray} (ho : opB 3 i u a s = true) (ht : treeB l = true) {r : S43} (hr : r ∈ l) :
  underR (opDoR l 3 i u a s) r.f0 i = underR l r.f0 i ∧ (r.f0 ≠ i → (upR (opDoR l 3 i u a s) r.f0).1 = (upR l r.f0).1 ∧ (underR l r.f0 i = true → kidsR (opDoR l 3 i u a s) r.f0 = kidsR l r.f0)) := by
 obtain ⟨m, rfl, h4, h37, hm⟩ := made_nat ho
 obtain ⟨e, h2, h3, v'⟩ := opDo_val ho ht
 have v := val_of ht
 obtain ⟨y, hy, rfl⟩ := ids_row ht hr
 have hd := v.does ho
 unfold underR upR kidsR
 simp only
 rw [ht, h2, h3]
 generalize FP.doF (toFo l) 3 m u a s = G' at hd v' ⊢
 cases hd with
 | text h hi => exact absurd h (by decide)
 | make h hi o => exact absurd h (by decide)
 | none h => exact ⟨rfl, fun _ => ⟨rfl, fun _ => rfl⟩⟩
 | move h hi hw o =>
  have f1 : fndF (toFo l) (y : Int) = y := fnd_nat hy
  have f2 : fndF (mvF (toFo l) (nearF (toFo l) (m : Int) u a) m) (y : Int) = y := by rw [o.fnd]; exact f1
  have hy0 := v.ne0 y hy
  rw [o.fnd (m : Int), fnd_nat hi, f1, f2]
  have hun := o.under y
  refine ⟨by simp only [hun], fun hne => ⟨?_, fun hk => ?_⟩⟩
  ·rw [if_pos rfl, if_neg hy0, if_pos rfl, if_neg hy0]
   simp only
   rw [o.par_ne hy (by omega)]
  ·rw [if_pos rfl, if_neg hy0, if_pos rfl, if_neg hy0]
   simp only [Bool.and_eq_true, decide_eq_true_eq] at hk
   have hs : y ∈ (sub m (toFo l)).ids := by
    rcases hk.2.2.2.2 with g | g
    ·omega
    ·exact g
   rw [o.sub_in hs]
theorem kidsR_len (l : List S43) (id : Int) : (kidsR l id).length ≤ 1000 := by
 unfold kidsR
 split
 ·rename_i ht
  split
  ·simp
  ·rename_i h0
   have v := val_of ht
   have e2 := tops_le (sub (fndF (toFo l) id) (toFo l))
   have e3 := (ids_del _ (toFo l) v.nd (fndF_mem h0).1).length_eq
   have e4 := v.len
   simp only [List.length_cons, List.length_append] at e3
   rw [List.length_map]
   omega
 ·simp
theorem moveAll_l0 {t : List S43} {i u a : Int} {s : ByteArray} (hl : t.length ≤ 1000) (ho : opB 3 i u a s = true) (ht : treeB t = true) : ∀ (n j : Nat), j + n = t.length → Ev (fun k => laws_FnMoveAll.l0 k t (opDoR t 3 i u a s) j 3 i u a s) true
 | 0, j, h => by
  refine Ev.step (fun k => by simp only [laws_FnMoveAll.l0]; rfl) ?_
  exact ev_neg (by omega) (evnow _)
 | n + 1, j, h => by
  have hj : j < t.length := by omega
  obtain ⟨e1, e2⟩ := moved_ev ho ht (List.getElem_mem hj)
  have ih := moveAll_l0 hl ho ht n (j + 1) (by omega)
  refine Ev.step (fun k => by simp only [laws_FnMoveAll.l0]; rfl) ?_
  refine ev_pos (by omega) (ev_pos (by omega) ?_)
  rw [rdR_get t j hj, wrapS j (by omega) (by omega)]
  have w : ((j : Int) + 1) = ((j + 1 : Nat) : Int) := by omega
  rw [w]
  refine Ev.bind (evnow (upR t t[j].f0)) (Ev.bind (evnow (upR (opDoR t 3 i u a s) t[j].f0)) ?_)
  have same : (underR t t[j].f0 i != underR (opDoR t 3 i u a s) t[j].f0 i) = false := by rw [e1]; simp
  by_cases he : t[j].f0 = i
  ·refine ev_pos he (Ev.bind (evnow (underR t t[j].f0 i)) (Ev.bind (evnow (underR (opDoR t 3 i u a s) t[j].f0 i)) ?_))
   rw [same]
   exact ev_neg (by decide) ih
  ·obtain ⟨e3, e4⟩ := e2 he
   refine ev_neg he (ev_pos e3.symm (Ev.bind (evnow (underR t t[j].f0 i)) (Ev.bind (evnow (underR (opDoR t 3 i u a s) t[j].f0 i)) ?_)))
   rw [same]
   refine ev_neg (by decide) (Ev.bind (evnow (underR t t[j].f0 i)) ?_)
   cases hk : underR t t[j].f0 i with
   | false => exact ev_neg (by decide) ih
   | true =>
    refine ev_pos rfl (Ev.bind (evnow (kidsR t t[j].f0)) (Ev.bind (evnow (kidsR (opDoR t 3 i u a s) t[j].f0)) ?_))
    rw [e4 hk]
    exact Ev.bind (lpI_f _ (by have := kidsR_len t t[j].f0; omega)) (ev_pos rfl ih)
theorem moveAll_j0 {t : List S43} {k i u a : Int} {s : ByteArray} (d : Dr t k i u a s) (f : Bool) (hf : f = false → treeB t = true ∧ opB k i u a s = true ∧ k = 3) : Ev (fun n => laws_FnMoveAll.j0 n t (opDoR t k i u a s) f k i u a s) true := by
 cases f with
 | true =>
  refine Ev.step (fun n => by simp only [laws_FnMoveAll.j0]; rfl) ?_
  exact ev_pos (by simp) (d.same fun n => rfl)
 | false =>
  obtain ⟨ht, ho, rfl⟩ := hf rfl
  refine Ev.step (fun n => by simp only [laws_FnMoveAll.j0]; rfl) ?_
  exact ev_neg (by decide) (moveAll_l0 (by have := d.few; omega) ho ht t.length 0 (by omega))
theorem FnMoveAll : laws_FnMoveAll.Pure := by
 intro l0 _ _ h0
 refine pure_of ?_
 unfold laws_FnMoveAll.f
 by_cases h : (l0.length : Int) > 1048576
 ·exact ev_pos h (evnow _)
 ·obtain ⟨t, k, i, u, a, s, hd, d⟩ := drawOpDo_f l0 h0
  refine ev_neg h (Ev.bind hd (Ev.bind d.iop (Ev.bind d.sop (Ev.bind (lpR_do t k i u a s) (ev_pos rfl (Ev.bind d.tree ?_))))))
  cases ht : treeB t with
  | false => exact ev_neg (by simp) (moveAll_j0 d true fun h => by cases h)
  | true =>
   refine ev_pos rfl (Ev.bind d.opOk ?_)
   cases ho : opB k i u a s with
   | false => exact ev_neg (by simp) (moveAll_j0 d true fun h => by cases h)
   | true => exact ev_pos rfl (moveAll_j0 d _ fun h => ⟨ht, ho, by simpa using h⟩)
end Go.Proofs.YtkopimbbgckcnaaDoor.PL
namespace Go.Proofs.YtkopimbbgckcnaaDoor.P
open Go.ChangeShapes Go.WideShapes Go.ChangeAt Go.RowKit
theorem tOwners : (Tryd.prog.globals[0]?).map (·.type) = some 73 := by kernel_rfl
theorem cOwners : Tryd.prog.cellsOf 73 = 37 := by kernel_rfl
theorem cInt : Tryd.prog.cellsOf 3 = 1 := by kernel_rfl
abbrev ownCells : Array Value := (owners.map fun z => Value.int .i64 z).toArray
theorem glob_of_laid {W : World} (h : laidMet Tryd.prog [("loop.example/plashet/impl.rowOwners", Rows.laid_loop_example_plashet_impl_rowOwners)] W) : Glob W :=
 Lib.tabIs_of_head gOwners tOwners Tryd.underlying73 Tryd.underlying3 cInt cOwners h
theorem door_met (os : Os) (args : Array Value) : laidMet Tryd.prog [("loop.example/plashet/impl.rowOwners", Rows.laid_loop_example_plashet_impl_rowOwners)] ((World.doorLaid Tryd.prog 400 os).forCall (fun _ _ => 0) ⟨#[], args, []⟩).memory :=
 laidMet_of_run' 8 (by kernel_rfl) (by kernel_rfl)
abbrev tableH {H : Type} : DataW H := .agg (owners.map fun z => .lit (.int .i64 z))
theorem reads_table {H : Type} (enc : TypeId × Value → H) (W : World) (sp : Nat → Bool) : DataW.trod enc Tryd.prog W 0 sp true 3 73 ownCells.toList = some (tableH, []) := by kernel_rfl
theorem tab_vars {H : Type} (enc : TypeId × Value → H) {W : World} (h : Glob W) {sp : Nat → Bool} : DataW.TrodVars enc Tryd.prog W sp ["loop.example/plashet/impl.rowOwners"] [tableH] (MemPlace.row ⟨0, 0, none⟩ ownCells.size ++ [] ++ []) :=
 ⟨0, 73, ownCells, 3, [], [], gOwners, tOwners, h, reads_table enc W sp, rfl, rfl⟩
end Go.Proofs.YtkopimbbgckcnaaDoor.P
namespace Go.Proofs.YtkopimbbgckcnaaDoor.fnMoveAll
open Go.ChangeMaps (open_string shut_string)
open Go.ChangeShapes Go.WideShapes Go.ChangeAt Go.RowKit
theorem own : ownKnob Tryd.prog.godebug = none := by kernel_rfl
theorem laidOut : laidOutB Tryd.prog = true := by kernel_rfl
def IsRow (k : IntKind) (w : World) (a : Option Addr) (len cap : Nat) (zs : List Int) : Prop :=
 (a = none ∧ len = 0 ∧ cap = 0 ∧ zs = []) ∨
 ∃ x, a = some x ∧ len ≤ cap ∧ cap ≤ maxLen ∧ zs.length = cap ∧ (∀ i, i < zs.length → w.cell? (x.add i) = some (.int k (zs.getD i 0))) ∧ ∀ n ∈ zs, (Lit.int k n).wf = true
set_option maxRecDepth 100000 in
theorem lifted (os : Os) (started : os.Started) (H : Type) (enc : TypeId × Value → H) :
  ReturnsInHanded {} Tryd.checked os 14 .any (fun w args => (Rows.fnMoveAllSpec.pre enc Tryd.prog Tryd.f14 [] false w args ∧ laidMet Tryd.prog [("loop.example/plashet/impl.rowOwners", Rows.laid_loop_example_plashet_impl_rowOwners)] w) ∧ sizedMet enc Tryd.prog Tryd.f14 (OpenSpec.ofChange Rows.fnMoveAllSpec) false w args) (Rows.fnMoveAllSpec.post enc Tryd.prog Tryd.f14 false true false false) := by
 refine returnsInHanded_of_change_and (C := Tryd.checked) (X := fun w _ => laidMet Tryd.prog [("loop.example/plashet/impl.rowOwners", Rows.laid_loop_example_plashet_impl_rowOwners)] w) (fun _ _ _ hh h => h.of_heap hh) own started (by kernel_rfl) Tryd.func14
  (ChangeSpec.witness_shaped (enc := enc) (C := Tryd.checked) (os := os) (X := fun w _ => laidMet Tryd.prog [("loop.example/plashet/impl.rowOwners", Rows.laid_loop_example_plashet_impl_rowOwners)] w) false (World.doorLaid Tryd.prog 400 os) #[.slice none 0 0] 8 rfl (World.shaped_of_RefB (by kernel_rfl) (by kernel_rfl)) (by kernel_rfl) (by kernel_rfl) (by kernel_rfl) (P.door_met os _)) ?_
 intro W base args ds gs before hval0 hW _ hsz0 hL _
 have hsz : (DataW.weightsEach Tryd.prog (Tryd.f14.params.toList ++ Rows.fnMoveAllSpec.plain.varTypes Tryd.prog) (ds ++ gs)).all (· ≤ reachBytes) = true := hsz0
 have hval : ∀ (j : Nat) t v, Tryd.f14.params[j]? = some t → args[j]? = some v → Value.okWide Tryd.prog W .any base t v := hval0
 have hW' := hW
 obtain ⟨p, q, hA0, hV, rfl, hfz, hnd⟩ := hW
 have hA : DataW.TrodAll enc Tryd.prog W 0 (fun _ => true) true Tryd.f14.params.toList args.toList ds p := hA0
 rw [Tryd.params14] at hA hval hsz
 obtain ⟨v0, vs0, d0, ds0, p0, q0, hargs, rfl, rfl, h0, r0⟩ := trodAll_cons hA
 obtain ⟨rfl, rfl, rfl⟩ := trodAll_nil r0
 obtain rfl : args = #[v0] := by cases args; simp_all
 have hG : P.Glob W := P.glob_of_laid hL
 obtain ⟨gv, tv, csv, fuelv, dv, pv, rfl, hgv, htv, hvarv, hdv, rfl⟩ := trodVars_one hV
 obtain rfl : csv = P.ownCells := Option.some.inj (hvarv.symm.trans hG)
 obtain rfl := Option.some.inj (P.tOwners.symm.trans (by rw [Option.some.inj (P.gOwners.symm.trans hgv)]; exact htv))
 obtain ⟨rfl, rfl⟩ := DataW.Trod.unique (v := .agg P.ownCells) ⟨fuelv, hdv⟩ ⟨3, P.reads_table enc W _⟩
 obtain ⟨a0, len0, cap0, rfl⟩ := okWide_slice Tryd.underlying35 (hval 0 35 v0 rfl rfl)
 have k0 := h0
 have lt0 : ∀ x ∈ p0, x.block < W.heap.size := by obtain ⟨m, hm⟩ := k0; exact DataW.trod_lt m _ _ _ hm
 obtain ⟨z0, w0⟩ : ∃ zs, IsRow .u8 W a0 len0 cap0 zs := by
  obtain ⟨fuel, hf⟩ := h0
  rcases open_ints Tryd.underlying35 Tryd.underlying5 (by kernel_rfl) hf with ⟨hcs, _⟩ | ⟨x, l, c, zs, hcs, _, hl, hm, hz, _, hcell, hwz⟩
  ·simp [Value.cells] at hcs
   obtain ⟨rfl, rfl, rfl⟩ := hcs
   exact ⟨[], .inl ⟨rfl, rfl, rfl, rfl⟩⟩
  ·simp [Value.cells] at hcs
   obtain ⟨rfl, rfl, rfl⟩ := hcs
   exact ⟨zs, .inr ⟨_, rfl, hl, hm, by simpa using hz, hcell, hwz⟩⟩
 have y0 : len0 * 1 ≤ 140737488351232 := Go.Proofs.YtkopimbbgckcnaaDoorW.PrintWords.sized_ints hsz (j := 0) (t := 35) rfl rfl Tryd.underlying35 Tryd.underlying5 (by kernel_rfl) (by kernel_rfl) h0
 clear hA0 hval0 hsz0 hsz
 refine (P.laws_FnMoveAll.walk PL.FnMoveAll a0 len0 cap0 z0 W w0 y0 hG).mono fun e W' ⟨he, bel⟩ => ?_
 subst he
 exact ⟨_, rfl, _, _, _, _, _, _, hW', trodAll_mk1 (shut_bool Tryd.underlying4 _), (trodAll_cons_mk (Below.trod laidOut (by kernel_rfl) (of_decide_eq_true (by kernel_rfl)) k0 bel lt0) trodAll_mk0), P.tab_vars enc (hG.below bel), bel.frame _, fun h => by cases h⟩
theorem over : Rows.fnMoveAllRow.holds Tryd.pinned (OpenSpec.ofChange Rows.fnMoveAllSpec) :=
 OpenClaim.holds_of_wide 14 Tryd.f14 rfl rfl rfl rfl rfl rfl rfl ⟨rfl, rfl, rfl, rfl, rfl⟩ rfl rfl rfl rfl rfl (by kernel_rfl) Tryd.func14 (by kernel_rfl)
  (of_decide_eq_true (by kernel_rfl)) (by unfold Func.isWrapper; first | (rw [if_pos (by decide +kernel)]; kernel_rfl) | (rw [if_neg (by decide +kernel)]; exact ⟨rfl, rfl⟩))
  (fun os started H enc _ => lifted os started H enc)
theorem proved : Rows.FnMoveAllSaid := over
#print axioms proved
end Go.Proofs.YtkopimbbgckcnaaDoor.fnMoveAll
namespace Go.Proofs.YtkopimbbgckcnaaDoor
theorem fnMoveAll_holds : Rows.FnMoveAllSaid := fnMoveAll.proved
end Go.Proofs.YtkopimbbgckcnaaDoor
namespace Go.Proofs.YtkopimbbgckcnaaDoor
open Go
theorem fnMoveAllCard_holds : Rows.FnMoveAllCardSaid :=
 Claim7.holds_tied_plain_at .later [] [.data] true (true, "05e51009c0bec8d8d35deb79e81af090818f8d02cc4b5bce3a1d080efdde1e4f") true
  fnMoveAll_holds (fun _ h => by cases h) (by kernel_rfl) (fun _ h => by cases h) fnMoveAll_row_tie rfl ⟨rfl, rfl⟩ (by kernel_rfl) rfl
  (fun f fn hf hfn => by
   obtain rfl : f = 14 := Option.some.inj ((show Tryd.prog.funcNamed "loop.example/plashet/laws.FnMoveAll" = some 14 by kernel_rfl).symm.trans hf) |>.symm
   obtain rfl : fn = Tryd.f14 := (Option.some.inj (Tryd.func14.symm.trans hfn)).symm
   exact ⟨by kernel_rfl, fun j t ht => by
    rw [Tryd.params14] at ht
    have hm : t ∈ [35] := by have := Array.mem_of_getElem? ht; simp at this; first | (subst this; simp; done) | (rcases this with h | h <;> simp [h]; done) | (rcases this with h | h | h <;> simp [h]; done)
    have hall : ([35].all fun u => !Tryd.prog.wantsStandIn u) = true := by kernel_rfl
    exact (show Tryd.prog.wantsStandIn t = false by simpa using List.all_eq_true.1 hall t hm)⟩)
  (by kernel_rfl)
#print axioms fnMoveAllCard_holds
end Go.Proofs.YtkopimbbgckcnaaDoor
