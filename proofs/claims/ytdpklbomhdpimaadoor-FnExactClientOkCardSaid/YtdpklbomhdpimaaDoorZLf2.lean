/- Joined by a program (wip/shake.py): the declarations that 'YtdpklbomhdpimaaDoorCardFnExactClientOk' reaches. -/
import Derived.Test.YtdpklbomhdpimaaDoorZLf1
set_option linter.unusedVariables false
set_option linter.unusedSimpArgs false
set_option linter.unusedSectionVars false
namespace Go.Proofs.YtdpklbomhdpimaaDoor.P
open Go.RowKit Go.Proofs.YtdpklbomhdpimaaDoorW.PrintWords Go.Proofs.YtdpklbomhdpimaaDoorW.PrintLast
set_option maxHeartbeats 8000000 in
set_option maxRecDepth 100000 in
theorem spec_ClientOk.calls (k : Nat) (a0_0 : Int) (a0_1 : Int) (A0_2 : Option Addr) (c0_2 : Nat) (l0_2 : List (S69)) (A0_3 : Option Addr) (c0_3 : Nat) (l0_3 : List (S44)) (a0_4 : Int) (a0_5 : Int) (r : Bool) (w : World) (hr0_2 : Kd.C k69 w A0_2 l0_2.length l0_2) (hc0_2 : l0_2.length ≤ c0_2) (hr0_3 : Kd.C k44 w A0_3 l0_3.length l0_3) (hc0_3 : l0_3.length ≤ c0_3) (h : spec_ClientOk.f k a0_0 a0_1 l0_2 l0_3 a0_4 a0_5 = some r) :
  Calls Tryd.prog 63 #[.agg #[.int .i64 a0_0, .int .i64 a0_1, .slice A0_2 l0_2.length c0_2, .slice A0_3 l0_3.length c0_3, .int .i64 a0_4, .int .i64 a0_5]] w fun e w' => e = .returned (.bool r) ∧ Below w.heap.size w w' := by
 have hu77 := Tryd.underlying77
 have hu44 := Tryd.underlying44
 have HR0_2 := Aside0.mk hr0_2
 have HC0_2 := Aside0.mk hc0_2
 clear hr0_2 hc0_2
 have HR0_3 := Aside0.mk hr0_3
 have HC0_3 := Aside0.mk hc0_3
 clear hr0_3 hc0_3
 have HB := Aside0.mk (Below.refl w.heap.size w)
 unfold spec_ClientOk.f at h
 have H := h
 clear h
 have HC2 := Aside0.mk H
 clear H
 go_enter Tryd.func63, Tryd.ntmps63
 go_upto_region 1 with (first | ((with_reducible refine gate_dst (N := 1) rfl ?_); refine bx_ 1 (#[.int .i64 a0_0, .int .i64 a0_1, .slice A0_2 l0_2.length c0_2, .slice A0_3 l0_3.length c0_3, .int .i64 a0_4, .int .i64 a0_5]) 77 ?_; intro gb1202 hg w3 hbox hb; have n0_ := Aside0.mk (below_step (bel_) hb); have n1_ := Aside0.mk (hbox); have n2_ := Aside0.mk ((by rw [hg]; exact (below_size (bel_)) : w.heap.size ≤ gb1202)); have n3_ := Aside0.mk ((by rw [hg]; exact (below_size (bel_)) : w.heap.size ≤ gb1202)); clear HB; have HB := n0_; have BK1202 := n1_; have GW1202 := n2_; have GE1202 := n3_; clear n0_ n1_ n2_ n3_; clear hb hbox hg))
 (try simp only [Act.put, List.setIfInBounds_toArray, List.set_cons_zero, List.set_cons_succ])
 go_cut [43] (fun v43 wc => ∃ (kq : Nat) (x43_1 : Bool), v43 = .bool x43_1 ∧ Aside0 (spec_ClientOk.j0 kq x43_1 a0_0 a0_1 l0_2 l0_3 a0_4 a0_5 = some r) ∧ Aside0 (kq ≤ k) ∧ Aside0 (wc.heap[gb1202]? = some (.cells #[.int .i64 a0_0, .int .i64 a0_1, (.slice A0_2 l0_2.length c0_2), (.slice A0_3 l0_3.length c0_3), .int .i64 a0_4, .int .i64 a0_5] 77 (0, 0))) ∧ Aside0 (Below w.heap.size w wc))
 case first =>
  have H := HC2.out
  clear HC2
  replace H := Option.bind_eq_some_iff.mp H
  obtain ⟨t1203, A40, H⟩ := H
  try dsimp only at H
  have A4 := Aside0.mk A40
  clear A40
  by_cases c5 : t1203 = true
  ·subst c5
   have H1 : ((spec_l6In.f a0_1 0 40).bind fun t1204 => (if t1204 = true then ((spec_TreeOk.f k l0_2).bind fun t1205 => (if t1205 = true then ((spec_l6In.f a0_4 0 a0_1).bind fun t1206 => (if t1206 = true then (if (wrap64 (a0_4 + (l0_3.length : Int))) > 40 then (spec_ClientOk.j0 k true a0_0 a0_1 l0_2 l0_3 a0_4 a0_5) else ((spec_l6In.f a0_5 0 6).bind fun t1207 => (spec_ClientOk.j0 k (!t1207) a0_0 a0_1 l0_2 l0_3 a0_4 a0_5))) else (spec_ClientOk.j0 k true a0_0 a0_1 l0_2 l0_3 a0_4 a0_5))) else (spec_ClientOk.j0 k true a0_0 a0_1 l0_2 l0_3 a0_4 a0_5))) else (spec_ClientOk.j0 k true a0_0 a0_1 l0_2 l0_3 a0_4 a0_5))) = some r := by rw [if_pos rfl] at H; exact H
   clear H
   have H := H1
   clear H1
   replace H := Option.bind_eq_some_iff.mp H
   obtain ⟨t1204, A60, H⟩ := H
   try dsimp only at H
   have A6 := Aside0.mk A60
   clear A60
   by_cases c7 : t1204 = true
   ·subst c7
    have H1 : ((spec_TreeOk.f k l0_2).bind fun t1205 => (if t1205 = true then ((spec_l6In.f a0_4 0 a0_1).bind fun t1206 => (if t1206 = true then (if (wrap64 (a0_4 + (l0_3.length : Int))) > 40 then (spec_ClientOk.j0 k true a0_0 a0_1 l0_2 l0_3 a0_4 a0_5) else ((spec_l6In.f a0_5 0 6).bind fun t1207 => (spec_ClientOk.j0 k (!t1207) a0_0 a0_1 l0_2 l0_3 a0_4 a0_5))) else (spec_ClientOk.j0 k true a0_0 a0_1 l0_2 l0_3 a0_4 a0_5))) else (spec_ClientOk.j0 k true a0_0 a0_1 l0_2 l0_3 a0_4 a0_5))) = some r := by rw [if_pos rfl] at H; exact H
    clear H
    have H := H1
    clear H1
    replace H := Option.bind_eq_some_iff.mp H
    obtain ⟨t1205, A80, H⟩ := H
    try dsimp only at H
    have A8 := Aside0.mk A80
    clear A80
    by_cases c9 : t1205 = true
    ·subst c9
     have H1 : ((spec_l6In.f a0_4 0 a0_1).bind fun t1206 => (if t1206 = true then (if (wrap64 (a0_4 + (l0_3.length : Int))) > 40 then (spec_ClientOk.j0 k true a0_0 a0_1 l0_2 l0_3 a0_4 a0_5) else ((spec_l6In.f a0_5 0 6).bind fun t1207 => (spec_ClientOk.j0 k (!t1207) a0_0 a0_1 l0_2 l0_3 a0_4 a0_5))) else (spec_ClientOk.j0 k true a0_0 a0_1 l0_2 l0_3 a0_4 a0_5))) = some r := by rw [if_pos rfl] at H; exact H
     clear H
     have H := H1
     clear H1
     replace H := Option.bind_eq_some_iff.mp H
     obtain ⟨t1206, A100, H⟩ := H
     try dsimp only at H
     have A10 := Aside0.mk A100
     clear A100
     by_cases c11 : t1206 = true
     ·subst c11
      have H1 : (if (wrap64 (a0_4 + (l0_3.length : Int))) > 40 then (spec_ClientOk.j0 k true a0_0 a0_1 l0_2 l0_3 a0_4 a0_5) else ((spec_l6In.f a0_5 0 6).bind fun t1207 => (spec_ClientOk.j0 k (!t1207) a0_0 a0_1 l0_2 l0_3 a0_4 a0_5))) = some r := by rw [if_pos rfl] at H; exact H
      clear H
      have H := H1
      clear H1
      by_cases c12 : (wrap64 (a0_4 + (l0_3.length : Int))) > 40
      ·rw [if_pos c12] at H
       have c12b0 : decide (40 < (wrap64 (a0_4 + (l0_3.length : Int)))) = true := decide_eq_true c12
       clear c12
       (first | rw [c12b0] | (simp only [i64_w, i32_w]; rw [c12b0]) | skip)
       have H' := Aside0.mk H
       clear H
       have hcz13_0 := cz_ BK1202.out 0 (.int .i64 a0_0)
       have hcz13_1 := cz_ BK1202.out 1 (.int .i64 a0_1)
       have hcz13_2 := cz_ BK1202.out 2 (.slice A0_2 l0_2.length c0_2)
       have hcz13_3 := cz_ BK1202.out 3 (.slice A0_3 l0_3.length c0_3)
       have hcz13_4 := cz_ BK1202.out 4 (.int .i64 a0_4)
       have hcz13_5 := cz_ BK1202.out 5 (.int .i64 a0_5)
       have hfz13_0 := blk_frozen BK1202.out 0
       have hfz13_1 := blk_frozen BK1202.out 1
       have hfz13_2 := blk_frozen BK1202.out 2
       have hfz13_3 := blk_frozen BK1202.out 3
       have hfz13_4 := blk_frozen BK1202.out 4
       have hfz13_5 := blk_frozen BK1202.out 5
       go_wp2_with (first | ((with_reducible refine gate_callee (f := 75) rfl ?_); refine gl_ 7 Tryd.func75 #[.int .i64 a0_0, .int .i64 1, .int .i64 3] ?_; (with_reducible refine (spec_l6In.calls a0_0 1 3 true _ A4.out).mono ?_); rintro e w' ⟨rfl, ⟨nd, rfl⟩⟩; refine ⟨_, rfl, ?_⟩) | (go_at_call 75; (with_reducible refine (spec_l6In.calls a0_1 0 40 true _ A6.out).mono ?_); rintro e w' ⟨rfl, ⟨nd, rfl⟩⟩) | (go_at_call 110; (with_reducible refine (spec_TreeOk.calls k _ _ l0_2 true _ ?side1 ?side2 A8.out).mono ?_); (case side1 => repeat (first | exact (Kd.C_below HR0_2.out (bel_)) | (with_reducible refine Kd.C_alloc ?_ _) | (with_reducible refine Kd.C_drewN ?_ _) | (with_reducible refine Kd.C_drew ?_))); (case side2 => exact HC0_2.out); rintro e w14 ⟨rfl, hb⟩; replace HB := Aside0.mk (below_step (bel_) hb); replace BK1202 := Aside0.mk (bb_ BK1202.out hb); (try clear hb); have hcz15_0 := cz_ BK1202.out 0 (.int .i64 a0_0); have hcz15_1 := cz_ BK1202.out 1 (.int .i64 a0_1); have hcz15_2 := cz_ BK1202.out 2 (.slice A0_2 l0_2.length c0_2); have hcz15_3 := cz_ BK1202.out 3 (.slice A0_3 l0_3.length c0_3); have hcz15_4 := cz_ BK1202.out 4 (.int .i64 a0_4); have hcz15_5 := cz_ BK1202.out 5 (.int .i64 a0_5); have hfz15_0 := blk_frozen BK1202.out 0; have hfz15_1 := blk_frozen BK1202.out 1; have hfz15_2 := blk_frozen BK1202.out 2; have hfz15_3 := blk_frozen BK1202.out 3; have hfz15_4 := blk_frozen BK1202.out 4; have hfz15_5 := blk_frozen BK1202.out 5) | (go_at_call 75; (with_reducible refine (spec_l6In.calls a0_4 0 a0_1 true _ A10.out).mono ?_); rintro e w' ⟨rfl, ⟨nd, rfl⟩⟩))
       go_meet
       case rel => exact ⟨_, (true), (si_), H', ⟨by first | omega | exact Nat.le_refl _⟩, ⟨by (with_reducible repeat (first | refine blk_drewN ?_ _ | refine blk_drew ?_ | refine blk_alloc ?_ _)); exact BK1202.out⟩, ⟨bel_⟩⟩
      ·rw [if_neg c12] at H
       have c12b0 : decide (40 < (wrap64 (a0_4 + (l0_3.length : Int)))) = false := decide_eq_false c12
       clear c12
       (first | rw [c12b0] | (simp only [i64_w, i32_w]; rw [c12b0]) | skip)
       replace H := Option.bind_eq_some_iff.mp H
       obtain ⟨t1207, A160, H⟩ := H
       try dsimp only at H
       have A16 := Aside0.mk A160
       clear A160
       have H' := Aside0.mk H
       clear H
       have hcz17_0 := cz_ BK1202.out 0 (.int .i64 a0_0)
       have hcz17_1 := cz_ BK1202.out 1 (.int .i64 a0_1)
       have hcz17_2 := cz_ BK1202.out 2 (.slice A0_2 l0_2.length c0_2)
       have hcz17_3 := cz_ BK1202.out 3 (.slice A0_3 l0_3.length c0_3)
       have hcz17_4 := cz_ BK1202.out 4 (.int .i64 a0_4)
       have hcz17_5 := cz_ BK1202.out 5 (.int .i64 a0_5)
       have hfz17_0 := blk_frozen BK1202.out 0
       have hfz17_1 := blk_frozen BK1202.out 1
       have hfz17_2 := blk_frozen BK1202.out 2
       have hfz17_3 := blk_frozen BK1202.out 3
       have hfz17_4 := blk_frozen BK1202.out 4
       have hfz17_5 := blk_frozen BK1202.out 5
       go_wp2_with (first | ((with_reducible refine gate_callee (f := 75) rfl ?_); refine gl_ 7 Tryd.func75 #[.int .i64 a0_0, .int .i64 1, .int .i64 3] ?_; (with_reducible refine (spec_l6In.calls a0_0 1 3 true _ A4.out).mono ?_); rintro e w' ⟨rfl, ⟨nd, rfl⟩⟩; refine ⟨_, rfl, ?_⟩) | (go_at_call 75; (with_reducible refine (spec_l6In.calls a0_1 0 40 true _ A6.out).mono ?_); rintro e w' ⟨rfl, ⟨nd, rfl⟩⟩) | (go_at_call 110; (with_reducible refine (spec_TreeOk.calls k _ _ l0_2 true _ ?side1 ?side2 A8.out).mono ?_); (case side1 => repeat (first | exact (Kd.C_below HR0_2.out (bel_)) | (with_reducible refine Kd.C_alloc ?_ _) | (with_reducible refine Kd.C_drewN ?_ _) | (with_reducible refine Kd.C_drew ?_))); (case side2 => exact HC0_2.out); rintro e w18 ⟨rfl, hb⟩; replace HB := Aside0.mk (below_step (bel_) hb); replace BK1202 := Aside0.mk (bb_ BK1202.out hb); (try clear hb); have hcz19_0 := cz_ BK1202.out 0 (.int .i64 a0_0); have hcz19_1 := cz_ BK1202.out 1 (.int .i64 a0_1); have hcz19_2 := cz_ BK1202.out 2 (.slice A0_2 l0_2.length c0_2); have hcz19_3 := cz_ BK1202.out 3 (.slice A0_3 l0_3.length c0_3); have hcz19_4 := cz_ BK1202.out 4 (.int .i64 a0_4); have hcz19_5 := cz_ BK1202.out 5 (.int .i64 a0_5); have hfz19_0 := blk_frozen BK1202.out 0; have hfz19_1 := blk_frozen BK1202.out 1; have hfz19_2 := blk_frozen BK1202.out 2; have hfz19_3 := blk_frozen BK1202.out 3; have hfz19_4 := blk_frozen BK1202.out 4; have hfz19_5 := blk_frozen BK1202.out 5) | (go_at_call 75; (with_reducible refine (spec_l6In.calls a0_4 0 a0_1 true _ A10.out).mono ?_); rintro e w' ⟨rfl, ⟨nd, rfl⟩⟩) | (go_at_call 75; (with_reducible refine (spec_l6In.calls a0_5 0 6 t1207 _ A16.out).mono ?_); rintro e w' ⟨rfl, ⟨nd, rfl⟩⟩))
       go_meet
       case rel => exact ⟨_, (!t1207), (si_), H', ⟨by first | omega | exact Nat.le_refl _⟩, ⟨by (with_reducible repeat (first | refine blk_drewN ?_ _ | refine blk_drew ?_ | refine blk_alloc ?_ _)); exact BK1202.out⟩, ⟨bel_⟩⟩
     ·replace c11 := Bool.eq_false_iff.mpr c11
      subst c11
      have H1 : (spec_ClientOk.j0 k true a0_0 a0_1 l0_2 l0_3 a0_4 a0_5) = some r := by rw [if_neg (show ¬ (false = true) by decide)] at H; exact H
      clear H
      have H := H1
      clear H1
      have H' := Aside0.mk H
      clear H
      have hcz20_0 := cz_ BK1202.out 0 (.int .i64 a0_0)
      have hcz20_1 := cz_ BK1202.out 1 (.int .i64 a0_1)
      have hcz20_2 := cz_ BK1202.out 2 (.slice A0_2 l0_2.length c0_2)
      have hcz20_3 := cz_ BK1202.out 3 (.slice A0_3 l0_3.length c0_3)
      have hcz20_4 := cz_ BK1202.out 4 (.int .i64 a0_4)
      have hcz20_5 := cz_ BK1202.out 5 (.int .i64 a0_5)
      have hfz20_0 := blk_frozen BK1202.out 0
      have hfz20_1 := blk_frozen BK1202.out 1
      have hfz20_2 := blk_frozen BK1202.out 2
      have hfz20_3 := blk_frozen BK1202.out 3
      have hfz20_4 := blk_frozen BK1202.out 4
      have hfz20_5 := blk_frozen BK1202.out 5
      go_wp2_with (first | ((with_reducible refine gate_callee (f := 75) rfl ?_); refine gl_ 7 Tryd.func75 #[.int .i64 a0_0, .int .i64 1, .int .i64 3] ?_; (with_reducible refine (spec_l6In.calls a0_0 1 3 true _ A4.out).mono ?_); rintro e w' ⟨rfl, ⟨nd, rfl⟩⟩; refine ⟨_, rfl, ?_⟩) | (go_at_call 75; (with_reducible refine (spec_l6In.calls a0_1 0 40 true _ A6.out).mono ?_); rintro e w' ⟨rfl, ⟨nd, rfl⟩⟩) | (go_at_call 110; (with_reducible refine (spec_TreeOk.calls k _ _ l0_2 true _ ?side1 ?side2 A8.out).mono ?_); (case side1 => repeat (first | exact (Kd.C_below HR0_2.out (bel_)) | (with_reducible refine Kd.C_alloc ?_ _) | (with_reducible refine Kd.C_drewN ?_ _) | (with_reducible refine Kd.C_drew ?_))); (case side2 => exact HC0_2.out); rintro e w21 ⟨rfl, hb⟩; replace HB := Aside0.mk (below_step (bel_) hb); replace BK1202 := Aside0.mk (bb_ BK1202.out hb); (try clear hb); have hcz22_0 := cz_ BK1202.out 0 (.int .i64 a0_0); have hcz22_1 := cz_ BK1202.out 1 (.int .i64 a0_1); have hcz22_2 := cz_ BK1202.out 2 (.slice A0_2 l0_2.length c0_2); have hcz22_3 := cz_ BK1202.out 3 (.slice A0_3 l0_3.length c0_3); have hcz22_4 := cz_ BK1202.out 4 (.int .i64 a0_4); have hcz22_5 := cz_ BK1202.out 5 (.int .i64 a0_5); have hfz22_0 := blk_frozen BK1202.out 0; have hfz22_1 := blk_frozen BK1202.out 1; have hfz22_2 := blk_frozen BK1202.out 2; have hfz22_3 := blk_frozen BK1202.out 3; have hfz22_4 := blk_frozen BK1202.out 4; have hfz22_5 := blk_frozen BK1202.out 5) | (go_at_call 75; (with_reducible refine (spec_l6In.calls a0_4 0 a0_1 false _ A10.out).mono ?_); rintro e w' ⟨rfl, ⟨nd, rfl⟩⟩))
      go_meet
      case rel => exact ⟨_, (true), (si_), H', ⟨by first | omega | exact Nat.le_refl _⟩, ⟨by (with_reducible repeat (first | refine blk_drewN ?_ _ | refine blk_drew ?_ | refine blk_alloc ?_ _)); exact BK1202.out⟩, ⟨bel_⟩⟩
    ·replace c9 := Bool.eq_false_iff.mpr c9
     subst c9
     have H1 : (spec_ClientOk.j0 k true a0_0 a0_1 l0_2 l0_3 a0_4 a0_5) = some r := by rw [if_neg (show ¬ (false = true) by decide)] at H; exact H
     clear H
     have H := H1
     clear H1
     have H' := Aside0.mk H
     clear H
     have hcz23_0 := cz_ BK1202.out 0 (.int .i64 a0_0)
     have hcz23_1 := cz_ BK1202.out 1 (.int .i64 a0_1)
     have hcz23_2 := cz_ BK1202.out 2 (.slice A0_2 l0_2.length c0_2)
     have hcz23_3 := cz_ BK1202.out 3 (.slice A0_3 l0_3.length c0_3)
     have hcz23_4 := cz_ BK1202.out 4 (.int .i64 a0_4)
     have hcz23_5 := cz_ BK1202.out 5 (.int .i64 a0_5)
     have hfz23_0 := blk_frozen BK1202.out 0
     have hfz23_1 := blk_frozen BK1202.out 1
     have hfz23_2 := blk_frozen BK1202.out 2
     have hfz23_3 := blk_frozen BK1202.out 3
     have hfz23_4 := blk_frozen BK1202.out 4
     have hfz23_5 := blk_frozen BK1202.out 5
     go_wp2_with (first | ((with_reducible refine gate_callee (f := 75) rfl ?_); refine gl_ 7 Tryd.func75 #[.int .i64 a0_0, .int .i64 1, .int .i64 3] ?_; (with_reducible refine (spec_l6In.calls a0_0 1 3 true _ A4.out).mono ?_); rintro e w' ⟨rfl, ⟨nd, rfl⟩⟩; refine ⟨_, rfl, ?_⟩) | (go_at_call 75; (with_reducible refine (spec_l6In.calls a0_1 0 40 true _ A6.out).mono ?_); rintro e w' ⟨rfl, ⟨nd, rfl⟩⟩) | (go_at_call 110; (with_reducible refine (spec_TreeOk.calls k _ _ l0_2 false _ ?side1 ?side2 A8.out).mono ?_); (case side1 => repeat (first | exact (Kd.C_below HR0_2.out (bel_)) | (with_reducible refine Kd.C_alloc ?_ _) | (with_reducible refine Kd.C_drewN ?_ _) | (with_reducible refine Kd.C_drew ?_))); (case side2 => exact HC0_2.out); rintro e w24 ⟨rfl, hb⟩; replace HB := Aside0.mk (below_step (bel_) hb); replace BK1202 := Aside0.mk (bb_ BK1202.out hb); (try clear hb)))
     go_meet
     case rel => exact ⟨_, (true), (si_), H', ⟨by first | omega | exact Nat.le_refl _⟩, ⟨by (with_reducible repeat (first | refine blk_drewN ?_ _ | refine blk_drew ?_ | refine blk_alloc ?_ _)); exact BK1202.out⟩, ⟨bel_⟩⟩
   ·replace c7 := Bool.eq_false_iff.mpr c7
    subst c7
    have H1 : (spec_ClientOk.j0 k true a0_0 a0_1 l0_2 l0_3 a0_4 a0_5) = some r := by rw [if_neg (show ¬ (false = true) by decide)] at H; exact H
    clear H
    have H := H1
    clear H1
    have H' := Aside0.mk H
    clear H
    have hcz25_0 := cz_ BK1202.out 0 (.int .i64 a0_0)
    have hcz25_1 := cz_ BK1202.out 1 (.int .i64 a0_1)
    have hcz25_2 := cz_ BK1202.out 2 (.slice A0_2 l0_2.length c0_2)
    have hcz25_3 := cz_ BK1202.out 3 (.slice A0_3 l0_3.length c0_3)
    have hcz25_4 := cz_ BK1202.out 4 (.int .i64 a0_4)
    have hcz25_5 := cz_ BK1202.out 5 (.int .i64 a0_5)
    have hfz25_0 := blk_frozen BK1202.out 0
    have hfz25_1 := blk_frozen BK1202.out 1
    have hfz25_2 := blk_frozen BK1202.out 2
    have hfz25_3 := blk_frozen BK1202.out 3
    have hfz25_4 := blk_frozen BK1202.out 4
    have hfz25_5 := blk_frozen BK1202.out 5
    go_wp2_with (first | ((with_reducible refine gate_callee (f := 75) rfl ?_); refine gl_ 7 Tryd.func75 #[.int .i64 a0_0, .int .i64 1, .int .i64 3] ?_; (with_reducible refine (spec_l6In.calls a0_0 1 3 true _ A4.out).mono ?_); rintro e w' ⟨rfl, ⟨nd, rfl⟩⟩; refine ⟨_, rfl, ?_⟩) | (go_at_call 75; (with_reducible refine (spec_l6In.calls a0_1 0 40 false _ A6.out).mono ?_); rintro e w' ⟨rfl, ⟨nd, rfl⟩⟩))
    go_meet
    case rel => exact ⟨_, (true), (si_), H', ⟨by first | omega | exact Nat.le_refl _⟩, ⟨by (with_reducible repeat (first | refine blk_drewN ?_ _ | refine blk_drew ?_ | refine blk_alloc ?_ _)); exact BK1202.out⟩, ⟨bel_⟩⟩
  ·replace c5 := Bool.eq_false_iff.mpr c5
   subst c5
   have H1 : (spec_ClientOk.j0 k true a0_0 a0_1 l0_2 l0_3 a0_4 a0_5) = some r := by rw [if_neg (show ¬ (false = true) by decide)] at H; exact H
   clear H
   have H := H1
   clear H1
   have H' := Aside0.mk H
   clear H
   have hcz26_0 := cz_ BK1202.out 0 (.int .i64 a0_0)
   have hcz26_1 := cz_ BK1202.out 1 (.int .i64 a0_1)
   have hcz26_2 := cz_ BK1202.out 2 (.slice A0_2 l0_2.length c0_2)
   have hcz26_3 := cz_ BK1202.out 3 (.slice A0_3 l0_3.length c0_3)
   have hcz26_4 := cz_ BK1202.out 4 (.int .i64 a0_4)
   have hcz26_5 := cz_ BK1202.out 5 (.int .i64 a0_5)
   have hfz26_0 := blk_frozen BK1202.out 0
   have hfz26_1 := blk_frozen BK1202.out 1
   have hfz26_2 := blk_frozen BK1202.out 2
   have hfz26_3 := blk_frozen BK1202.out 3
   have hfz26_4 := blk_frozen BK1202.out 4
   have hfz26_5 := blk_frozen BK1202.out 5
   go_wp2_with (first | ((with_reducible refine gate_callee (f := 75) rfl ?_); refine gl_ 7 Tryd.func75 #[.int .i64 a0_0, .int .i64 1, .int .i64 3] ?_; (with_reducible refine (spec_l6In.calls a0_0 1 3 false _ A4.out).mono ?_); rintro e w' ⟨rfl, ⟨nd, rfl⟩⟩; refine ⟨_, rfl, ?_⟩))
   go_meet
   case rel => exact ⟨_, (true), (si_), H', ⟨by first | omega | exact Nat.le_refl _⟩, ⟨by (with_reducible repeat (first | refine blk_drewN ?_ _ | refine blk_drew ?_ | refine blk_alloc ?_ _)); exact BK1202.out⟩, ⟨bel_⟩⟩
 case rest =>
  clear HC2
  try clear c1
  try clear p2
  try clear c5
  try clear c6
  try clear p6
  try clear c7
  try clear c9
  try clear c11
  try clear c12
  try clear c12b0
  try clear hcz13_0
  try clear hcz13_1
  try clear hcz13_2
  try clear hcz13_3
  try clear hcz13_4
  try clear hcz13_5
  try clear hcz15_0
  try clear hcz15_1
  try clear hcz15_2
  try clear hcz15_3
  try clear hcz15_4
  try clear hcz15_5
  try clear hcz17_0
  try clear hcz17_1
  try clear hcz17_2
  try clear hcz17_3
  try clear hcz17_4
  try clear hcz17_5
  try clear hcz19_0
  try clear hcz19_1
  try clear hcz19_2
  try clear hcz19_3
  try clear hcz19_4
  try clear hcz19_5
  try clear hcz20_0
  try clear hcz20_1
  try clear hcz20_2
  try clear hcz20_3
  try clear hcz20_4
  try clear hcz20_5
  try clear hcz22_0
  try clear hcz22_1
  try clear hcz22_2
  try clear hcz22_3
  try clear hcz22_4
  try clear hcz22_5
  try clear hcz23_0
  try clear hcz23_1
  try clear hcz23_2
  try clear hcz23_3
  try clear hcz23_4
  try clear hcz23_5
  try clear hcz25_0
  try clear hcz25_1
  try clear hcz25_2
  try clear hcz25_3
  try clear hcz25_4
  try clear hcz25_5
  try clear hcz26_0
  try clear hcz26_1
  try clear hcz26_2
  try clear hcz26_3
  try clear hcz26_4
  try clear hcz26_5
  try clear hfz13_0
  try clear hfz13_1
  try clear hfz13_2
  try clear hfz13_3
  try clear hfz13_4
  try clear hfz13_5
  try clear hfz15_0
  try clear hfz15_1
  try clear hfz15_2
  try clear hfz15_3
  try clear hfz15_4
  try clear hfz15_5
  try clear hfz17_0
  try clear hfz17_1
  try clear hfz17_2
  try clear hfz17_3
  try clear hfz17_4
  try clear hfz17_5
  try clear hfz19_0
  try clear hfz19_1
  try clear hfz19_2
  try clear hfz19_3
  try clear hfz19_4
  try clear hfz19_5
  try clear hfz20_0
  try clear hfz20_1
  try clear hfz20_2
  try clear hfz20_3
  try clear hfz20_4
  try clear hfz20_5
  try clear hfz22_0
  try clear hfz22_1
  try clear hfz22_2
  try clear hfz22_3
  try clear hfz22_4
  try clear hfz22_5
  try clear hfz23_0
  try clear hfz23_1
  try clear hfz23_2
  try clear hfz23_3
  try clear hfz23_4
  try clear hfz23_5
  try clear hfz25_0
  try clear hfz25_1
  try clear hfz25_2
  try clear hfz25_3
  try clear hfz25_4
  try clear hfz25_5
  try clear hfz26_0
  try clear hfz26_1
  try clear hfz26_2
  try clear hfz26_3
  try clear hfz26_4
  try clear hfz26_5
  obtain ⟨kq, x43_1, rfl, HA, HJ1, BK1202, HB⟩ := hcut
  cases kq with
  | zero => exact absurd HA.out (by simp [spec_ClientOk.j0])
  | succ kj1 =>
   have H := HA.out
   clear HA
   simp only [spec_ClientOk.j0] at H
   by_cases c27 : x43_1 = true
   ·subst c27
    have H1 : (some false) = some r := by rw [if_pos rfl] at H; exact H
    clear H
    have H := H1
    clear H1
    obtain rfl := Option.some.inj H
    go_wp2
    go_ret
    exact ⟨fi_, bel_⟩
   ·replace c27 := Bool.eq_false_iff.mpr c27
    subst c27
    have H1 : (spec_ClientOk.l0 kj1 0 a0_0 a0_1 l0_2 l0_3 a0_4 a0_5) = some r := by rw [if_neg (show ¬ (false = true) by decide)] at H; exact H
    clear H
    have H := H1
    clear H1
    have H' := Aside0.mk H
    clear H
    go_wp2
    go_loopg [3] kj1 (fun kq v3 w' => ∃ (x3_2 : Int), v3 = .int .i64 x3_2 ∧ Aside0 (spec_ClientOk.l0 kq x3_2 a0_0 a0_1 l0_2 l0_3 a0_4 a0_5 = some r) ∧ Aside0 (kq ≤ kj1) ∧ Aside0 (w'.heap[gb1202]? = some (.cells #[.int .i64 a0_0, .int .i64 a0_1, (.slice A0_2 l0_2.length c0_2), (.slice A0_3 l0_3.length c0_3), .int .i64 a0_4, .int .i64 a0_5] 77 (0, 0))) ∧ Aside0 (Below w.heap.size w w'))
    case atStart => exact ⟨(0), (si_), H', ⟨Nat.le_refl _⟩, ⟨by (with_reducible repeat (first | refine blk_drewN ?_ _ | refine blk_drew ?_ | refine blk_alloc ?_ _)); exact BK1202.out⟩, ⟨bel_⟩⟩
    case round =>
     clear H'
     try clear c1
     try clear c2
     try clear p2
     try clear c5
     try clear c6
     try clear p6
     try clear c7
     try clear c9
     try clear c11
     try clear c12
     try clear c12b0
     try clear c27
     try clear hcz13_0
     try clear hcz13_1
     try clear hcz13_2
     try clear hcz13_3
     try clear hcz13_4
     try clear hcz13_5
     try clear hcz15_0
     try clear hcz15_1
     try clear hcz15_2
     try clear hcz15_3
     try clear hcz15_4
     try clear hcz15_5
     try clear hcz17_0
     try clear hcz17_1
     try clear hcz17_2
     try clear hcz17_3
     try clear hcz17_4
     try clear hcz17_5
     try clear hcz19_0
     try clear hcz19_1
     try clear hcz19_2
     try clear hcz19_3
     try clear hcz19_4
     try clear hcz19_5
     try clear hcz20_0
     try clear hcz20_1
     try clear hcz20_2
     try clear hcz20_3
     try clear hcz20_4
     try clear hcz20_5
     try clear hcz22_0
     try clear hcz22_1
     try clear hcz22_2
     try clear hcz22_3
     try clear hcz22_4
     try clear hcz22_5
     try clear hcz23_0
     try clear hcz23_1
     try clear hcz23_2
     try clear hcz23_3
     try clear hcz23_4
     try clear hcz23_5
     try clear hcz25_0
     try clear hcz25_1
     try clear hcz25_2
     try clear hcz25_3
     try clear hcz25_4
     try clear hcz25_5
     try clear hcz26_0
     try clear hcz26_1
     try clear hcz26_2
     try clear hcz26_3
     try clear hcz26_4
     try clear hcz26_5
     try clear hfz13_0
     try clear hfz13_1
     try clear hfz13_2
     try clear hfz13_3
     try clear hfz13_4
     try clear hfz13_5
     try clear hfz15_0
     try clear hfz15_1
     try clear hfz15_2
     try clear hfz15_3
     try clear hfz15_4
     try clear hfz15_5
     try clear hfz17_0
     try clear hfz17_1
     try clear hfz17_2
     try clear hfz17_3
     try clear hfz17_4
     try clear hfz17_5
     try clear hfz19_0
     try clear hfz19_1
     try clear hfz19_2
     try clear hfz19_3
     try clear hfz19_4
     try clear hfz19_5
     try clear hfz20_0
     try clear hfz20_1
     try clear hfz20_2
     try clear hfz20_3
     try clear hfz20_4
     try clear hfz20_5
     try clear hfz22_0
     try clear hfz22_1
     try clear hfz22_2
     try clear hfz22_3
     try clear hfz22_4
     try clear hfz22_5
     try clear hfz23_0
     try clear hfz23_1
     try clear hfz23_2
     try clear hfz23_3
     try clear hfz23_4
     try clear hfz23_5
     try clear hfz25_0
     try clear hfz25_1
     try clear hfz25_2
     try clear hfz25_3
     try clear hfz25_4
     try clear hfz25_5
     try clear hfz26_0
     try clear hfz26_1
     try clear hfz26_2
     try clear hfz26_3
     try clear hfz26_4
     try clear hfz26_5
     try clear p2
     try clear p6
     obtain ⟨x3_2, rfl, HA, HK2, BK1202, HB⟩ := hrel
     cases gk with
     | zero => exact absurd HA.out (by simp [spec_ClientOk.l0])
     | succ k2 =>
      have H := HA.out
      clear HA
      simp only [spec_ClientOk.l0] at H
      by_cases c28 : x3_2 < (l0_3.length : Int)
      ·rw [if_pos c28] at H
       have c28b0 : decide (x3_2 < (l0_3.length : Int)) = true := decide_eq_true c28
       clear c28
       by_cases c29 : 0 ≤ x3_2
       ·rw [if_pos c29] at H
        have c29b0 : decide (0 ≤ x3_2) = true := decide_eq_true c29
        clear c29
        replace H := Option.bind_eq_some_iff.mp H
        obtain ⟨t1210, A300, H⟩ := H
        try dsimp only at H
        have A30 := Aside0.mk A300
        clear A300
        by_cases c31 : t1210 = true
        ·subst c31
         have H1 : (if ((rd_T44 l0_3 x3_2).f0) = a0_0 then (if ((rd_T44 l0_3 x3_2).f1) = (wrap64 ((wrap64 (a0_4 + x3_2)) + 1)) then (if ((rd_T44 l0_3 x3_2).f2.f0) = 1 then (if ((rd_T44 l0_3 x3_2).f2.f1) > (wrap64 ((wrap64 (10 * a0_0)) + a0_5)) then (some false) else (spec_ClientOk.l0 k2 (wrap64 (x3_2 + 1)) a0_0 a0_1 l0_2 l0_3 a0_4 a0_5)) else (spec_ClientOk.l0 k2 (wrap64 (x3_2 + 1)) a0_0 a0_1 l0_2 l0_3 a0_4 a0_5)) else (some false)) else (some false)) = some r := by rw [if_pos rfl] at H; exact H
         clear H
         have H := H1
         clear H1
         by_cases c32 : ((rd_T44 l0_3 x3_2).f0) = a0_0
         ·rw [if_pos c32] at H
          have c32b0 : (((rd_T44 l0_3 x3_2).f0) == a0_0) = true := beq_iff_eq.mpr c32
          have c32b1 : (((rd_T44 l0_3 x3_2).f0) != a0_0) = false := bne_eq_false_iff_eq.mpr c32
          clear c32
          by_cases c33 : ((rd_T44 l0_3 x3_2).f1) = (wrap64 ((wrap64 (a0_4 + x3_2)) + 1))
          ·rw [if_pos c33] at H
           have c33b0 : (((rd_T44 l0_3 x3_2).f1) == (wrap64 ((wrap64 (a0_4 + x3_2)) + 1))) = true := beq_iff_eq.mpr c33
           have c33b1 : (((rd_T44 l0_3 x3_2).f1) != (wrap64 ((wrap64 (a0_4 + x3_2)) + 1))) = false := bne_eq_false_iff_eq.mpr c33
           clear c33
           by_cases c34 : ((rd_T44 l0_3 x3_2).f2.f0) = 1
           ·rw [if_pos c34] at H
            have c34b0 : (((rd_T44 l0_3 x3_2).f2.f0) == 1) = true := beq_iff_eq.mpr c34
            have c34b1 : (((rd_T44 l0_3 x3_2).f2.f0) != 1) = false := bne_eq_false_iff_eq.mpr c34
            clear c34
            by_cases c35 : ((rd_T44 l0_3 x3_2).f2.f1) > (wrap64 ((wrap64 (10 * a0_0)) + a0_5))
            ·rw [if_pos c35] at H
             have c35b0 : decide ((wrap64 ((wrap64 (10 * a0_0)) + a0_5)) < ((rd_T44 l0_3 x3_2).f2.f1)) = true := decide_eq_true c35
             clear c35
             obtain rfl := Option.some.inj H
             have hcz36_0 : wr.cell? ⟨gb1202, 0, none⟩ = some (.int .i64 a0_0) := (blk_cell BK1202.out 0).trans rfl
             have hcz36_1 : wr.cell? ⟨gb1202, 1, none⟩ = some (.int .i64 a0_1) := (blk_cell BK1202.out 1).trans rfl
             have hcz36_2 : wr.cell? ⟨gb1202, 2, none⟩ = some (.slice A0_2 l0_2.length c0_2) := (blk_cell BK1202.out 2).trans rfl
             have hcz36_3 : wr.cell? ⟨gb1202, 3, none⟩ = some (.slice A0_3 l0_3.length c0_3) := (blk_cell BK1202.out 3).trans rfl
             have hcz36_4 : wr.cell? ⟨gb1202, 4, none⟩ = some (.int .i64 a0_4) := (blk_cell BK1202.out 4).trans rfl
             have hcz36_5 : wr.cell? ⟨gb1202, 5, none⟩ = some (.int .i64 a0_5) := (blk_cell BK1202.out 5).trans rfl
             have hfz36_0 := blk_frozen BK1202.out 0
             have hfz36_1 := blk_frozen BK1202.out 1
             have hfz36_2 := blk_frozen BK1202.out 2
             have hfz36_3 := blk_frozen BK1202.out 3
             have hfz36_4 := blk_frozen BK1202.out 4
             have hfz36_5 := blk_frozen BK1202.out 5
             have p1208 : 0 ≤ (x3_2 : Int) := od_
             have q1208 : x3_2 < (l0_3.length : Int) := od_
             obtain ⟨ad1208, e1208, hx1208_0, hx1208_1, hx1208_2, hx1208_3, hx1208_4, hx1208_5, hx1208_6⟩ := at_T44 HR0_3.out x3_2 p1208 q1208
             cases e1208
             replace hx1208_0 := (cb_ HB.out hx1208_0 :)
             replace hx1208_1 := (cb_ HB.out hx1208_1 :)
             replace hx1208_2 := (cb_ HB.out hx1208_2 :)
             replace hx1208_3 := (cb_ HB.out hx1208_3 :)
             replace hx1208_4 := (cb_ HB.out hx1208_4 :)
             replace hx1208_5 := (cb_ HB.out hx1208_5 :)
             replace hx1208_6 := (cb_ HB.out hx1208_6 :)
             replace p1208 := eq_true p1208
             replace q1208 := eq_true q1208
             go_wp2_with (first | ((with_reducible refine gate_dst (N := 4) rfl ?_); refine bx_ 4 (#[.int .i64 0, .int .i64 0, .int .i64 0, .int .i64 0, .int .i64 0, .int .i64 0, .string (⟨#[]⟩ : ByteArray)]) 44 ?_; intro gb1209 hg w37 hbox hb; have n0_ := Aside0.mk (bb_ BK1202.out hb); have n1_ := Aside0.mk (below_step (bel_) hb); have n2_ := Aside0.mk (hbox); have n3_ := Aside0.mk ((by rw [hg]; exact (below_size (bel_)) : w.heap.size ≤ gb1209)); have n4_ := Aside0.mk ((by rw [hg]; exact (below_size (bel_)) : w.heap.size ≤ gb1209)); have n5_ := Aside0.mk ((by rw [hg]; exact Nat.ne_of_lt (blk_lt (g := gb1202) (o := .cells #[.int .i64 a0_0, .int .i64 a0_1, .slice A0_2 l0_2.length c0_2, .slice (some ad1208) l0_3.length c0_3, .int .i64 a0_4, .int .i64 a0_5] 77 (0, 0)) (bp_ BK1202.out)) : gb1202 ≠ gb1209)); have n6_ := Aside0.mk ((by rw [hg]; exact Nat.ne_of_gt (blk_lt (g := gb1202) (o := .cells #[.int .i64 a0_0, .int .i64 a0_1, .slice A0_2 l0_2.length c0_2, .slice (some ad1208) l0_3.length c0_3, .int .i64 a0_4, .int .i64 a0_5] 77 (0, 0)) (bp_ BK1202.out)) : gb1209 ≠ gb1202)); clear BK1202; clear HB; have BK1202 := n0_; have HB := n1_; have BK1209 := n2_; have GW1209 := n3_; have GE1209 := n4_; have NB1202_1209 := n5_; have NB1209_1202 := n6_; clear n0_ n1_ n2_ n3_ n4_ n5_ n6_; clear hb hbox hg; have hnb38 := NB1209_1202.out; have hnc38 := NB1202_1209.out; have hcz39_0 := cz_ BK1209.out 0 (.int .i64 0); have hcz39_1 := cz_ BK1209.out 1 (.int .i64 0); have hcz39_2 := cz_ BK1209.out 2 (.int .i64 0); have hcz39_3 := cz_ BK1209.out 3 (.int .i64 0); have hcz39_4 := cz_ BK1209.out 4 (.int .i64 0); have hcz39_5 := cz_ BK1209.out 5 (.int .i64 0); have hcz39_6 := cz_ BK1209.out 6 (.string (⟨#[]⟩ : ByteArray)); have hfz39_0 := blk_frozen BK1209.out 0; have hfz39_1 := blk_frozen BK1209.out 1; have hfz39_2 := blk_frozen BK1209.out 2; have hfz39_3 := blk_frozen BK1209.out 3; have hfz39_4 := blk_frozen BK1209.out 4; have hfz39_5 := blk_frozen BK1209.out 5; have hfz39_6 := blk_frozen BK1209.out 6) | ((with_reducible refine gate_callee (f := 30) rfl ?_); refine gl_ 57 Tryd.func30 #[.agg #[.int .i64 ((rd_T44 l0_3 x3_2).f0), .int .i64 ((rd_T44 l0_3 x3_2).f1), .int .i64 ((rd_T44 l0_3 x3_2).f2.f0), .int .i64 ((rd_T44 l0_3 x3_2).f2.f1), .int .i64 ((rd_T44 l0_3 x3_2).f2.f2), .int .i64 ((rd_T44 l0_3 x3_2).f2.f3), .string ((rd_T44 l0_3 x3_2).f2.f4)]] ?_; (with_reducible refine (spec_EntryOk.calls k2 ((rd_T44 l0_3 x3_2).f0) ((rd_T44 l0_3 x3_2).f1) ((rd_T44 l0_3 x3_2).f2.f0) ((rd_T44 l0_3 x3_2).f2.f1) ((rd_T44 l0_3 x3_2).f2.f2) ((rd_T44 l0_3 x3_2).f2.f3) ((rd_T44 l0_3 x3_2).f2.f4) true _ A30.out).mono ?_); rintro e w40 ⟨rfl, hb⟩; refine ⟨_, rfl, ?_⟩; have n0_ := Aside0.mk (blk_below (g := gb1202) (o := .cells #[.int .i64 a0_0, .int .i64 a0_1, .slice A0_2 l0_2.length c0_2, .slice (some ad1208) l0_3.length c0_3, .int .i64 a0_4, .int .i64 a0_5] 77 (0, 0)) (by (with_reducible repeat (first | refine blk_drewN ?_ _ | refine blk_drew ?_ | refine blk_alloc ?_ _)); refine blk_far ?_ NB1202_1209.out _; (with_reducible repeat (first | refine blk_drewN ?_ _ | refine blk_drew ?_ | refine blk_alloc ?_ _)); refine blk_far ?_ NB1202_1209.out _; (with_reducible repeat (first | refine blk_drewN ?_ _ | refine blk_drew ?_ | refine blk_alloc ?_ _)); refine blk_far ?_ NB1202_1209.out _; (with_reducible repeat (first | refine blk_drewN ?_ _ | refine blk_drew ?_ | refine blk_alloc ?_ _)); refine blk_far ?_ NB1202_1209.out _; (with_reducible repeat (first | refine blk_drewN ?_ _ | refine blk_drew ?_ | refine blk_alloc ?_ _)); refine blk_far ?_ NB1202_1209.out _; (with_reducible repeat (first | refine blk_drewN ?_ _ | refine blk_drew ?_ | refine blk_alloc ?_ _)); refine blk_far ?_ NB1202_1209.out _; (with_reducible repeat (first | refine blk_drewN ?_ _ | refine blk_drew ?_ | refine blk_alloc ?_ _)); refine blk_far ?_ NB1202_1209.out _; (with_reducible repeat (first | refine blk_drewN ?_ _ | refine blk_drew ?_ | refine blk_alloc ?_ _)); exact BK1202.out) hb); have n1_ := Aside0.mk (blk_below (g := gb1209) (o := .cells #[.int .i64 ((rd_T44 l0_3 x3_2).f0), .int .i64 ((rd_T44 l0_3 x3_2).f1), .int .i64 ((rd_T44 l0_3 x3_2).f2.f0), .int .i64 ((rd_T44 l0_3 x3_2).f2.f1), .int .i64 ((rd_T44 l0_3 x3_2).f2.f2), .int .i64 ((rd_T44 l0_3 x3_2).f2.f3), .string ((rd_T44 l0_3 x3_2).f2.f4)] 44 (0, 0)) (by (with_reducible repeat (first | refine blk_drewN ?_ _ | refine blk_drew ?_ | refine blk_alloc ?_ _)); refine blk_put (cs := #[.int .i64 ((rd_T44 l0_3 x3_2).f0), .int .i64 ((rd_T44 l0_3 x3_2).f1), .int .i64 ((rd_T44 l0_3 x3_2).f2.f0), .int .i64 ((rd_T44 l0_3 x3_2).f2.f1), .int .i64 ((rd_T44 l0_3 x3_2).f2.f2), .int .i64 ((rd_T44 l0_3 x3_2).f2.f3), .string (⟨#[]⟩ : ByteArray)]) ?_ 6 _ rfl; (with_reducible repeat (first | refine blk_drewN ?_ _ | refine blk_drew ?_ | refine blk_alloc ?_ _)); refine blk_put (cs := #[.int .i64 ((rd_T44 l0_3 x3_2).f0), .int .i64 ((rd_T44 l0_3 x3_2).f1), .int .i64 ((rd_T44 l0_3 x3_2).f2.f0), .int .i64 ((rd_T44 l0_3 x3_2).f2.f1), .int .i64 ((rd_T44 l0_3 x3_2).f2.f2), .int .i64 0, .string (⟨#[]⟩ : ByteArray)]) ?_ 5 _ rfl; (with_reducible repeat (first | refine blk_drewN ?_ _ | refine blk_drew ?_ | refine blk_alloc ?_ _)); refine blk_put (cs := #[.int .i64 ((rd_T44 l0_3 x3_2).f0), .int .i64 ((rd_T44 l0_3 x3_2).f1), .int .i64 ((rd_T44 l0_3 x3_2).f2.f0), .int .i64 ((rd_T44 l0_3 x3_2).f2.f1), .int .i64 0, .int .i64 0, .string (⟨#[]⟩ : ByteArray)]) ?_ 4 _ rfl; (with_reducible repeat (first | refine blk_drewN ?_ _ | refine blk_drew ?_ | refine blk_alloc ?_ _)); refine blk_put (cs := #[.int .i64 ((rd_T44 l0_3 x3_2).f0), .int .i64 ((rd_T44 l0_3 x3_2).f1), .int .i64 ((rd_T44 l0_3 x3_2).f2.f0), .int .i64 0, .int .i64 0, .int .i64 0, .string (⟨#[]⟩ : ByteArray)]) ?_ 3 _ rfl; (with_reducible repeat (first | refine blk_drewN ?_ _ | refine blk_drew ?_ | refine blk_alloc ?_ _)); refine blk_put (cs := #[.int .i64 ((rd_T44 l0_3 x3_2).f0), .int .i64 ((rd_T44 l0_3 x3_2).f1), .int .i64 0, .int .i64 0, .int .i64 0, .int .i64 0, .string (⟨#[]⟩ : ByteArray)]) ?_ 2 _ rfl; (with_reducible repeat (first | refine blk_drewN ?_ _ | refine blk_drew ?_ | refine blk_alloc ?_ _)); refine blk_put (cs := #[.int .i64 ((rd_T44 l0_3 x3_2).f0), .int .i64 0, .int .i64 0, .int .i64 0, .int .i64 0, .int .i64 0, .string (⟨#[]⟩ : ByteArray)]) ?_ 1 _ rfl; (with_reducible repeat (first | refine blk_drewN ?_ _ | refine blk_drew ?_ | refine blk_alloc ?_ _)); refine blk_put (cs := #[.int .i64 0, .int .i64 0, .int .i64 0, .int .i64 0, .int .i64 0, .int .i64 0, .string (⟨#[]⟩ : ByteArray)]) ?_ 0 _ rfl; (with_reducible repeat (first | refine blk_drewN ?_ _ | refine blk_drew ?_ | refine blk_alloc ?_ _)); exact BK1209.out) hb); have n2_ := Aside0.mk (below_step (bel_) hb); clear BK1202; clear BK1209; clear HB; have BK1202 := n0_; have BK1209 := n1_; have HB := n2_; clear n0_ n1_ n2_; (try clear hb); have hcz41_0 := cz_ BK1209.out 0 (.int .i64 ((rd_T44 l0_3 x3_2).f0)); have hcz41_1 := cz_ BK1209.out 1 (.int .i64 ((rd_T44 l0_3 x3_2).f1)); have hcz41_2 := cz_ BK1209.out 2 (.int .i64 ((rd_T44 l0_3 x3_2).f2.f0)); have hcz41_3 := cz_ BK1209.out 3 (.int .i64 ((rd_T44 l0_3 x3_2).f2.f1)); have hcz41_4 := cz_ BK1209.out 4 (.int .i64 ((rd_T44 l0_3 x3_2).f2.f2)); have hcz41_5 := cz_ BK1209.out 5 (.int .i64 ((rd_T44 l0_3 x3_2).f2.f3)); have hcz41_6 := cz_ BK1209.out 6 (.string ((rd_T44 l0_3 x3_2).f2.f4)); have hfz41_0 := blk_frozen BK1209.out 0; have hfz41_1 := blk_frozen BK1209.out 1; have hfz41_2 := blk_frozen BK1209.out 2; have hfz41_3 := blk_frozen BK1209.out 3; have hfz41_4 := blk_frozen BK1209.out 4; have hfz41_5 := blk_frozen BK1209.out 5; have hfz41_6 := blk_frozen BK1209.out 6; have hcz42_0 := cz_ BK1202.out 0 (.int .i64 a0_0); have hcz42_1 := cz_ BK1202.out 1 (.int .i64 a0_1); have hcz42_2 := cz_ BK1202.out 2 (.slice A0_2 l0_2.length c0_2); have hcz42_3 := cz_ BK1202.out 3 (.slice (some ad1208) l0_3.length c0_3); have hcz42_4 := cz_ BK1202.out 4 (.int .i64 a0_4); have hcz42_5 := cz_ BK1202.out 5 (.int .i64 a0_5); have hfz42_0 := blk_frozen BK1202.out 0; have hfz42_1 := blk_frozen BK1202.out 1; have hfz42_2 := blk_frozen BK1202.out 2; have hfz42_3 := blk_frozen BK1202.out 3; have hfz42_4 := blk_frozen BK1202.out 4; have hfz42_5 := blk_frozen BK1202.out 5))
             go_ret
             exact ⟨fi_, bel_⟩
            ·rw [if_neg c35] at H
             have c35b0 : decide ((wrap64 ((wrap64 (10 * a0_0)) + a0_5)) < ((rd_T44 l0_3 x3_2).f2.f1)) = false := decide_eq_false c35
             clear c35
             have H' := Aside0.mk H
             clear H
             have hcz43_0 : wr.cell? ⟨gb1202, 0, none⟩ = some (.int .i64 a0_0) := (blk_cell BK1202.out 0).trans rfl
             have hcz43_1 : wr.cell? ⟨gb1202, 1, none⟩ = some (.int .i64 a0_1) := (blk_cell BK1202.out 1).trans rfl
             have hcz43_2 : wr.cell? ⟨gb1202, 2, none⟩ = some (.slice A0_2 l0_2.length c0_2) := (blk_cell BK1202.out 2).trans rfl
             have hcz43_3 : wr.cell? ⟨gb1202, 3, none⟩ = some (.slice A0_3 l0_3.length c0_3) := (blk_cell BK1202.out 3).trans rfl
             have hcz43_4 : wr.cell? ⟨gb1202, 4, none⟩ = some (.int .i64 a0_4) := (blk_cell BK1202.out 4).trans rfl
             have hcz43_5 : wr.cell? ⟨gb1202, 5, none⟩ = some (.int .i64 a0_5) := (blk_cell BK1202.out 5).trans rfl
             have hfz43_0 := blk_frozen BK1202.out 0
             have hfz43_1 := blk_frozen BK1202.out 1
             have hfz43_2 := blk_frozen BK1202.out 2
             have hfz43_3 := blk_frozen BK1202.out 3
             have hfz43_4 := blk_frozen BK1202.out 4
             have hfz43_5 := blk_frozen BK1202.out 5
             have p1208 : 0 ≤ (x3_2 : Int) := od_
             have q1208 : x3_2 < (l0_3.length : Int) := od_
             obtain ⟨ad1208, e1208, hx1208_0, hx1208_1, hx1208_2, hx1208_3, hx1208_4, hx1208_5, hx1208_6⟩ := at_T44 HR0_3.out x3_2 p1208 q1208
             cases e1208
             replace hx1208_0 := (cb_ HB.out hx1208_0 :)
             replace hx1208_1 := (cb_ HB.out hx1208_1 :)
             replace hx1208_2 := (cb_ HB.out hx1208_2 :)
             replace hx1208_3 := (cb_ HB.out hx1208_3 :)
             replace hx1208_4 := (cb_ HB.out hx1208_4 :)
             replace hx1208_5 := (cb_ HB.out hx1208_5 :)
             replace hx1208_6 := (cb_ HB.out hx1208_6 :)
             replace p1208 := eq_true p1208
             replace q1208 := eq_true q1208
             go_wp2_with (first | ((with_reducible refine gate_dst (N := 4) rfl ?_); refine bx_ 4 (#[.int .i64 0, .int .i64 0, .int .i64 0, .int .i64 0, .int .i64 0, .int .i64 0, .string (⟨#[]⟩ : ByteArray)]) 44 ?_; intro gb1209 hg w44 hbox hb; have n0_ := Aside0.mk (bb_ BK1202.out hb); have n1_ := Aside0.mk (below_step (bel_) hb); have n2_ := Aside0.mk (hbox); have n3_ := Aside0.mk ((by rw [hg]; exact (below_size (bel_)) : w.heap.size ≤ gb1209)); have n4_ := Aside0.mk ((by rw [hg]; exact (below_size (bel_)) : w.heap.size ≤ gb1209)); have n5_ := Aside0.mk ((by rw [hg]; exact Nat.ne_of_lt (blk_lt (g := gb1202) (o := .cells #[.int .i64 a0_0, .int .i64 a0_1, .slice A0_2 l0_2.length c0_2, .slice (some ad1208) l0_3.length c0_3, .int .i64 a0_4, .int .i64 a0_5] 77 (0, 0)) (bp_ BK1202.out)) : gb1202 ≠ gb1209)); have n6_ := Aside0.mk ((by rw [hg]; exact Nat.ne_of_gt (blk_lt (g := gb1202) (o := .cells #[.int .i64 a0_0, .int .i64 a0_1, .slice A0_2 l0_2.length c0_2, .slice (some ad1208) l0_3.length c0_3, .int .i64 a0_4, .int .i64 a0_5] 77 (0, 0)) (bp_ BK1202.out)) : gb1209 ≠ gb1202)); clear BK1202; clear HB; have BK1202 := n0_; have HB := n1_; have BK1209 := n2_; have GW1209 := n3_; have GE1209 := n4_; have NB1202_1209 := n5_; have NB1209_1202 := n6_; clear n0_ n1_ n2_ n3_ n4_ n5_ n6_; clear hb hbox hg; have hnb45 := NB1209_1202.out; have hnc45 := NB1202_1209.out; have hcz46_0 := cz_ BK1209.out 0 (.int .i64 0); have hcz46_1 := cz_ BK1209.out 1 (.int .i64 0); have hcz46_2 := cz_ BK1209.out 2 (.int .i64 0); have hcz46_3 := cz_ BK1209.out 3 (.int .i64 0); have hcz46_4 := cz_ BK1209.out 4 (.int .i64 0); have hcz46_5 := cz_ BK1209.out 5 (.int .i64 0); have hcz46_6 := cz_ BK1209.out 6 (.string (⟨#[]⟩ : ByteArray)); have hfz46_0 := blk_frozen BK1209.out 0; have hfz46_1 := blk_frozen BK1209.out 1; have hfz46_2 := blk_frozen BK1209.out 2; have hfz46_3 := blk_frozen BK1209.out 3; have hfz46_4 := blk_frozen BK1209.out 4; have hfz46_5 := blk_frozen BK1209.out 5; have hfz46_6 := blk_frozen BK1209.out 6) | ((with_reducible refine gate_callee (f := 30) rfl ?_); refine gl_ 57 Tryd.func30 #[.agg #[.int .i64 ((rd_T44 l0_3 x3_2).f0), .int .i64 ((rd_T44 l0_3 x3_2).f1), .int .i64 ((rd_T44 l0_3 x3_2).f2.f0), .int .i64 ((rd_T44 l0_3 x3_2).f2.f1), .int .i64 ((rd_T44 l0_3 x3_2).f2.f2), .int .i64 ((rd_T44 l0_3 x3_2).f2.f3), .string ((rd_T44 l0_3 x3_2).f2.f4)]] ?_; (with_reducible refine (spec_EntryOk.calls k2 ((rd_T44 l0_3 x3_2).f0) ((rd_T44 l0_3 x3_2).f1) ((rd_T44 l0_3 x3_2).f2.f0) ((rd_T44 l0_3 x3_2).f2.f1) ((rd_T44 l0_3 x3_2).f2.f2) ((rd_T44 l0_3 x3_2).f2.f3) ((rd_T44 l0_3 x3_2).f2.f4) true _ A30.out).mono ?_); rintro e w47 ⟨rfl, hb⟩; refine ⟨_, rfl, ?_⟩; have n0_ := Aside0.mk (blk_below (g := gb1202) (o := .cells #[.int .i64 a0_0, .int .i64 a0_1, .slice A0_2 l0_2.length c0_2, .slice (some ad1208) l0_3.length c0_3, .int .i64 a0_4, .int .i64 a0_5] 77 (0, 0)) (by (with_reducible repeat (first | refine blk_drewN ?_ _ | refine blk_drew ?_ | refine blk_alloc ?_ _)); refine blk_far ?_ NB1202_1209.out _; (with_reducible repeat (first | refine blk_drewN ?_ _ | refine blk_drew ?_ | refine blk_alloc ?_ _)); refine blk_far ?_ NB1202_1209.out _; (with_reducible repeat (first | refine blk_drewN ?_ _ | refine blk_drew ?_ | refine blk_alloc ?_ _)); refine blk_far ?_ NB1202_1209.out _; (with_reducible repeat (first | refine blk_drewN ?_ _ | refine blk_drew ?_ | refine blk_alloc ?_ _)); refine blk_far ?_ NB1202_1209.out _; (with_reducible repeat (first | refine blk_drewN ?_ _ | refine blk_drew ?_ | refine blk_alloc ?_ _)); refine blk_far ?_ NB1202_1209.out _; (with_reducible repeat (first | refine blk_drewN ?_ _ | refine blk_drew ?_ | refine blk_alloc ?_ _)); refine blk_far ?_ NB1202_1209.out _; (with_reducible repeat (first | refine blk_drewN ?_ _ | refine blk_drew ?_ | refine blk_alloc ?_ _)); refine blk_far ?_ NB1202_1209.out _; (with_reducible repeat (first | refine blk_drewN ?_ _ | refine blk_drew ?_ | refine blk_alloc ?_ _)); exact BK1202.out) hb); have n1_ := Aside0.mk (blk_below (g := gb1209) (o := .cells #[.int .i64 ((rd_T44 l0_3 x3_2).f0), .int .i64 ((rd_T44 l0_3 x3_2).f1), .int .i64 ((rd_T44 l0_3 x3_2).f2.f0), .int .i64 ((rd_T44 l0_3 x3_2).f2.f1), .int .i64 ((rd_T44 l0_3 x3_2).f2.f2), .int .i64 ((rd_T44 l0_3 x3_2).f2.f3), .string ((rd_T44 l0_3 x3_2).f2.f4)] 44 (0, 0)) (by (with_reducible repeat (first | refine blk_drewN ?_ _ | refine blk_drew ?_ | refine blk_alloc ?_ _)); refine blk_put (cs := #[.int .i64 ((rd_T44 l0_3 x3_2).f0), .int .i64 ((rd_T44 l0_3 x3_2).f1), .int .i64 ((rd_T44 l0_3 x3_2).f2.f0), .int .i64 ((rd_T44 l0_3 x3_2).f2.f1), .int .i64 ((rd_T44 l0_3 x3_2).f2.f2), .int .i64 ((rd_T44 l0_3 x3_2).f2.f3), .string (⟨#[]⟩ : ByteArray)]) ?_ 6 _ rfl; (with_reducible repeat (first | refine blk_drewN ?_ _ | refine blk_drew ?_ | refine blk_alloc ?_ _)); refine blk_put (cs := #[.int .i64 ((rd_T44 l0_3 x3_2).f0), .int .i64 ((rd_T44 l0_3 x3_2).f1), .int .i64 ((rd_T44 l0_3 x3_2).f2.f0), .int .i64 ((rd_T44 l0_3 x3_2).f2.f1), .int .i64 ((rd_T44 l0_3 x3_2).f2.f2), .int .i64 0, .string (⟨#[]⟩ : ByteArray)]) ?_ 5 _ rfl; (with_reducible repeat (first | refine blk_drewN ?_ _ | refine blk_drew ?_ | refine blk_alloc ?_ _)); refine blk_put (cs := #[.int .i64 ((rd_T44 l0_3 x3_2).f0), .int .i64 ((rd_T44 l0_3 x3_2).f1), .int .i64 ((rd_T44 l0_3 x3_2).f2.f0), .int .i64 ((rd_T44 l0_3 x3_2).f2.f1), .int .i64 0, .int .i64 0, .string (⟨#[]⟩ : ByteArray)]) ?_ 4 _ rfl; (with_reducible repeat (first | refine blk_drewN ?_ _ | refine blk_drew ?_ | refine blk_alloc ?_ _)); refine blk_put (cs := #[.int .i64 ((rd_T44 l0_3 x3_2).f0), .int .i64 ((rd_T44 l0_3 x3_2).f1), .int .i64 ((rd_T44 l0_3 x3_2).f2.f0), .int .i64 0, .int .i64 0, .int .i64 0, .string (⟨#[]⟩ : ByteArray)]) ?_ 3 _ rfl; (with_reducible repeat (first | refine blk_drewN ?_ _ | refine blk_drew ?_ | refine blk_alloc ?_ _)); refine blk_put (cs := #[.int .i64 ((rd_T44 l0_3 x3_2).f0), .int .i64 ((rd_T44 l0_3 x3_2).f1), .int .i64 0, .int .i64 0, .int .i64 0, .int .i64 0, .string (⟨#[]⟩ : ByteArray)]) ?_ 2 _ rfl; (with_reducible repeat (first | refine blk_drewN ?_ _ | refine blk_drew ?_ | refine blk_alloc ?_ _)); refine blk_put (cs := #[.int .i64 ((rd_T44 l0_3 x3_2).f0), .int .i64 0, .int .i64 0, .int .i64 0, .int .i64 0, .int .i64 0, .string (⟨#[]⟩ : ByteArray)]) ?_ 1 _ rfl; (with_reducible repeat (first | refine blk_drewN ?_ _ | refine blk_drew ?_ | refine blk_alloc ?_ _)); refine blk_put (cs := #[.int .i64 0, .int .i64 0, .int .i64 0, .int .i64 0, .int .i64 0, .int .i64 0, .string (⟨#[]⟩ : ByteArray)]) ?_ 0 _ rfl; (with_reducible repeat (first | refine blk_drewN ?_ _ | refine blk_drew ?_ | refine blk_alloc ?_ _)); exact BK1209.out) hb); have n2_ := Aside0.mk (below_step (bel_) hb); clear BK1202; clear BK1209; clear HB; have BK1202 := n0_; have BK1209 := n1_; have HB := n2_; clear n0_ n1_ n2_; (try clear hb); have hcz48_0 := cz_ BK1209.out 0 (.int .i64 ((rd_T44 l0_3 x3_2).f0)); have hcz48_1 := cz_ BK1209.out 1 (.int .i64 ((rd_T44 l0_3 x3_2).f1)); have hcz48_2 := cz_ BK1209.out 2 (.int .i64 ((rd_T44 l0_3 x3_2).f2.f0)); have hcz48_3 := cz_ BK1209.out 3 (.int .i64 ((rd_T44 l0_3 x3_2).f2.f1)); have hcz48_4 := cz_ BK1209.out 4 (.int .i64 ((rd_T44 l0_3 x3_2).f2.f2)); have hcz48_5 := cz_ BK1209.out 5 (.int .i64 ((rd_T44 l0_3 x3_2).f2.f3)); have hcz48_6 := cz_ BK1209.out 6 (.string ((rd_T44 l0_3 x3_2).f2.f4)); have hfz48_0 := blk_frozen BK1209.out 0; have hfz48_1 := blk_frozen BK1209.out 1; have hfz48_2 := blk_frozen BK1209.out 2; have hfz48_3 := blk_frozen BK1209.out 3; have hfz48_4 := blk_frozen BK1209.out 4; have hfz48_5 := blk_frozen BK1209.out 5; have hfz48_6 := blk_frozen BK1209.out 6; have hcz49_0 := cz_ BK1202.out 0 (.int .i64 a0_0); have hcz49_1 := cz_ BK1202.out 1 (.int .i64 a0_1); have hcz49_2 := cz_ BK1202.out 2 (.slice A0_2 l0_2.length c0_2); have hcz49_3 := cz_ BK1202.out 3 (.slice (some ad1208) l0_3.length c0_3); have hcz49_4 := cz_ BK1202.out 4 (.int .i64 a0_4); have hcz49_5 := cz_ BK1202.out 5 (.int .i64 a0_5); have hfz49_0 := blk_frozen BK1202.out 0; have hfz49_1 := blk_frozen BK1202.out 1; have hfz49_2 := blk_frozen BK1202.out 2; have hfz49_3 := blk_frozen BK1202.out 3; have hfz49_4 := blk_frozen BK1202.out 4; have hfz49_5 := blk_frozen BK1202.out 5))
             go_roundg k2
             case measure => have := HJ1.out; have := HK2.out; omega
             case rel => exact ⟨(wrap64 (x3_2 + 1)), (si_), H', ⟨by have := HJ1.out; have := HK2.out; omega⟩, ⟨by (with_reducible repeat (first | refine blk_drewN ?_ _ | refine blk_drew ?_ | refine blk_alloc ?_ _)); exact BK1202.out⟩, ⟨bel_⟩⟩
           ·rw [if_neg c34] at H
            have c34b0 : (((rd_T44 l0_3 x3_2).f2.f0) == 1) = false := beq_eq_false_iff_ne.mpr c34
            have c34b1 : (((rd_T44 l0_3 x3_2).f2.f0) != 1) = true := bne_iff_ne.mpr c34
            have H' := Aside0.mk H
            clear H
            have hcz50_0 : wr.cell? ⟨gb1202, 0, none⟩ = some (.int .i64 a0_0) := (blk_cell BK1202.out 0).trans rfl
            have hcz50_1 : wr.cell? ⟨gb1202, 1, none⟩ = some (.int .i64 a0_1) := (blk_cell BK1202.out 1).trans rfl
            have hcz50_2 : wr.cell? ⟨gb1202, 2, none⟩ = some (.slice A0_2 l0_2.length c0_2) := (blk_cell BK1202.out 2).trans rfl
            have hcz50_3 : wr.cell? ⟨gb1202, 3, none⟩ = some (.slice A0_3 l0_3.length c0_3) := (blk_cell BK1202.out 3).trans rfl
            have hcz50_4 : wr.cell? ⟨gb1202, 4, none⟩ = some (.int .i64 a0_4) := (blk_cell BK1202.out 4).trans rfl
            have hcz50_5 : wr.cell? ⟨gb1202, 5, none⟩ = some (.int .i64 a0_5) := (blk_cell BK1202.out 5).trans rfl
            have hfz50_0 := blk_frozen BK1202.out 0
            have hfz50_1 := blk_frozen BK1202.out 1
            have hfz50_2 := blk_frozen BK1202.out 2
            have hfz50_3 := blk_frozen BK1202.out 3
            have hfz50_4 := blk_frozen BK1202.out 4
            have hfz50_5 := blk_frozen BK1202.out 5
            have p1208 : 0 ≤ (x3_2 : Int) := od_
            have q1208 : x3_2 < (l0_3.length : Int) := od_
            obtain ⟨ad1208, e1208, hx1208_0, hx1208_1, hx1208_2, hx1208_3, hx1208_4, hx1208_5, hx1208_6⟩ := at_T44 HR0_3.out x3_2 p1208 q1208
            cases e1208
            replace hx1208_0 := (cb_ HB.out hx1208_0 :)
            replace hx1208_1 := (cb_ HB.out hx1208_1 :)
            replace hx1208_2 := (cb_ HB.out hx1208_2 :)
            replace hx1208_3 := (cb_ HB.out hx1208_3 :)
            replace hx1208_4 := (cb_ HB.out hx1208_4 :)
            replace hx1208_5 := (cb_ HB.out hx1208_5 :)
            replace hx1208_6 := (cb_ HB.out hx1208_6 :)
            replace p1208 := eq_true p1208
            replace q1208 := eq_true q1208
            go_wp2_with (first | ((with_reducible refine gate_dst (N := 4) rfl ?_); refine bx_ 4 (#[.int .i64 0, .int .i64 0, .int .i64 0, .int .i64 0, .int .i64 0, .int .i64 0, .string (⟨#[]⟩ : ByteArray)]) 44 ?_; intro gb1209 hg w51 hbox hb; have n0_ := Aside0.mk (bb_ BK1202.out hb); have n1_ := Aside0.mk (below_step (bel_) hb); have n2_ := Aside0.mk (hbox); have n3_ := Aside0.mk ((by rw [hg]; exact (below_size (bel_)) : w.heap.size ≤ gb1209)); have n4_ := Aside0.mk ((by rw [hg]; exact (below_size (bel_)) : w.heap.size ≤ gb1209)); have n5_ := Aside0.mk ((by rw [hg]; exact Nat.ne_of_lt (blk_lt (g := gb1202) (o := .cells #[.int .i64 a0_0, .int .i64 a0_1, .slice A0_2 l0_2.length c0_2, .slice (some ad1208) l0_3.length c0_3, .int .i64 a0_4, .int .i64 a0_5] 77 (0, 0)) (bp_ BK1202.out)) : gb1202 ≠ gb1209)); have n6_ := Aside0.mk ((by rw [hg]; exact Nat.ne_of_gt (blk_lt (g := gb1202) (o := .cells #[.int .i64 a0_0, .int .i64 a0_1, .slice A0_2 l0_2.length c0_2, .slice (some ad1208) l0_3.length c0_3, .int .i64 a0_4, .int .i64 a0_5] 77 (0, 0)) (bp_ BK1202.out)) : gb1209 ≠ gb1202)); clear BK1202; clear HB; have BK1202 := n0_; have HB := n1_; have BK1209 := n2_; have GW1209 := n3_; have GE1209 := n4_; have NB1202_1209 := n5_; have NB1209_1202 := n6_; clear n0_ n1_ n2_ n3_ n4_ n5_ n6_; clear hb hbox hg; have hnb52 := NB1209_1202.out; have hnc52 := NB1202_1209.out; have hcz53_0 := cz_ BK1209.out 0 (.int .i64 0); have hcz53_1 := cz_ BK1209.out 1 (.int .i64 0); have hcz53_2 := cz_ BK1209.out 2 (.int .i64 0); have hcz53_3 := cz_ BK1209.out 3 (.int .i64 0); have hcz53_4 := cz_ BK1209.out 4 (.int .i64 0); have hcz53_5 := cz_ BK1209.out 5 (.int .i64 0); have hcz53_6 := cz_ BK1209.out 6 (.string (⟨#[]⟩ : ByteArray)); have hfz53_0 := blk_frozen BK1209.out 0; have hfz53_1 := blk_frozen BK1209.out 1; have hfz53_2 := blk_frozen BK1209.out 2; have hfz53_3 := blk_frozen BK1209.out 3; have hfz53_4 := blk_frozen BK1209.out 4; have hfz53_5 := blk_frozen BK1209.out 5; have hfz53_6 := blk_frozen BK1209.out 6) | ((with_reducible refine gate_callee (f := 30) rfl ?_); refine gl_ 57 Tryd.func30 #[.agg #[.int .i64 ((rd_T44 l0_3 x3_2).f0), .int .i64 ((rd_T44 l0_3 x3_2).f1), .int .i64 ((rd_T44 l0_3 x3_2).f2.f0), .int .i64 ((rd_T44 l0_3 x3_2).f2.f1), .int .i64 ((rd_T44 l0_3 x3_2).f2.f2), .int .i64 ((rd_T44 l0_3 x3_2).f2.f3), .string ((rd_T44 l0_3 x3_2).f2.f4)]] ?_; (with_reducible refine (spec_EntryOk.calls k2 ((rd_T44 l0_3 x3_2).f0) ((rd_T44 l0_3 x3_2).f1) ((rd_T44 l0_3 x3_2).f2.f0) ((rd_T44 l0_3 x3_2).f2.f1) ((rd_T44 l0_3 x3_2).f2.f2) ((rd_T44 l0_3 x3_2).f2.f3) ((rd_T44 l0_3 x3_2).f2.f4) true _ A30.out).mono ?_); rintro e w54 ⟨rfl, hb⟩; refine ⟨_, rfl, ?_⟩; have n0_ := Aside0.mk (blk_below (g := gb1202) (o := .cells #[.int .i64 a0_0, .int .i64 a0_1, .slice A0_2 l0_2.length c0_2, .slice (some ad1208) l0_3.length c0_3, .int .i64 a0_4, .int .i64 a0_5] 77 (0, 0)) (by (with_reducible repeat (first | refine blk_drewN ?_ _ | refine blk_drew ?_ | refine blk_alloc ?_ _)); refine blk_far ?_ NB1202_1209.out _; (with_reducible repeat (first | refine blk_drewN ?_ _ | refine blk_drew ?_ | refine blk_alloc ?_ _)); refine blk_far ?_ NB1202_1209.out _; (with_reducible repeat (first | refine blk_drewN ?_ _ | refine blk_drew ?_ | refine blk_alloc ?_ _)); refine blk_far ?_ NB1202_1209.out _; (with_reducible repeat (first | refine blk_drewN ?_ _ | refine blk_drew ?_ | refine blk_alloc ?_ _)); refine blk_far ?_ NB1202_1209.out _; (with_reducible repeat (first | refine blk_drewN ?_ _ | refine blk_drew ?_ | refine blk_alloc ?_ _)); refine blk_far ?_ NB1202_1209.out _; (with_reducible repeat (first | refine blk_drewN ?_ _ | refine blk_drew ?_ | refine blk_alloc ?_ _)); refine blk_far ?_ NB1202_1209.out _; (with_reducible repeat (first | refine blk_drewN ?_ _ | refine blk_drew ?_ | refine blk_alloc ?_ _)); refine blk_far ?_ NB1202_1209.out _; (with_reducible repeat (first | refine blk_drewN ?_ _ | refine blk_drew ?_ | refine blk_alloc ?_ _)); exact BK1202.out) hb); have n1_ := Aside0.mk (blk_below (g := gb1209) (o := .cells #[.int .i64 ((rd_T44 l0_3 x3_2).f0), .int .i64 ((rd_T44 l0_3 x3_2).f1), .int .i64 ((rd_T44 l0_3 x3_2).f2.f0), .int .i64 ((rd_T44 l0_3 x3_2).f2.f1), .int .i64 ((rd_T44 l0_3 x3_2).f2.f2), .int .i64 ((rd_T44 l0_3 x3_2).f2.f3), .string ((rd_T44 l0_3 x3_2).f2.f4)] 44 (0, 0)) (by (with_reducible repeat (first | refine blk_drewN ?_ _ | refine blk_drew ?_ | refine blk_alloc ?_ _)); refine blk_put (cs := #[.int .i64 ((rd_T44 l0_3 x3_2).f0), .int .i64 ((rd_T44 l0_3 x3_2).f1), .int .i64 ((rd_T44 l0_3 x3_2).f2.f0), .int .i64 ((rd_T44 l0_3 x3_2).f2.f1), .int .i64 ((rd_T44 l0_3 x3_2).f2.f2), .int .i64 ((rd_T44 l0_3 x3_2).f2.f3), .string (⟨#[]⟩ : ByteArray)]) ?_ 6 _ rfl; (with_reducible repeat (first | refine blk_drewN ?_ _ | refine blk_drew ?_ | refine blk_alloc ?_ _)); refine blk_put (cs := #[.int .i64 ((rd_T44 l0_3 x3_2).f0), .int .i64 ((rd_T44 l0_3 x3_2).f1), .int .i64 ((rd_T44 l0_3 x3_2).f2.f0), .int .i64 ((rd_T44 l0_3 x3_2).f2.f1), .int .i64 ((rd_T44 l0_3 x3_2).f2.f2), .int .i64 0, .string (⟨#[]⟩ : ByteArray)]) ?_ 5 _ rfl; (with_reducible repeat (first | refine blk_drewN ?_ _ | refine blk_drew ?_ | refine blk_alloc ?_ _)); refine blk_put (cs := #[.int .i64 ((rd_T44 l0_3 x3_2).f0), .int .i64 ((rd_T44 l0_3 x3_2).f1), .int .i64 ((rd_T44 l0_3 x3_2).f2.f0), .int .i64 ((rd_T44 l0_3 x3_2).f2.f1), .int .i64 0, .int .i64 0, .string (⟨#[]⟩ : ByteArray)]) ?_ 4 _ rfl; (with_reducible repeat (first | refine blk_drewN ?_ _ | refine blk_drew ?_ | refine blk_alloc ?_ _)); refine blk_put (cs := #[.int .i64 ((rd_T44 l0_3 x3_2).f0), .int .i64 ((rd_T44 l0_3 x3_2).f1), .int .i64 ((rd_T44 l0_3 x3_2).f2.f0), .int .i64 0, .int .i64 0, .int .i64 0, .string (⟨#[]⟩ : ByteArray)]) ?_ 3 _ rfl; (with_reducible repeat (first | refine blk_drewN ?_ _ | refine blk_drew ?_ | refine blk_alloc ?_ _)); refine blk_put (cs := #[.int .i64 ((rd_T44 l0_3 x3_2).f0), .int .i64 ((rd_T44 l0_3 x3_2).f1), .int .i64 0, .int .i64 0, .int .i64 0, .int .i64 0, .string (⟨#[]⟩ : ByteArray)]) ?_ 2 _ rfl; (with_reducible repeat (first | refine blk_drewN ?_ _ | refine blk_drew ?_ | refine blk_alloc ?_ _)); refine blk_put (cs := #[.int .i64 ((rd_T44 l0_3 x3_2).f0), .int .i64 0, .int .i64 0, .int .i64 0, .int .i64 0, .int .i64 0, .string (⟨#[]⟩ : ByteArray)]) ?_ 1 _ rfl; (with_reducible repeat (first | refine blk_drewN ?_ _ | refine blk_drew ?_ | refine blk_alloc ?_ _)); refine blk_put (cs := #[.int .i64 0, .int .i64 0, .int .i64 0, .int .i64 0, .int .i64 0, .int .i64 0, .string (⟨#[]⟩ : ByteArray)]) ?_ 0 _ rfl; (with_reducible repeat (first | refine blk_drewN ?_ _ | refine blk_drew ?_ | refine blk_alloc ?_ _)); exact BK1209.out) hb); have n2_ := Aside0.mk (below_step (bel_) hb); clear BK1202; clear BK1209; clear HB; have BK1202 := n0_; have BK1209 := n1_; have HB := n2_; clear n0_ n1_ n2_; (try clear hb); have hcz55_0 := cz_ BK1209.out 0 (.int .i64 ((rd_T44 l0_3 x3_2).f0)); have hcz55_1 := cz_ BK1209.out 1 (.int .i64 ((rd_T44 l0_3 x3_2).f1)); have hcz55_2 := cz_ BK1209.out 2 (.int .i64 ((rd_T44 l0_3 x3_2).f2.f0)); have hcz55_3 := cz_ BK1209.out 3 (.int .i64 ((rd_T44 l0_3 x3_2).f2.f1)); have hcz55_4 := cz_ BK1209.out 4 (.int .i64 ((rd_T44 l0_3 x3_2).f2.f2)); have hcz55_5 := cz_ BK1209.out 5 (.int .i64 ((rd_T44 l0_3 x3_2).f2.f3)); have hcz55_6 := cz_ BK1209.out 6 (.string ((rd_T44 l0_3 x3_2).f2.f4)); have hfz55_0 := blk_frozen BK1209.out 0; have hfz55_1 := blk_frozen BK1209.out 1; have hfz55_2 := blk_frozen BK1209.out 2; have hfz55_3 := blk_frozen BK1209.out 3; have hfz55_4 := blk_frozen BK1209.out 4; have hfz55_5 := blk_frozen BK1209.out 5; have hfz55_6 := blk_frozen BK1209.out 6; have hcz56_0 := cz_ BK1202.out 0 (.int .i64 a0_0); have hcz56_1 := cz_ BK1202.out 1 (.int .i64 a0_1); have hcz56_2 := cz_ BK1202.out 2 (.slice A0_2 l0_2.length c0_2); have hcz56_3 := cz_ BK1202.out 3 (.slice (some ad1208) l0_3.length c0_3); have hcz56_4 := cz_ BK1202.out 4 (.int .i64 a0_4); have hcz56_5 := cz_ BK1202.out 5 (.int .i64 a0_5); have hfz56_0 := blk_frozen BK1202.out 0; have hfz56_1 := blk_frozen BK1202.out 1; have hfz56_2 := blk_frozen BK1202.out 2; have hfz56_3 := blk_frozen BK1202.out 3; have hfz56_4 := blk_frozen BK1202.out 4; have hfz56_5 := blk_frozen BK1202.out 5))
            go_roundg k2
            case measure => have := HJ1.out; have := HK2.out; omega
            case rel => exact ⟨(wrap64 (x3_2 + 1)), (si_), H', ⟨by have := HJ1.out; have := HK2.out; omega⟩, ⟨by (with_reducible repeat (first | refine blk_drewN ?_ _ | refine blk_drew ?_ | refine blk_alloc ?_ _)); exact BK1202.out⟩, ⟨bel_⟩⟩
          ·rw [if_neg c33] at H
           have c33b0 : (((rd_T44 l0_3 x3_2).f1) == (wrap64 ((wrap64 (a0_4 + x3_2)) + 1))) = false := beq_eq_false_iff_ne.mpr c33
           have c33b1 : (((rd_T44 l0_3 x3_2).f1) != (wrap64 ((wrap64 (a0_4 + x3_2)) + 1))) = true := bne_iff_ne.mpr c33
           obtain rfl := Option.some.inj H
           have hcz57_0 : wr.cell? ⟨gb1202, 0, none⟩ = some (.int .i64 a0_0) := (blk_cell BK1202.out 0).trans rfl
           have hcz57_1 : wr.cell? ⟨gb1202, 1, none⟩ = some (.int .i64 a0_1) := (blk_cell BK1202.out 1).trans rfl
           have hcz57_2 : wr.cell? ⟨gb1202, 2, none⟩ = some (.slice A0_2 l0_2.length c0_2) := (blk_cell BK1202.out 2).trans rfl
           have hcz57_3 : wr.cell? ⟨gb1202, 3, none⟩ = some (.slice A0_3 l0_3.length c0_3) := (blk_cell BK1202.out 3).trans rfl
           have hcz57_4 : wr.cell? ⟨gb1202, 4, none⟩ = some (.int .i64 a0_4) := (blk_cell BK1202.out 4).trans rfl
           have hcz57_5 : wr.cell? ⟨gb1202, 5, none⟩ = some (.int .i64 a0_5) := (blk_cell BK1202.out 5).trans rfl
           have hfz57_0 := blk_frozen BK1202.out 0
           have hfz57_1 := blk_frozen BK1202.out 1
           have hfz57_2 := blk_frozen BK1202.out 2
           have hfz57_3 := blk_frozen BK1202.out 3
           have hfz57_4 := blk_frozen BK1202.out 4
           have hfz57_5 := blk_frozen BK1202.out 5
           have p1208 : 0 ≤ (x3_2 : Int) := od_
           have q1208 : x3_2 < (l0_3.length : Int) := od_
           obtain ⟨ad1208, e1208, hx1208_0, hx1208_1, hx1208_2, hx1208_3, hx1208_4, hx1208_5, hx1208_6⟩ := at_T44 HR0_3.out x3_2 p1208 q1208
           cases e1208
           replace hx1208_0 := (cb_ HB.out hx1208_0 :)
           replace hx1208_1 := (cb_ HB.out hx1208_1 :)
           replace hx1208_2 := (cb_ HB.out hx1208_2 :)
           replace hx1208_3 := (cb_ HB.out hx1208_3 :)
           replace hx1208_4 := (cb_ HB.out hx1208_4 :)
           replace hx1208_5 := (cb_ HB.out hx1208_5 :)
           replace hx1208_6 := (cb_ HB.out hx1208_6 :)
           replace p1208 := eq_true p1208
           replace q1208 := eq_true q1208
           go_wp2_with (first | ((with_reducible refine gate_dst (N := 4) rfl ?_); refine bx_ 4 (#[.int .i64 0, .int .i64 0, .int .i64 0, .int .i64 0, .int .i64 0, .int .i64 0, .string (⟨#[]⟩ : ByteArray)]) 44 ?_; intro gb1209 hg w58 hbox hb; have n0_ := Aside0.mk (bb_ BK1202.out hb); have n1_ := Aside0.mk (below_step (bel_) hb); have n2_ := Aside0.mk (hbox); have n3_ := Aside0.mk ((by rw [hg]; exact (below_size (bel_)) : w.heap.size ≤ gb1209)); have n4_ := Aside0.mk ((by rw [hg]; exact (below_size (bel_)) : w.heap.size ≤ gb1209)); have n5_ := Aside0.mk ((by rw [hg]; exact Nat.ne_of_lt (blk_lt (g := gb1202) (o := .cells #[.int .i64 a0_0, .int .i64 a0_1, .slice A0_2 l0_2.length c0_2, .slice (some ad1208) l0_3.length c0_3, .int .i64 a0_4, .int .i64 a0_5] 77 (0, 0)) (bp_ BK1202.out)) : gb1202 ≠ gb1209)); have n6_ := Aside0.mk ((by rw [hg]; exact Nat.ne_of_gt (blk_lt (g := gb1202) (o := .cells #[.int .i64 a0_0, .int .i64 a0_1, .slice A0_2 l0_2.length c0_2, .slice (some ad1208) l0_3.length c0_3, .int .i64 a0_4, .int .i64 a0_5] 77 (0, 0)) (bp_ BK1202.out)) : gb1209 ≠ gb1202)); clear BK1202; clear HB; have BK1202 := n0_; have HB := n1_; have BK1209 := n2_; have GW1209 := n3_; have GE1209 := n4_; have NB1202_1209 := n5_; have NB1209_1202 := n6_; clear n0_ n1_ n2_ n3_ n4_ n5_ n6_; clear hb hbox hg; have hnb59 := NB1209_1202.out; have hnc59 := NB1202_1209.out; have hcz60_0 := cz_ BK1209.out 0 (.int .i64 0); have hcz60_1 := cz_ BK1209.out 1 (.int .i64 0); have hcz60_2 := cz_ BK1209.out 2 (.int .i64 0); have hcz60_3 := cz_ BK1209.out 3 (.int .i64 0); have hcz60_4 := cz_ BK1209.out 4 (.int .i64 0); have hcz60_5 := cz_ BK1209.out 5 (.int .i64 0); have hcz60_6 := cz_ BK1209.out 6 (.string (⟨#[]⟩ : ByteArray)); have hfz60_0 := blk_frozen BK1209.out 0; have hfz60_1 := blk_frozen BK1209.out 1; have hfz60_2 := blk_frozen BK1209.out 2; have hfz60_3 := blk_frozen BK1209.out 3; have hfz60_4 := blk_frozen BK1209.out 4; have hfz60_5 := blk_frozen BK1209.out 5; have hfz60_6 := blk_frozen BK1209.out 6) | ((with_reducible refine gate_callee (f := 30) rfl ?_); refine gl_ 57 Tryd.func30 #[.agg #[.int .i64 ((rd_T44 l0_3 x3_2).f0), .int .i64 ((rd_T44 l0_3 x3_2).f1), .int .i64 ((rd_T44 l0_3 x3_2).f2.f0), .int .i64 ((rd_T44 l0_3 x3_2).f2.f1), .int .i64 ((rd_T44 l0_3 x3_2).f2.f2), .int .i64 ((rd_T44 l0_3 x3_2).f2.f3), .string ((rd_T44 l0_3 x3_2).f2.f4)]] ?_; (with_reducible refine (spec_EntryOk.calls k2 ((rd_T44 l0_3 x3_2).f0) ((rd_T44 l0_3 x3_2).f1) ((rd_T44 l0_3 x3_2).f2.f0) ((rd_T44 l0_3 x3_2).f2.f1) ((rd_T44 l0_3 x3_2).f2.f2) ((rd_T44 l0_3 x3_2).f2.f3) ((rd_T44 l0_3 x3_2).f2.f4) true _ A30.out).mono ?_); rintro e w61 ⟨rfl, hb⟩; refine ⟨_, rfl, ?_⟩; have n0_ := Aside0.mk (blk_below (g := gb1202) (o := .cells #[.int .i64 a0_0, .int .i64 a0_1, .slice A0_2 l0_2.length c0_2, .slice (some ad1208) l0_3.length c0_3, .int .i64 a0_4, .int .i64 a0_5] 77 (0, 0)) (by (with_reducible repeat (first | refine blk_drewN ?_ _ | refine blk_drew ?_ | refine blk_alloc ?_ _)); refine blk_far ?_ NB1202_1209.out _; (with_reducible repeat (first | refine blk_drewN ?_ _ | refine blk_drew ?_ | refine blk_alloc ?_ _)); refine blk_far ?_ NB1202_1209.out _; (with_reducible repeat (first | refine blk_drewN ?_ _ | refine blk_drew ?_ | refine blk_alloc ?_ _)); refine blk_far ?_ NB1202_1209.out _; (with_reducible repeat (first | refine blk_drewN ?_ _ | refine blk_drew ?_ | refine blk_alloc ?_ _)); refine blk_far ?_ NB1202_1209.out _; (with_reducible repeat (first | refine blk_drewN ?_ _ | refine blk_drew ?_ | refine blk_alloc ?_ _)); refine blk_far ?_ NB1202_1209.out _; (with_reducible repeat (first | refine blk_drewN ?_ _ | refine blk_drew ?_ | refine blk_alloc ?_ _)); refine blk_far ?_ NB1202_1209.out _; (with_reducible repeat (first | refine blk_drewN ?_ _ | refine blk_drew ?_ | refine blk_alloc ?_ _)); refine blk_far ?_ NB1202_1209.out _; (with_reducible repeat (first | refine blk_drewN ?_ _ | refine blk_drew ?_ | refine blk_alloc ?_ _)); exact BK1202.out) hb); have n1_ := Aside0.mk (blk_below (g := gb1209) (o := .cells #[.int .i64 ((rd_T44 l0_3 x3_2).f0), .int .i64 ((rd_T44 l0_3 x3_2).f1), .int .i64 ((rd_T44 l0_3 x3_2).f2.f0), .int .i64 ((rd_T44 l0_3 x3_2).f2.f1), .int .i64 ((rd_T44 l0_3 x3_2).f2.f2), .int .i64 ((rd_T44 l0_3 x3_2).f2.f3), .string ((rd_T44 l0_3 x3_2).f2.f4)] 44 (0, 0)) (by (with_reducible repeat (first | refine blk_drewN ?_ _ | refine blk_drew ?_ | refine blk_alloc ?_ _)); refine blk_put (cs := #[.int .i64 ((rd_T44 l0_3 x3_2).f0), .int .i64 ((rd_T44 l0_3 x3_2).f1), .int .i64 ((rd_T44 l0_3 x3_2).f2.f0), .int .i64 ((rd_T44 l0_3 x3_2).f2.f1), .int .i64 ((rd_T44 l0_3 x3_2).f2.f2), .int .i64 ((rd_T44 l0_3 x3_2).f2.f3), .string (⟨#[]⟩ : ByteArray)]) ?_ 6 _ rfl; (with_reducible repeat (first | refine blk_drewN ?_ _ | refine blk_drew ?_ | refine blk_alloc ?_ _)); refine blk_put (cs := #[.int .i64 ((rd_T44 l0_3 x3_2).f0), .int .i64 ((rd_T44 l0_3 x3_2).f1), .int .i64 ((rd_T44 l0_3 x3_2).f2.f0), .int .i64 ((rd_T44 l0_3 x3_2).f2.f1), .int .i64 ((rd_T44 l0_3 x3_2).f2.f2), .int .i64 0, .string (⟨#[]⟩ : ByteArray)]) ?_ 5 _ rfl; (with_reducible repeat (first | refine blk_drewN ?_ _ | refine blk_drew ?_ | refine blk_alloc ?_ _)); refine blk_put (cs := #[.int .i64 ((rd_T44 l0_3 x3_2).f0), .int .i64 ((rd_T44 l0_3 x3_2).f1), .int .i64 ((rd_T44 l0_3 x3_2).f2.f0), .int .i64 ((rd_T44 l0_3 x3_2).f2.f1), .int .i64 0, .int .i64 0, .string (⟨#[]⟩ : ByteArray)]) ?_ 4 _ rfl; (with_reducible repeat (first | refine blk_drewN ?_ _ | refine blk_drew ?_ | refine blk_alloc ?_ _)); refine blk_put (cs := #[.int .i64 ((rd_T44 l0_3 x3_2).f0), .int .i64 ((rd_T44 l0_3 x3_2).f1), .int .i64 ((rd_T44 l0_3 x3_2).f2.f0), .int .i64 0, .int .i64 0, .int .i64 0, .string (⟨#[]⟩ : ByteArray)]) ?_ 3 _ rfl; (with_reducible repeat (first | refine blk_drewN ?_ _ | refine blk_drew ?_ | refine blk_alloc ?_ _)); refine blk_put (cs := #[.int .i64 ((rd_T44 l0_3 x3_2).f0), .int .i64 ((rd_T44 l0_3 x3_2).f1), .int .i64 0, .int .i64 0, .int .i64 0, .int .i64 0, .string (⟨#[]⟩ : ByteArray)]) ?_ 2 _ rfl; (with_reducible repeat (first | refine blk_drewN ?_ _ | refine blk_drew ?_ | refine blk_alloc ?_ _)); refine blk_put (cs := #[.int .i64 ((rd_T44 l0_3 x3_2).f0), .int .i64 0, .int .i64 0, .int .i64 0, .int .i64 0, .int .i64 0, .string (⟨#[]⟩ : ByteArray)]) ?_ 1 _ rfl; (with_reducible repeat (first | refine blk_drewN ?_ _ | refine blk_drew ?_ | refine blk_alloc ?_ _)); refine blk_put (cs := #[.int .i64 0, .int .i64 0, .int .i64 0, .int .i64 0, .int .i64 0, .int .i64 0, .string (⟨#[]⟩ : ByteArray)]) ?_ 0 _ rfl; (with_reducible repeat (first | refine blk_drewN ?_ _ | refine blk_drew ?_ | refine blk_alloc ?_ _)); exact BK1209.out) hb); have n2_ := Aside0.mk (below_step (bel_) hb); clear BK1202; clear BK1209; clear HB; have BK1202 := n0_; have BK1209 := n1_; have HB := n2_; clear n0_ n1_ n2_; (try clear hb); have hcz62_0 := cz_ BK1209.out 0 (.int .i64 ((rd_T44 l0_3 x3_2).f0)); have hcz62_1 := cz_ BK1209.out 1 (.int .i64 ((rd_T44 l0_3 x3_2).f1)); have hcz62_2 := cz_ BK1209.out 2 (.int .i64 ((rd_T44 l0_3 x3_2).f2.f0)); have hcz62_3 := cz_ BK1209.out 3 (.int .i64 ((rd_T44 l0_3 x3_2).f2.f1)); have hcz62_4 := cz_ BK1209.out 4 (.int .i64 ((rd_T44 l0_3 x3_2).f2.f2)); have hcz62_5 := cz_ BK1209.out 5 (.int .i64 ((rd_T44 l0_3 x3_2).f2.f3)); have hcz62_6 := cz_ BK1209.out 6 (.string ((rd_T44 l0_3 x3_2).f2.f4)); have hfz62_0 := blk_frozen BK1209.out 0; have hfz62_1 := blk_frozen BK1209.out 1; have hfz62_2 := blk_frozen BK1209.out 2; have hfz62_3 := blk_frozen BK1209.out 3; have hfz62_4 := blk_frozen BK1209.out 4; have hfz62_5 := blk_frozen BK1209.out 5; have hfz62_6 := blk_frozen BK1209.out 6; have hcz63_0 := cz_ BK1202.out 0 (.int .i64 a0_0); have hcz63_1 := cz_ BK1202.out 1 (.int .i64 a0_1); have hcz63_2 := cz_ BK1202.out 2 (.slice A0_2 l0_2.length c0_2); have hcz63_3 := cz_ BK1202.out 3 (.slice (some ad1208) l0_3.length c0_3); have hcz63_4 := cz_ BK1202.out 4 (.int .i64 a0_4); have hcz63_5 := cz_ BK1202.out 5 (.int .i64 a0_5); have hfz63_0 := blk_frozen BK1202.out 0; have hfz63_1 := blk_frozen BK1202.out 1; have hfz63_2 := blk_frozen BK1202.out 2; have hfz63_3 := blk_frozen BK1202.out 3; have hfz63_4 := blk_frozen BK1202.out 4; have hfz63_5 := blk_frozen BK1202.out 5))
           go_ret
           exact ⟨fi_, bel_⟩
         ·rw [if_neg c32] at H
          have c32b0 : (((rd_T44 l0_3 x3_2).f0) == a0_0) = false := beq_eq_false_iff_ne.mpr c32
          have c32b1 : (((rd_T44 l0_3 x3_2).f0) != a0_0) = true := bne_iff_ne.mpr c32
          obtain rfl := Option.some.inj H
          have hcz64_0 : wr.cell? ⟨gb1202, 0, none⟩ = some (.int .i64 a0_0) := (blk_cell BK1202.out 0).trans rfl
          have hcz64_1 : wr.cell? ⟨gb1202, 1, none⟩ = some (.int .i64 a0_1) := (blk_cell BK1202.out 1).trans rfl
          have hcz64_2 : wr.cell? ⟨gb1202, 2, none⟩ = some (.slice A0_2 l0_2.length c0_2) := (blk_cell BK1202.out 2).trans rfl
          have hcz64_3 : wr.cell? ⟨gb1202, 3, none⟩ = some (.slice A0_3 l0_3.length c0_3) := (blk_cell BK1202.out 3).trans rfl
          have hcz64_4 : wr.cell? ⟨gb1202, 4, none⟩ = some (.int .i64 a0_4) := (blk_cell BK1202.out 4).trans rfl
          have hcz64_5 : wr.cell? ⟨gb1202, 5, none⟩ = some (.int .i64 a0_5) := (blk_cell BK1202.out 5).trans rfl
          have hfz64_0 := blk_frozen BK1202.out 0
          have hfz64_1 := blk_frozen BK1202.out 1
          have hfz64_2 := blk_frozen BK1202.out 2
          have hfz64_3 := blk_frozen BK1202.out 3
          have hfz64_4 := blk_frozen BK1202.out 4
          have hfz64_5 := blk_frozen BK1202.out 5
          have p1208 : 0 ≤ (x3_2 : Int) := od_
          have q1208 : x3_2 < (l0_3.length : Int) := od_
          obtain ⟨ad1208, e1208, hx1208_0, hx1208_1, hx1208_2, hx1208_3, hx1208_4, hx1208_5, hx1208_6⟩ := at_T44 HR0_3.out x3_2 p1208 q1208
          cases e1208
          replace hx1208_0 := (cb_ HB.out hx1208_0 :)
          replace hx1208_1 := (cb_ HB.out hx1208_1 :)
          replace hx1208_2 := (cb_ HB.out hx1208_2 :)
          replace hx1208_3 := (cb_ HB.out hx1208_3 :)
          replace hx1208_4 := (cb_ HB.out hx1208_4 :)
          replace hx1208_5 := (cb_ HB.out hx1208_5 :)
          replace hx1208_6 := (cb_ HB.out hx1208_6 :)
          replace p1208 := eq_true p1208
          replace q1208 := eq_true q1208
          go_wp2_with (first | ((with_reducible refine gate_dst (N := 4) rfl ?_); refine bx_ 4 (#[.int .i64 0, .int .i64 0, .int .i64 0, .int .i64 0, .int .i64 0, .int .i64 0, .string (⟨#[]⟩ : ByteArray)]) 44 ?_; intro gb1209 hg w65 hbox hb; have n0_ := Aside0.mk (bb_ BK1202.out hb); have n1_ := Aside0.mk (below_step (bel_) hb); have n2_ := Aside0.mk (hbox); have n3_ := Aside0.mk ((by rw [hg]; exact (below_size (bel_)) : w.heap.size ≤ gb1209)); have n4_ := Aside0.mk ((by rw [hg]; exact (below_size (bel_)) : w.heap.size ≤ gb1209)); have n5_ := Aside0.mk ((by rw [hg]; exact Nat.ne_of_lt (blk_lt (g := gb1202) (o := .cells #[.int .i64 a0_0, .int .i64 a0_1, .slice A0_2 l0_2.length c0_2, .slice (some ad1208) l0_3.length c0_3, .int .i64 a0_4, .int .i64 a0_5] 77 (0, 0)) (bp_ BK1202.out)) : gb1202 ≠ gb1209)); have n6_ := Aside0.mk ((by rw [hg]; exact Nat.ne_of_gt (blk_lt (g := gb1202) (o := .cells #[.int .i64 a0_0, .int .i64 a0_1, .slice A0_2 l0_2.length c0_2, .slice (some ad1208) l0_3.length c0_3, .int .i64 a0_4, .int .i64 a0_5] 77 (0, 0)) (bp_ BK1202.out)) : gb1209 ≠ gb1202)); clear BK1202; clear HB; have BK1202 := n0_; have HB := n1_; have BK1209 := n2_; have GW1209 := n3_; have GE1209 := n4_; have NB1202_1209 := n5_; have NB1209_1202 := n6_; clear n0_ n1_ n2_ n3_ n4_ n5_ n6_; clear hb hbox hg; have hnb66 := NB1209_1202.out; have hnc66 := NB1202_1209.out; have hcz67_0 := cz_ BK1209.out 0 (.int .i64 0); have hcz67_1 := cz_ BK1209.out 1 (.int .i64 0); have hcz67_2 := cz_ BK1209.out 2 (.int .i64 0); have hcz67_3 := cz_ BK1209.out 3 (.int .i64 0); have hcz67_4 := cz_ BK1209.out 4 (.int .i64 0); have hcz67_5 := cz_ BK1209.out 5 (.int .i64 0); have hcz67_6 := cz_ BK1209.out 6 (.string (⟨#[]⟩ : ByteArray)); have hfz67_0 := blk_frozen BK1209.out 0; have hfz67_1 := blk_frozen BK1209.out 1; have hfz67_2 := blk_frozen BK1209.out 2; have hfz67_3 := blk_frozen BK1209.out 3; have hfz67_4 := blk_frozen BK1209.out 4; have hfz67_5 := blk_frozen BK1209.out 5; have hfz67_6 := blk_frozen BK1209.out 6) | ((with_reducible refine gate_callee (f := 30) rfl ?_); refine gl_ 57 Tryd.func30 #[.agg #[.int .i64 ((rd_T44 l0_3 x3_2).f0), .int .i64 ((rd_T44 l0_3 x3_2).f1), .int .i64 ((rd_T44 l0_3 x3_2).f2.f0), .int .i64 ((rd_T44 l0_3 x3_2).f2.f1), .int .i64 ((rd_T44 l0_3 x3_2).f2.f2), .int .i64 ((rd_T44 l0_3 x3_2).f2.f3), .string ((rd_T44 l0_3 x3_2).f2.f4)]] ?_; (with_reducible refine (spec_EntryOk.calls k2 ((rd_T44 l0_3 x3_2).f0) ((rd_T44 l0_3 x3_2).f1) ((rd_T44 l0_3 x3_2).f2.f0) ((rd_T44 l0_3 x3_2).f2.f1) ((rd_T44 l0_3 x3_2).f2.f2) ((rd_T44 l0_3 x3_2).f2.f3) ((rd_T44 l0_3 x3_2).f2.f4) true _ A30.out).mono ?_); rintro e w68 ⟨rfl, hb⟩; refine ⟨_, rfl, ?_⟩; have n0_ := Aside0.mk (blk_below (g := gb1202) (o := .cells #[.int .i64 a0_0, .int .i64 a0_1, .slice A0_2 l0_2.length c0_2, .slice (some ad1208) l0_3.length c0_3, .int .i64 a0_4, .int .i64 a0_5] 77 (0, 0)) (by (with_reducible repeat (first | refine blk_drewN ?_ _ | refine blk_drew ?_ | refine blk_alloc ?_ _)); refine blk_far ?_ NB1202_1209.out _; (with_reducible repeat (first | refine blk_drewN ?_ _ | refine blk_drew ?_ | refine blk_alloc ?_ _)); refine blk_far ?_ NB1202_1209.out _; (with_reducible repeat (first | refine blk_drewN ?_ _ | refine blk_drew ?_ | refine blk_alloc ?_ _)); refine blk_far ?_ NB1202_1209.out _; (with_reducible repeat (first | refine blk_drewN ?_ _ | refine blk_drew ?_ | refine blk_alloc ?_ _)); refine blk_far ?_ NB1202_1209.out _; (with_reducible repeat (first | refine blk_drewN ?_ _ | refine blk_drew ?_ | refine blk_alloc ?_ _)); refine blk_far ?_ NB1202_1209.out _; (with_reducible repeat (first | refine blk_drewN ?_ _ | refine blk_drew ?_ | refine blk_alloc ?_ _)); refine blk_far ?_ NB1202_1209.out _; (with_reducible repeat (first | refine blk_drewN ?_ _ | refine blk_drew ?_ | refine blk_alloc ?_ _)); refine blk_far ?_ NB1202_1209.out _; (with_reducible repeat (first | refine blk_drewN ?_ _ | refine blk_drew ?_ | refine blk_alloc ?_ _)); exact BK1202.out) hb); have n1_ := Aside0.mk (blk_below (g := gb1209) (o := .cells #[.int .i64 ((rd_T44 l0_3 x3_2).f0), .int .i64 ((rd_T44 l0_3 x3_2).f1), .int .i64 ((rd_T44 l0_3 x3_2).f2.f0), .int .i64 ((rd_T44 l0_3 x3_2).f2.f1), .int .i64 ((rd_T44 l0_3 x3_2).f2.f2), .int .i64 ((rd_T44 l0_3 x3_2).f2.f3), .string ((rd_T44 l0_3 x3_2).f2.f4)] 44 (0, 0)) (by (with_reducible repeat (first | refine blk_drewN ?_ _ | refine blk_drew ?_ | refine blk_alloc ?_ _)); refine blk_put (cs := #[.int .i64 ((rd_T44 l0_3 x3_2).f0), .int .i64 ((rd_T44 l0_3 x3_2).f1), .int .i64 ((rd_T44 l0_3 x3_2).f2.f0), .int .i64 ((rd_T44 l0_3 x3_2).f2.f1), .int .i64 ((rd_T44 l0_3 x3_2).f2.f2), .int .i64 ((rd_T44 l0_3 x3_2).f2.f3), .string (⟨#[]⟩ : ByteArray)]) ?_ 6 _ rfl; (with_reducible repeat (first | refine blk_drewN ?_ _ | refine blk_drew ?_ | refine blk_alloc ?_ _)); refine blk_put (cs := #[.int .i64 ((rd_T44 l0_3 x3_2).f0), .int .i64 ((rd_T44 l0_3 x3_2).f1), .int .i64 ((rd_T44 l0_3 x3_2).f2.f0), .int .i64 ((rd_T44 l0_3 x3_2).f2.f1), .int .i64 ((rd_T44 l0_3 x3_2).f2.f2), .int .i64 0, .string (⟨#[]⟩ : ByteArray)]) ?_ 5 _ rfl; (with_reducible repeat (first | refine blk_drewN ?_ _ | refine blk_drew ?_ | refine blk_alloc ?_ _)); refine blk_put (cs := #[.int .i64 ((rd_T44 l0_3 x3_2).f0), .int .i64 ((rd_T44 l0_3 x3_2).f1), .int .i64 ((rd_T44 l0_3 x3_2).f2.f0), .int .i64 ((rd_T44 l0_3 x3_2).f2.f1), .int .i64 0, .int .i64 0, .string (⟨#[]⟩ : ByteArray)]) ?_ 4 _ rfl; (with_reducible repeat (first | refine blk_drewN ?_ _ | refine blk_drew ?_ | refine blk_alloc ?_ _)); refine blk_put (cs := #[.int .i64 ((rd_T44 l0_3 x3_2).f0), .int .i64 ((rd_T44 l0_3 x3_2).f1), .int .i64 ((rd_T44 l0_3 x3_2).f2.f0), .int .i64 0, .int .i64 0, .int .i64 0, .string (⟨#[]⟩ : ByteArray)]) ?_ 3 _ rfl; (with_reducible repeat (first | refine blk_drewN ?_ _ | refine blk_drew ?_ | refine blk_alloc ?_ _)); refine blk_put (cs := #[.int .i64 ((rd_T44 l0_3 x3_2).f0), .int .i64 ((rd_T44 l0_3 x3_2).f1), .int .i64 0, .int .i64 0, .int .i64 0, .int .i64 0, .string (⟨#[]⟩ : ByteArray)]) ?_ 2 _ rfl; (with_reducible repeat (first | refine blk_drewN ?_ _ | refine blk_drew ?_ | refine blk_alloc ?_ _)); refine blk_put (cs := #[.int .i64 ((rd_T44 l0_3 x3_2).f0), .int .i64 0, .int .i64 0, .int .i64 0, .int .i64 0, .int .i64 0, .string (⟨#[]⟩ : ByteArray)]) ?_ 1 _ rfl; (with_reducible repeat (first | refine blk_drewN ?_ _ | refine blk_drew ?_ | refine blk_alloc ?_ _)); refine blk_put (cs := #[.int .i64 0, .int .i64 0, .int .i64 0, .int .i64 0, .int .i64 0, .int .i64 0, .string (⟨#[]⟩ : ByteArray)]) ?_ 0 _ rfl; (with_reducible repeat (first | refine blk_drewN ?_ _ | refine blk_drew ?_ | refine blk_alloc ?_ _)); exact BK1209.out) hb); have n2_ := Aside0.mk (below_step (bel_) hb); clear BK1202; clear BK1209; clear HB; have BK1202 := n0_; have BK1209 := n1_; have HB := n2_; clear n0_ n1_ n2_; (try clear hb); have hcz69_0 := cz_ BK1209.out 0 (.int .i64 ((rd_T44 l0_3 x3_2).f0)); have hcz69_1 := cz_ BK1209.out 1 (.int .i64 ((rd_T44 l0_3 x3_2).f1)); have hcz69_2 := cz_ BK1209.out 2 (.int .i64 ((rd_T44 l0_3 x3_2).f2.f0)); have hcz69_3 := cz_ BK1209.out 3 (.int .i64 ((rd_T44 l0_3 x3_2).f2.f1)); have hcz69_4 := cz_ BK1209.out 4 (.int .i64 ((rd_T44 l0_3 x3_2).f2.f2)); have hcz69_5 := cz_ BK1209.out 5 (.int .i64 ((rd_T44 l0_3 x3_2).f2.f3)); have hcz69_6 := cz_ BK1209.out 6 (.string ((rd_T44 l0_3 x3_2).f2.f4)); have hfz69_0 := blk_frozen BK1209.out 0; have hfz69_1 := blk_frozen BK1209.out 1; have hfz69_2 := blk_frozen BK1209.out 2; have hfz69_3 := blk_frozen BK1209.out 3; have hfz69_4 := blk_frozen BK1209.out 4; have hfz69_5 := blk_frozen BK1209.out 5; have hfz69_6 := blk_frozen BK1209.out 6; have hcz70_0 := cz_ BK1202.out 0 (.int .i64 a0_0); have hcz70_1 := cz_ BK1202.out 1 (.int .i64 a0_1); have hcz70_2 := cz_ BK1202.out 2 (.slice A0_2 l0_2.length c0_2); have hcz70_3 := cz_ BK1202.out 3 (.slice (some ad1208) l0_3.length c0_3); have hcz70_4 := cz_ BK1202.out 4 (.int .i64 a0_4); have hcz70_5 := cz_ BK1202.out 5 (.int .i64 a0_5); have hfz70_0 := blk_frozen BK1202.out 0; have hfz70_1 := blk_frozen BK1202.out 1; have hfz70_2 := blk_frozen BK1202.out 2; have hfz70_3 := blk_frozen BK1202.out 3; have hfz70_4 := blk_frozen BK1202.out 4; have hfz70_5 := blk_frozen BK1202.out 5))
          go_ret
          exact ⟨fi_, bel_⟩
        ·replace c31 := Bool.eq_false_iff.mpr c31
         subst c31
         have H1 : (some false) = some r := by rw [if_neg (show ¬ (false = true) by decide)] at H; exact H
         clear H
         have H := H1
         clear H1
         obtain rfl := Option.some.inj H
         have hcz71_0 : wr.cell? ⟨gb1202, 0, none⟩ = some (.int .i64 a0_0) := (blk_cell BK1202.out 0).trans rfl
         have hcz71_1 : wr.cell? ⟨gb1202, 1, none⟩ = some (.int .i64 a0_1) := (blk_cell BK1202.out 1).trans rfl
         have hcz71_2 : wr.cell? ⟨gb1202, 2, none⟩ = some (.slice A0_2 l0_2.length c0_2) := (blk_cell BK1202.out 2).trans rfl
         have hcz71_3 : wr.cell? ⟨gb1202, 3, none⟩ = some (.slice A0_3 l0_3.length c0_3) := (blk_cell BK1202.out 3).trans rfl
         have hcz71_4 : wr.cell? ⟨gb1202, 4, none⟩ = some (.int .i64 a0_4) := (blk_cell BK1202.out 4).trans rfl
         have hcz71_5 : wr.cell? ⟨gb1202, 5, none⟩ = some (.int .i64 a0_5) := (blk_cell BK1202.out 5).trans rfl
         have hfz71_0 := blk_frozen BK1202.out 0
         have hfz71_1 := blk_frozen BK1202.out 1
         have hfz71_2 := blk_frozen BK1202.out 2
         have hfz71_3 := blk_frozen BK1202.out 3
         have hfz71_4 := blk_frozen BK1202.out 4
         have hfz71_5 := blk_frozen BK1202.out 5
         have p1208 : 0 ≤ (x3_2 : Int) := od_
         have q1208 : x3_2 < (l0_3.length : Int) := od_
         obtain ⟨ad1208, e1208, hx1208_0, hx1208_1, hx1208_2, hx1208_3, hx1208_4, hx1208_5, hx1208_6⟩ := at_T44 HR0_3.out x3_2 p1208 q1208
         cases e1208
         replace hx1208_0 := (cb_ HB.out hx1208_0 :)
         replace hx1208_1 := (cb_ HB.out hx1208_1 :)
         replace hx1208_2 := (cb_ HB.out hx1208_2 :)
         replace hx1208_3 := (cb_ HB.out hx1208_3 :)
         replace hx1208_4 := (cb_ HB.out hx1208_4 :)
         replace hx1208_5 := (cb_ HB.out hx1208_5 :)
         replace hx1208_6 := (cb_ HB.out hx1208_6 :)
         replace p1208 := eq_true p1208
         replace q1208 := eq_true q1208
         go_wp2_with (first | ((with_reducible refine gate_dst (N := 4) rfl ?_); refine bx_ 4 (#[.int .i64 0, .int .i64 0, .int .i64 0, .int .i64 0, .int .i64 0, .int .i64 0, .string (⟨#[]⟩ : ByteArray)]) 44 ?_; intro gb1209 hg w72 hbox hb; have n0_ := Aside0.mk (bb_ BK1202.out hb); have n1_ := Aside0.mk (below_step (bel_) hb); have n2_ := Aside0.mk (hbox); have n3_ := Aside0.mk ((by rw [hg]; exact (below_size (bel_)) : w.heap.size ≤ gb1209)); have n4_ := Aside0.mk ((by rw [hg]; exact (below_size (bel_)) : w.heap.size ≤ gb1209)); have n5_ := Aside0.mk ((by rw [hg]; exact Nat.ne_of_lt (blk_lt (g := gb1202) (o := .cells #[.int .i64 a0_0, .int .i64 a0_1, .slice A0_2 l0_2.length c0_2, .slice (some ad1208) l0_3.length c0_3, .int .i64 a0_4, .int .i64 a0_5] 77 (0, 0)) (bp_ BK1202.out)) : gb1202 ≠ gb1209)); have n6_ := Aside0.mk ((by rw [hg]; exact Nat.ne_of_gt (blk_lt (g := gb1202) (o := .cells #[.int .i64 a0_0, .int .i64 a0_1, .slice A0_2 l0_2.length c0_2, .slice (some ad1208) l0_3.length c0_3, .int .i64 a0_4, .int .i64 a0_5] 77 (0, 0)) (bp_ BK1202.out)) : gb1209 ≠ gb1202)); clear BK1202; clear HB; have BK1202 := n0_; have HB := n1_; have BK1209 := n2_; have GW1209 := n3_; have GE1209 := n4_; have NB1202_1209 := n5_; have NB1209_1202 := n6_; clear n0_ n1_ n2_ n3_ n4_ n5_ n6_; clear hb hbox hg; have hnb73 := NB1209_1202.out; have hnc73 := NB1202_1209.out; have hcz74_0 := cz_ BK1209.out 0 (.int .i64 0); have hcz74_1 := cz_ BK1209.out 1 (.int .i64 0); have hcz74_2 := cz_ BK1209.out 2 (.int .i64 0); have hcz74_3 := cz_ BK1209.out 3 (.int .i64 0); have hcz74_4 := cz_ BK1209.out 4 (.int .i64 0); have hcz74_5 := cz_ BK1209.out 5 (.int .i64 0); have hcz74_6 := cz_ BK1209.out 6 (.string (⟨#[]⟩ : ByteArray)); have hfz74_0 := blk_frozen BK1209.out 0; have hfz74_1 := blk_frozen BK1209.out 1; have hfz74_2 := blk_frozen BK1209.out 2; have hfz74_3 := blk_frozen BK1209.out 3; have hfz74_4 := blk_frozen BK1209.out 4; have hfz74_5 := blk_frozen BK1209.out 5; have hfz74_6 := blk_frozen BK1209.out 6) | ((with_reducible refine gate_callee (f := 30) rfl ?_); refine gl_ 57 Tryd.func30 #[.agg #[.int .i64 ((rd_T44 l0_3 x3_2).f0), .int .i64 ((rd_T44 l0_3 x3_2).f1), .int .i64 ((rd_T44 l0_3 x3_2).f2.f0), .int .i64 ((rd_T44 l0_3 x3_2).f2.f1), .int .i64 ((rd_T44 l0_3 x3_2).f2.f2), .int .i64 ((rd_T44 l0_3 x3_2).f2.f3), .string ((rd_T44 l0_3 x3_2).f2.f4)]] ?_; (with_reducible refine (spec_EntryOk.calls k2 ((rd_T44 l0_3 x3_2).f0) ((rd_T44 l0_3 x3_2).f1) ((rd_T44 l0_3 x3_2).f2.f0) ((rd_T44 l0_3 x3_2).f2.f1) ((rd_T44 l0_3 x3_2).f2.f2) ((rd_T44 l0_3 x3_2).f2.f3) ((rd_T44 l0_3 x3_2).f2.f4) false _ A30.out).mono ?_); rintro e w75 ⟨rfl, hb⟩; refine ⟨_, rfl, ?_⟩; have n0_ := Aside0.mk (blk_below (g := gb1202) (o := .cells #[.int .i64 a0_0, .int .i64 a0_1, .slice A0_2 l0_2.length c0_2, .slice (some ad1208) l0_3.length c0_3, .int .i64 a0_4, .int .i64 a0_5] 77 (0, 0)) (by (with_reducible repeat (first | refine blk_drewN ?_ _ | refine blk_drew ?_ | refine blk_alloc ?_ _)); refine blk_far ?_ NB1202_1209.out _; (with_reducible repeat (first | refine blk_drewN ?_ _ | refine blk_drew ?_ | refine blk_alloc ?_ _)); refine blk_far ?_ NB1202_1209.out _; (with_reducible repeat (first | refine blk_drewN ?_ _ | refine blk_drew ?_ | refine blk_alloc ?_ _)); refine blk_far ?_ NB1202_1209.out _; (with_reducible repeat (first | refine blk_drewN ?_ _ | refine blk_drew ?_ | refine blk_alloc ?_ _)); refine blk_far ?_ NB1202_1209.out _; (with_reducible repeat (first | refine blk_drewN ?_ _ | refine blk_drew ?_ | refine blk_alloc ?_ _)); refine blk_far ?_ NB1202_1209.out _; (with_reducible repeat (first | refine blk_drewN ?_ _ | refine blk_drew ?_ | refine blk_alloc ?_ _)); refine blk_far ?_ NB1202_1209.out _; (with_reducible repeat (first | refine blk_drewN ?_ _ | refine blk_drew ?_ | refine blk_alloc ?_ _)); refine blk_far ?_ NB1202_1209.out _; (with_reducible repeat (first | refine blk_drewN ?_ _ | refine blk_drew ?_ | refine blk_alloc ?_ _)); exact BK1202.out) hb); have n1_ := Aside0.mk (blk_below (g := gb1209) (o := .cells #[.int .i64 ((rd_T44 l0_3 x3_2).f0), .int .i64 ((rd_T44 l0_3 x3_2).f1), .int .i64 ((rd_T44 l0_3 x3_2).f2.f0), .int .i64 ((rd_T44 l0_3 x3_2).f2.f1), .int .i64 ((rd_T44 l0_3 x3_2).f2.f2), .int .i64 ((rd_T44 l0_3 x3_2).f2.f3), .string ((rd_T44 l0_3 x3_2).f2.f4)] 44 (0, 0)) (by (with_reducible repeat (first | refine blk_drewN ?_ _ | refine blk_drew ?_ | refine blk_alloc ?_ _)); refine blk_put (cs := #[.int .i64 ((rd_T44 l0_3 x3_2).f0), .int .i64 ((rd_T44 l0_3 x3_2).f1), .int .i64 ((rd_T44 l0_3 x3_2).f2.f0), .int .i64 ((rd_T44 l0_3 x3_2).f2.f1), .int .i64 ((rd_T44 l0_3 x3_2).f2.f2), .int .i64 ((rd_T44 l0_3 x3_2).f2.f3), .string (⟨#[]⟩ : ByteArray)]) ?_ 6 _ rfl; (with_reducible repeat (first | refine blk_drewN ?_ _ | refine blk_drew ?_ | refine blk_alloc ?_ _)); refine blk_put (cs := #[.int .i64 ((rd_T44 l0_3 x3_2).f0), .int .i64 ((rd_T44 l0_3 x3_2).f1), .int .i64 ((rd_T44 l0_3 x3_2).f2.f0), .int .i64 ((rd_T44 l0_3 x3_2).f2.f1), .int .i64 ((rd_T44 l0_3 x3_2).f2.f2), .int .i64 0, .string (⟨#[]⟩ : ByteArray)]) ?_ 5 _ rfl; (with_reducible repeat (first | refine blk_drewN ?_ _ | refine blk_drew ?_ | refine blk_alloc ?_ _)); refine blk_put (cs := #[.int .i64 ((rd_T44 l0_3 x3_2).f0), .int .i64 ((rd_T44 l0_3 x3_2).f1), .int .i64 ((rd_T44 l0_3 x3_2).f2.f0), .int .i64 ((rd_T44 l0_3 x3_2).f2.f1), .int .i64 0, .int .i64 0, .string (⟨#[]⟩ : ByteArray)]) ?_ 4 _ rfl; (with_reducible repeat (first | refine blk_drewN ?_ _ | refine blk_drew ?_ | refine blk_alloc ?_ _)); refine blk_put (cs := #[.int .i64 ((rd_T44 l0_3 x3_2).f0), .int .i64 ((rd_T44 l0_3 x3_2).f1), .int .i64 ((rd_T44 l0_3 x3_2).f2.f0), .int .i64 0, .int .i64 0, .int .i64 0, .string (⟨#[]⟩ : ByteArray)]) ?_ 3 _ rfl; (with_reducible repeat (first | refine blk_drewN ?_ _ | refine blk_drew ?_ | refine blk_alloc ?_ _)); refine blk_put (cs := #[.int .i64 ((rd_T44 l0_3 x3_2).f0), .int .i64 ((rd_T44 l0_3 x3_2).f1), .int .i64 0, .int .i64 0, .int .i64 0, .int .i64 0, .string (⟨#[]⟩ : ByteArray)]) ?_ 2 _ rfl; (with_reducible repeat (first | refine blk_drewN ?_ _ | refine blk_drew ?_ | refine blk_alloc ?_ _)); refine blk_put (cs := #[.int .i64 ((rd_T44 l0_3 x3_2).f0), .int .i64 0, .int .i64 0, .int .i64 0, .int .i64 0, .int .i64 0, .string (⟨#[]⟩ : ByteArray)]) ?_ 1 _ rfl; (with_reducible repeat (first | refine blk_drewN ?_ _ | refine blk_drew ?_ | refine blk_alloc ?_ _)); refine blk_put (cs := #[.int .i64 0, .int .i64 0, .int .i64 0, .int .i64 0, .int .i64 0, .int .i64 0, .string (⟨#[]⟩ : ByteArray)]) ?_ 0 _ rfl; (with_reducible repeat (first | refine blk_drewN ?_ _ | refine blk_drew ?_ | refine blk_alloc ?_ _)); exact BK1209.out) hb); have n2_ := Aside0.mk (below_step (bel_) hb); clear BK1202; clear BK1209; clear HB; have BK1202 := n0_; have BK1209 := n1_; have HB := n2_; clear n0_ n1_ n2_; (try clear hb)))
         go_ret
         exact ⟨fi_, bel_⟩
       ·rw [if_neg c29] at H
        exact absurd H (by simp)
      ·rw [if_neg c28] at H
       have c28b0 : decide (x3_2 < (l0_3.length : Int)) = false := decide_eq_false c28
       clear c28
       obtain rfl := Option.some.inj H
       have hcz76_0 : wr.cell? ⟨gb1202, 0, none⟩ = some (.int .i64 a0_0) := (blk_cell BK1202.out 0).trans rfl
       have hcz76_1 : wr.cell? ⟨gb1202, 1, none⟩ = some (.int .i64 a0_1) := (blk_cell BK1202.out 1).trans rfl
       have hcz76_2 : wr.cell? ⟨gb1202, 2, none⟩ = some (.slice A0_2 l0_2.length c0_2) := (blk_cell BK1202.out 2).trans rfl
       have hcz76_3 : wr.cell? ⟨gb1202, 3, none⟩ = some (.slice A0_3 l0_3.length c0_3) := (blk_cell BK1202.out 3).trans rfl
       have hcz76_4 : wr.cell? ⟨gb1202, 4, none⟩ = some (.int .i64 a0_4) := (blk_cell BK1202.out 4).trans rfl
       have hcz76_5 : wr.cell? ⟨gb1202, 5, none⟩ = some (.int .i64 a0_5) := (blk_cell BK1202.out 5).trans rfl
       have hfz76_0 := blk_frozen BK1202.out 0
       have hfz76_1 := blk_frozen BK1202.out 1
       have hfz76_2 := blk_frozen BK1202.out 2
       have hfz76_3 := blk_frozen BK1202.out 3
       have hfz76_4 := blk_frozen BK1202.out 4
       have hfz76_5 := blk_frozen BK1202.out 5
       go_wp2
       go_ret
       exact ⟨fi_, bel_⟩

def laws_toRow.f (a0_0 : Int) (a0_1 : Int) (a0_2 : ByteArray) : Option (Int × Int × ByteArray) := some (a0_0, a0_1, a0_2)
set_option maxHeartbeats 8000000 in
set_option maxRecDepth 100000 in
theorem laws_toRow.calls (a0_0 : Int) (a0_1 : Int) (a0_2 : ByteArray) (r1 : Int) (r2 : Int) (r3 : ByteArray) (w : World) (h : laws_toRow.f a0_0 a0_1 a0_2 = some (r1, r2, r3)) :
  Calls Tryd.prog 142 #[.agg #[.int .i64 a0_0, .int .i64 a0_1, .string a0_2]] w fun e w' => e = .returned (.agg #[.int .i64 r1, .int .i64 r2, .string r3]) ∧ Below w.heap.size w w' := by
 have hu183 := Tryd.underlying183
 have hu69 := Tryd.underlying69
 have HB := Aside0.mk (Below.refl w.heap.size w)
 unfold laws_toRow.f at h
 have H := h
 clear h
 simp only [Option.some.injEq, Prod.mk.injEq] at H
 obtain ⟨rfl, rfl, rfl⟩ := H
 go_enter Tryd.func142, Tryd.ntmps142
 go_wp2_with (first | ((with_reducible refine gate_dst (N := 1) rfl ?_); refine bx_ 1 (#[.int .i64 a0_0, .int .i64 a0_1, .string a0_2]) 183 ?_; intro gb1211 hg w2 hbox hb; have n0_ := Aside0.mk (below_step (bel_) hb); have n1_ := Aside0.mk (hbox); have n2_ := Aside0.mk ((by rw [hg]; exact (below_size (bel_)) : w.heap.size ≤ gb1211)); have n3_ := Aside0.mk ((by rw [hg]; exact (below_size (bel_)) : w.heap.size ≤ gb1211)); clear HB; have HB := n0_; have BK1211 := n1_; have GW1211 := n2_; have GE1211 := n3_; clear n0_ n1_ n2_ n3_; clear hb hbox hg) | ((with_reducible refine gate_dst (N := 2) rfl ?_); refine bx_ 2 (#[.int .i64 0, .int .i64 0, .string (⟨#[]⟩ : ByteArray)]) 69 ?_; intro gb1212 hg w3 hbox hb; have n0_ := Aside0.mk (bb_ BK1211.out hb); have n1_ := Aside0.mk (below_step (bel_) hb); have n2_ := Aside0.mk (hbox); have n3_ := Aside0.mk ((by rw [hg]; exact (below_size (bel_)) : w.heap.size ≤ gb1212)); have n4_ := Aside0.mk ((by rw [hg]; exact (below_size (bel_)) : w.heap.size ≤ gb1212)); have n5_ := Aside0.mk ((by rw [hg]; exact Nat.ne_of_lt (blk_lt (g := gb1211) (o := .cells #[.int .i64 a0_0, .int .i64 a0_1, .string a0_2] 183 (0, 0)) (bp_ BK1211.out)) : gb1211 ≠ gb1212)); have n6_ := Aside0.mk ((by rw [hg]; exact Nat.ne_of_gt (blk_lt (g := gb1211) (o := .cells #[.int .i64 a0_0, .int .i64 a0_1, .string a0_2] 183 (0, 0)) (bp_ BK1211.out)) : gb1212 ≠ gb1211)); clear BK1211; clear HB; have BK1211 := n0_; have HB := n1_; have BK1212 := n2_; have GW1212 := n3_; have GE1212 := n4_; have NB1211_1212 := n5_; have NB1212_1211 := n6_; clear n0_ n1_ n2_ n3_ n4_ n5_ n6_; clear hb hbox hg) | ((with_reducible refine gate_dst (N := 3) rfl ?_); refine bx_ 3 (#[.int .i64 0, .int .i64 0, .string (⟨#[]⟩ : ByteArray)]) 69 ?_; intro gb1213 hg w4 hbox hb; have n0_ := Aside0.mk (bb_ BK1211.out hb); have n1_ := Aside0.mk (bb_ BK1212.out hb); have n2_ := Aside0.mk (below_step (bel_) hb); have n3_ := Aside0.mk (hbox); have n4_ := Aside0.mk ((by rw [hg]; exact (below_size (bel_)) : w.heap.size ≤ gb1213)); have n5_ := Aside0.mk ((by rw [hg]; exact (below_size (bel_)) : w.heap.size ≤ gb1213)); have n6_ := Aside0.mk ((by rw [hg]; exact Nat.ne_of_lt (blk_lt (g := gb1211) (o := .cells #[.int .i64 a0_0, .int .i64 a0_1, .string a0_2] 183 (0, 0)) (bp_ BK1211.out)) : gb1211 ≠ gb1213)); have n7_ := Aside0.mk ((by rw [hg]; exact Nat.ne_of_gt (blk_lt (g := gb1211) (o := .cells #[.int .i64 a0_0, .int .i64 a0_1, .string a0_2] 183 (0, 0)) (bp_ BK1211.out)) : gb1213 ≠ gb1211)); have n8_ := Aside0.mk ((by rw [hg]; exact Nat.ne_of_lt (blk_lt (g := gb1212) (o := .cells #[.int .i64 0, .int .i64 0, .string (⟨#[]⟩ : ByteArray)] 69 (0, 0)) (bp_ BK1212.out)) : gb1212 ≠ gb1213)); have n9_ := Aside0.mk ((by rw [hg]; exact Nat.ne_of_gt (blk_lt (g := gb1212) (o := .cells #[.int .i64 0, .int .i64 0, .string (⟨#[]⟩ : ByteArray)] 69 (0, 0)) (bp_ BK1212.out)) : gb1213 ≠ gb1212)); clear BK1211; clear BK1212; clear HB; have BK1211 := n0_; have BK1212 := n1_; have HB := n2_; have BK1213 := n3_; have GW1213 := n4_; have GE1213 := n5_; have NB1211_1213 := n6_; have NB1213_1211 := n7_; have NB1212_1213 := n8_; have NB1213_1212 := n9_; clear n0_ n1_ n2_ n3_ n4_ n5_ n6_ n7_ n8_ n9_; clear hb hbox hg; have hnb5 := NB1211_1212.out; have hnc5 := NB1212_1211.out; have hnb6 := NB1211_1213.out; have hnc6 := NB1213_1211.out; have hcz7_0 := cz_ BK1211.out 0 (.int .i64 a0_0); have hcz7_1 := cz_ BK1211.out 1 (.int .i64 a0_1); have hcz7_2 := cz_ BK1211.out 2 (.string a0_2); have hfz7_0 := blk_frozen BK1211.out 0; have hfz7_1 := blk_frozen BK1211.out 1; have hfz7_2 := blk_frozen BK1211.out 2; have hnb8 := NB1213_1212.out; have hnc8 := NB1212_1213.out; have hcz9_0 := cz_ BK1213.out 0 (.int .i64 0); have hcz9_1 := cz_ BK1213.out 1 (.int .i64 0); have hcz9_2 := cz_ BK1213.out 2 (.string (⟨#[]⟩ : ByteArray)); have hfz9_0 := blk_frozen BK1213.out 0; have hfz9_1 := blk_frozen BK1213.out 1; have hfz9_2 := blk_frozen BK1213.out 2; have hcz10_0 := cz_ BK1212.out 0 (.int .i64 0); have hcz10_1 := cz_ BK1212.out 1 (.int .i64 0); have hcz10_2 := cz_ BK1212.out 2 (.string (⟨#[]⟩ : ByteArray)); have hfz10_0 := blk_frozen BK1212.out 0; have hfz10_1 := blk_frozen BK1212.out 1; have hfz10_2 := blk_frozen BK1212.out 2))
 refine bodyPost_ret (results_cell_row rfl _ _ gb1212 69 #[.int .i64 a0_0, .int .i64 a0_1, .string a0_2] (0, 0) _ rfl (by (with_reducible repeat (first | refine blk_drewN ?_ _ | refine blk_drew ?_ | refine blk_alloc ?_ _)); refine blk_put (cs := #[.int .i64 a0_0, .int .i64 a0_1, .string (⟨#[]⟩ : ByteArray)]) ?_ 2 _ rfl; (with_reducible repeat (first | refine blk_drewN ?_ _ | refine blk_drew ?_ | refine blk_alloc ?_ _)); refine blk_put (cs := #[.int .i64 a0_0, .int .i64 0, .string (⟨#[]⟩ : ByteArray)]) ?_ 1 _ rfl; (with_reducible repeat (first | refine blk_drewN ?_ _ | refine blk_drew ?_ | refine blk_alloc ?_ _)); refine blk_put (cs := #[.int .i64 0, .int .i64 0, .string (⟨#[]⟩ : ByteArray)]) ?_ 0 _ rfl; (with_reducible repeat (first | refine blk_drewN ?_ _ | refine blk_drew ?_ | refine blk_alloc ?_ _)); refine blk_far ?_ NB1212_1213.out _; (with_reducible repeat (first | refine blk_drewN ?_ _ | refine blk_drew ?_ | refine blk_alloc ?_ _)); refine blk_far ?_ NB1212_1213.out _; (with_reducible repeat (first | refine blk_drewN ?_ _ | refine blk_drew ?_ | refine blk_alloc ?_ _)); refine blk_far ?_ NB1212_1213.out _; (with_reducible repeat (first | refine blk_drewN ?_ _ | refine blk_drew ?_ | refine blk_alloc ?_ _)); exact BK1212.out) Tryd.underlying69 rfl (by kernel_rfl)) rfl ?_
 exact ⟨fi_, bel_⟩

def laws_toOp.f (a0_0 : Int) (a0_1 : Int) (a0_2 : Int) (a0_3 : Int) (a0_4 : ByteArray) : Option (Int × Int × Int × Int × ByteArray) := some (a0_0, a0_1, a0_2, a0_3, a0_4)
set_option maxHeartbeats 8000000 in
set_option maxRecDepth 100000 in
theorem laws_toOp.calls (a0_0 : Int) (a0_1 : Int) (a0_2 : Int) (a0_3 : Int) (a0_4 : ByteArray) (r1 : Int) (r2 : Int) (r3 : Int) (r4 : Int) (r5 : ByteArray) (w : World) (h : laws_toOp.f a0_0 a0_1 a0_2 a0_3 a0_4 = some (r1, r2, r3, r4, r5)) :
  Calls Tryd.prog 68 #[.agg #[.int .i64 a0_0, .int .i64 a0_1, .int .i64 a0_2, .int .i64 a0_3, .string a0_4]] w fun e w' => e = .returned (.agg #[.int .i64 r1, .int .i64 r2, .int .i64 r3, .int .i64 r4, .string r5]) ∧ Below w.heap.size w w' := by
 have hu34 := Tryd.underlying34
 have hu42 := Tryd.underlying42
 have HB := Aside0.mk (Below.refl w.heap.size w)
 unfold laws_toOp.f at h
 have H := h
 clear h
 simp only [Option.some.injEq, Prod.mk.injEq] at H
 obtain ⟨rfl, rfl, rfl, rfl, rfl⟩ := H
 go_enter Tryd.func68, Tryd.ntmps68
 go_wp2_with (first | ((with_reducible refine gate_dst (N := 1) rfl ?_); refine bx_ 1 (#[.int .i64 a0_0, .int .i64 a0_1, .int .i64 a0_2, .int .i64 a0_3, .string a0_4]) 34 ?_; intro gb510 hg w2 hbox hb; have n0_ := Aside0.mk (below_step (bel_) hb); have n1_ := Aside0.mk (hbox); have n2_ := Aside0.mk ((by rw [hg]; exact (below_size (bel_)) : w.heap.size ≤ gb510)); have n3_ := Aside0.mk ((by rw [hg]; exact (below_size (bel_)) : w.heap.size ≤ gb510)); clear HB; have HB := n0_; have BK510 := n1_; have GW510 := n2_; have GE510 := n3_; clear n0_ n1_ n2_ n3_; clear hb hbox hg) | ((with_reducible refine gate_dst (N := 2) rfl ?_); refine bx_ 2 (#[.int .i64 0, .int .i64 0, .int .i64 0, .int .i64 0, .string (⟨#[]⟩ : ByteArray)]) 42 ?_; intro gb511 hg w3 hbox hb; have n0_ := Aside0.mk (bb_ BK510.out hb); have n1_ := Aside0.mk (below_step (bel_) hb); have n2_ := Aside0.mk (hbox); have n3_ := Aside0.mk ((by rw [hg]; exact (below_size (bel_)) : w.heap.size ≤ gb511)); have n4_ := Aside0.mk ((by rw [hg]; exact (below_size (bel_)) : w.heap.size ≤ gb511)); have n5_ := Aside0.mk ((by rw [hg]; exact Nat.ne_of_lt (blk_lt (g := gb510) (o := .cells #[.int .i64 a0_0, .int .i64 a0_1, .int .i64 a0_2, .int .i64 a0_3, .string a0_4] 34 (0, 0)) (bp_ BK510.out)) : gb510 ≠ gb511)); have n6_ := Aside0.mk ((by rw [hg]; exact Nat.ne_of_gt (blk_lt (g := gb510) (o := .cells #[.int .i64 a0_0, .int .i64 a0_1, .int .i64 a0_2, .int .i64 a0_3, .string a0_4] 34 (0, 0)) (bp_ BK510.out)) : gb511 ≠ gb510)); clear BK510; clear HB; have BK510 := n0_; have HB := n1_; have BK511 := n2_; have GW511 := n3_; have GE511 := n4_; have NB510_511 := n5_; have NB511_510 := n6_; clear n0_ n1_ n2_ n3_ n4_ n5_ n6_; clear hb hbox hg) | ((with_reducible refine gate_dst (N := 3) rfl ?_); refine bx_ 3 (#[.int .i64 0, .int .i64 0, .int .i64 0, .int .i64 0, .string (⟨#[]⟩ : ByteArray)]) 42 ?_; intro gb512 hg w4 hbox hb; have n0_ := Aside0.mk (bb_ BK510.out hb); have n1_ := Aside0.mk (bb_ BK511.out hb); have n2_ := Aside0.mk (below_step (bel_) hb); have n3_ := Aside0.mk (hbox); have n4_ := Aside0.mk ((by rw [hg]; exact (below_size (bel_)) : w.heap.size ≤ gb512)); have n5_ := Aside0.mk ((by rw [hg]; exact (below_size (bel_)) : w.heap.size ≤ gb512)); have n6_ := Aside0.mk ((by rw [hg]; exact Nat.ne_of_lt (blk_lt (g := gb510) (o := .cells #[.int .i64 a0_0, .int .i64 a0_1, .int .i64 a0_2, .int .i64 a0_3, .string a0_4] 34 (0, 0)) (bp_ BK510.out)) : gb510 ≠ gb512)); have n7_ := Aside0.mk ((by rw [hg]; exact Nat.ne_of_gt (blk_lt (g := gb510) (o := .cells #[.int .i64 a0_0, .int .i64 a0_1, .int .i64 a0_2, .int .i64 a0_3, .string a0_4] 34 (0, 0)) (bp_ BK510.out)) : gb512 ≠ gb510)); have n8_ := Aside0.mk ((by rw [hg]; exact Nat.ne_of_lt (blk_lt (g := gb511) (o := .cells #[.int .i64 0, .int .i64 0, .int .i64 0, .int .i64 0, .string (⟨#[]⟩ : ByteArray)] 42 (0, 0)) (bp_ BK511.out)) : gb511 ≠ gb512)); have n9_ := Aside0.mk ((by rw [hg]; exact Nat.ne_of_gt (blk_lt (g := gb511) (o := .cells #[.int .i64 0, .int .i64 0, .int .i64 0, .int .i64 0, .string (⟨#[]⟩ : ByteArray)] 42 (0, 0)) (bp_ BK511.out)) : gb512 ≠ gb511)); clear BK510; clear BK511; clear HB; have BK510 := n0_; have BK511 := n1_; have HB := n2_; have BK512 := n3_; have GW512 := n4_; have GE512 := n5_; have NB510_512 := n6_; have NB512_510 := n7_; have NB511_512 := n8_; have NB512_511 := n9_; clear n0_ n1_ n2_ n3_ n4_ n5_ n6_ n7_ n8_ n9_; clear hb hbox hg; have hnb5 := NB510_511.out; have hnc5 := NB511_510.out; have hnb6 := NB510_512.out; have hnc6 := NB512_510.out; have hcz7_0 := cz_ BK510.out 0 (.int .i64 a0_0); have hcz7_1 := cz_ BK510.out 1 (.int .i64 a0_1); have hcz7_2 := cz_ BK510.out 2 (.int .i64 a0_2); have hcz7_3 := cz_ BK510.out 3 (.int .i64 a0_3); have hcz7_4 := cz_ BK510.out 4 (.string a0_4); have hfz7_0 := blk_frozen BK510.out 0; have hfz7_1 := blk_frozen BK510.out 1; have hfz7_2 := blk_frozen BK510.out 2; have hfz7_3 := blk_frozen BK510.out 3; have hfz7_4 := blk_frozen BK510.out 4; have hnb8 := NB512_511.out; have hnc8 := NB511_512.out; have hcz9_0 := cz_ BK512.out 0 (.int .i64 0); have hcz9_1 := cz_ BK512.out 1 (.int .i64 0); have hcz9_2 := cz_ BK512.out 2 (.int .i64 0); have hcz9_3 := cz_ BK512.out 3 (.int .i64 0); have hcz9_4 := cz_ BK512.out 4 (.string (⟨#[]⟩ : ByteArray)); have hfz9_0 := blk_frozen BK512.out 0; have hfz9_1 := blk_frozen BK512.out 1; have hfz9_2 := blk_frozen BK512.out 2; have hfz9_3 := blk_frozen BK512.out 3; have hfz9_4 := blk_frozen BK512.out 4; have hcz10_0 := cz_ BK511.out 0 (.int .i64 0); have hcz10_1 := cz_ BK511.out 1 (.int .i64 0); have hcz10_2 := cz_ BK511.out 2 (.int .i64 0); have hcz10_3 := cz_ BK511.out 3 (.int .i64 0); have hcz10_4 := cz_ BK511.out 4 (.string (⟨#[]⟩ : ByteArray)); have hfz10_0 := blk_frozen BK511.out 0; have hfz10_1 := blk_frozen BK511.out 1; have hfz10_2 := blk_frozen BK511.out 2; have hfz10_3 := blk_frozen BK511.out 3; have hfz10_4 := blk_frozen BK511.out 4))
 refine bodyPost_ret (results_cell_row rfl _ _ gb511 42 #[.int .i64 a0_0, .int .i64 a0_1, .int .i64 a0_2, .int .i64 a0_3, .string a0_4] (0, 0) _ rfl (by (with_reducible repeat (first | refine blk_drewN ?_ _ | refine blk_drew ?_ | refine blk_alloc ?_ _)); refine blk_put (cs := #[.int .i64 a0_0, .int .i64 a0_1, .int .i64 a0_2, .int .i64 a0_3, .string (⟨#[]⟩ : ByteArray)]) ?_ 4 _ rfl; (with_reducible repeat (first | refine blk_drewN ?_ _ | refine blk_drew ?_ | refine blk_alloc ?_ _)); refine blk_put (cs := #[.int .i64 a0_0, .int .i64 a0_1, .int .i64 a0_2, .int .i64 0, .string (⟨#[]⟩ : ByteArray)]) ?_ 3 _ rfl; (with_reducible repeat (first | refine blk_drewN ?_ _ | refine blk_drew ?_ | refine blk_alloc ?_ _)); refine blk_put (cs := #[.int .i64 a0_0, .int .i64 a0_1, .int .i64 0, .int .i64 0, .string (⟨#[]⟩ : ByteArray)]) ?_ 2 _ rfl; (with_reducible repeat (first | refine blk_drewN ?_ _ | refine blk_drew ?_ | refine blk_alloc ?_ _)); refine blk_put (cs := #[.int .i64 a0_0, .int .i64 0, .int .i64 0, .int .i64 0, .string (⟨#[]⟩ : ByteArray)]) ?_ 1 _ rfl; (with_reducible repeat (first | refine blk_drewN ?_ _ | refine blk_drew ?_ | refine blk_alloc ?_ _)); refine blk_put (cs := #[.int .i64 0, .int .i64 0, .int .i64 0, .int .i64 0, .string (⟨#[]⟩ : ByteArray)]) ?_ 0 _ rfl; (with_reducible repeat (first | refine blk_drewN ?_ _ | refine blk_drew ?_ | refine blk_alloc ?_ _)); refine blk_far ?_ NB511_512.out _; (with_reducible repeat (first | refine blk_drewN ?_ _ | refine blk_drew ?_ | refine blk_alloc ?_ _)); refine blk_far ?_ NB511_512.out _; (with_reducible repeat (first | refine blk_drewN ?_ _ | refine blk_drew ?_ | refine blk_alloc ?_ _)); refine blk_far ?_ NB511_512.out _; (with_reducible repeat (first | refine blk_drewN ?_ _ | refine blk_drew ?_ | refine blk_alloc ?_ _)); refine blk_far ?_ NB511_512.out _; (with_reducible repeat (first | refine blk_drewN ?_ _ | refine blk_drew ?_ | refine blk_alloc ?_ _)); refine blk_far ?_ NB511_512.out _; (with_reducible repeat (first | refine blk_drewN ?_ _ | refine blk_drew ?_ | refine blk_alloc ?_ _)); exact BK511.out) Tryd.underlying42 rfl (by kernel_rfl)) rfl ?_
 exact ⟨fi_, bel_⟩

def laws_toEntry.f (a0_0 : Int) (a0_1 : Int) (a0_2 : Int) (a0_3 : Int) (a0_4 : Int) (a0_5 : Int) (a0_6 : ByteArray) : Option (Int × Int × Int × Int × Int × Int × ByteArray) := (laws_toOp.f a0_2 a0_3 a0_4 a0_5 a0_6).bind fun bt516 => (some (a0_0, a0_1, bt516.1, bt516.2.1, bt516.2.2.1, bt516.2.2.2.1, bt516.2.2.2.2))
set_option maxHeartbeats 8000000 in
set_option maxRecDepth 100000 in
theorem laws_toEntry.calls (a0_0 : Int) (a0_1 : Int) (a0_2 : Int) (a0_3 : Int) (a0_4 : Int) (a0_5 : Int) (a0_6 : ByteArray) (r1 : Int) (r2 : Int) (r3 : Int) (r4 : Int) (r5 : Int) (r6 : Int) (r7 : ByteArray) (w : World) (h : laws_toEntry.f a0_0 a0_1 a0_2 a0_3 a0_4 a0_5 a0_6 = some (r1, r2, r3, r4, r5, r6, r7)) :
  Calls Tryd.prog 23 #[.agg #[.int .i64 a0_0, .int .i64 a0_1, .int .i64 a0_2, .int .i64 a0_3, .int .i64 a0_4, .int .i64 a0_5, .string a0_6]] w fun e w' => e = .returned (.agg #[.int .i64 r1, .int .i64 r2, .int .i64 r3, .int .i64 r4, .int .i64 r5, .int .i64 r6, .string r7]) ∧ Below w.heap.size w w' := by
 have hu36 := Tryd.underlying36
 have hu44 := Tryd.underlying44
 have hu34 := Tryd.underlying34
 have hu42 := Tryd.underlying42
 have HB := Aside0.mk (Below.refl w.heap.size w)
 unfold laws_toEntry.f at h
 have H := h
 clear h
 replace H := Option.bind_eq_some_iff.mp H
 obtain ⟨⟨t516, t517, t518, t519, t520⟩, A20, H⟩ := H
 try dsimp only at H
 have A2 := Aside0.mk A20
 clear A20
 simp only [Option.some.injEq, Prod.mk.injEq] at H
 obtain ⟨rfl, rfl, rfl, rfl, rfl, rfl, rfl⟩ := H
 go_enter Tryd.func23, Tryd.ntmps23
 go_wp2_with (first | ((with_reducible refine gate_dst (N := 1) rfl ?_); refine bx_ 1 (#[.int .i64 a0_0, .int .i64 a0_1, .int .i64 a0_2, .int .i64 a0_3, .int .i64 a0_4, .int .i64 a0_5, .string a0_6]) 36 ?_; intro gb513 hg w3 hbox hb; have n0_ := Aside0.mk (below_step (bel_) hb); have n1_ := Aside0.mk (hbox); have n2_ := Aside0.mk ((by rw [hg]; exact (below_size (bel_)) : w.heap.size ≤ gb513)); have n3_ := Aside0.mk ((by rw [hg]; exact (below_size (bel_)) : w.heap.size ≤ gb513)); clear HB; have HB := n0_; have BK513 := n1_; have GW513 := n2_; have GE513 := n3_; clear n0_ n1_ n2_ n3_; clear hb hbox hg) | ((with_reducible refine gate_dst (N := 2) rfl ?_); refine bx_ 2 (#[.int .i64 0, .int .i64 0, .int .i64 0, .int .i64 0, .int .i64 0, .int .i64 0, .string (⟨#[]⟩ : ByteArray)]) 44 ?_; intro gb514 hg w4 hbox hb; have n0_ := Aside0.mk (bb_ BK513.out hb); have n1_ := Aside0.mk (below_step (bel_) hb); have n2_ := Aside0.mk (hbox); have n3_ := Aside0.mk ((by rw [hg]; exact (below_size (bel_)) : w.heap.size ≤ gb514)); have n4_ := Aside0.mk ((by rw [hg]; exact (below_size (bel_)) : w.heap.size ≤ gb514)); have n5_ := Aside0.mk ((by rw [hg]; exact Nat.ne_of_lt (blk_lt (g := gb513) (o := .cells #[.int .i64 a0_0, .int .i64 a0_1, .int .i64 a0_2, .int .i64 a0_3, .int .i64 a0_4, .int .i64 a0_5, .string a0_6] 36 (0, 0)) (bp_ BK513.out)) : gb513 ≠ gb514)); have n6_ := Aside0.mk ((by rw [hg]; exact Nat.ne_of_gt (blk_lt (g := gb513) (o := .cells #[.int .i64 a0_0, .int .i64 a0_1, .int .i64 a0_2, .int .i64 a0_3, .int .i64 a0_4, .int .i64 a0_5, .string a0_6] 36 (0, 0)) (bp_ BK513.out)) : gb514 ≠ gb513)); clear BK513; clear HB; have BK513 := n0_; have HB := n1_; have BK514 := n2_; have GW514 := n3_; have GE514 := n4_; have NB513_514 := n5_; have NB514_513 := n6_; clear n0_ n1_ n2_ n3_ n4_ n5_ n6_; clear hb hbox hg) | ((with_reducible refine gate_dst (N := 3) rfl ?_); refine bx_ 3 (#[.int .i64 0, .int .i64 0, .int .i64 0, .int .i64 0, .int .i64 0, .int .i64 0, .string (⟨#[]⟩ : ByteArray)]) 44 ?_; intro gb515 hg w5 hbox hb; have n0_ := Aside0.mk (bb_ BK513.out hb); have n1_ := Aside0.mk (bb_ BK514.out hb); have n2_ := Aside0.mk (below_step (bel_) hb); have n3_ := Aside0.mk (hbox); have n4_ := Aside0.mk ((by rw [hg]; exact (below_size (bel_)) : w.heap.size ≤ gb515)); have n5_ := Aside0.mk ((by rw [hg]; exact (below_size (bel_)) : w.heap.size ≤ gb515)); have n6_ := Aside0.mk ((by rw [hg]; exact Nat.ne_of_lt (blk_lt (g := gb513) (o := .cells #[.int .i64 a0_0, .int .i64 a0_1, .int .i64 a0_2, .int .i64 a0_3, .int .i64 a0_4, .int .i64 a0_5, .string a0_6] 36 (0, 0)) (bp_ BK513.out)) : gb513 ≠ gb515)); have n7_ := Aside0.mk ((by rw [hg]; exact Nat.ne_of_gt (blk_lt (g := gb513) (o := .cells #[.int .i64 a0_0, .int .i64 a0_1, .int .i64 a0_2, .int .i64 a0_3, .int .i64 a0_4, .int .i64 a0_5, .string a0_6] 36 (0, 0)) (bp_ BK513.out)) : gb515 ≠ gb513)); have n8_ := Aside0.mk ((by rw [hg]; exact Nat.ne_of_lt (blk_lt (g := gb514) (o := .cells #[.int .i64 0, .int .i64 0, .int .i64 0, .int .i64 0, .int .i64 0, .int .i64 0, .string (⟨#[]⟩ : ByteArray)] 44 (0, 0)) (bp_ BK514.out)) : gb514 ≠ gb515)); have n9_ := Aside0.mk ((by rw [hg]; exact Nat.ne_of_gt (blk_lt (g := gb514) (o := .cells #[.int .i64 0, .int .i64 0, .int .i64 0, .int .i64 0, .int .i64 0, .int .i64 0, .string (⟨#[]⟩ : ByteArray)] 44 (0, 0)) (bp_ BK514.out)) : gb515 ≠ gb514)); clear BK513; clear BK514; clear HB; have BK513 := n0_; have BK514 := n1_; have HB := n2_; have BK515 := n3_; have GW515 := n4_; have GE515 := n5_; have NB513_515 := n6_; have NB515_513 := n7_; have NB514_515 := n8_; have NB515_514 := n9_; clear n0_ n1_ n2_ n3_ n4_ n5_ n6_ n7_ n8_ n9_; clear hb hbox hg; have hnb6 := NB513_514.out; have hnc6 := NB514_513.out; have hnb7 := NB513_515.out; have hnc7 := NB515_513.out; have hcz8_0 := cz_ BK513.out 0 (.int .i64 a0_0); have hcz8_1 := cz_ BK513.out 1 (.int .i64 a0_1); have hcz8_2 := cz_ BK513.out 2 (.int .i64 a0_2); have hcz8_3 := cz_ BK513.out 3 (.int .i64 a0_3); have hcz8_4 := cz_ BK513.out 4 (.int .i64 a0_4); have hcz8_5 := cz_ BK513.out 5 (.int .i64 a0_5); have hcz8_6 := cz_ BK513.out 6 (.string a0_6); have hfz8_0 := blk_frozen BK513.out 0; have hfz8_1 := blk_frozen BK513.out 1; have hfz8_2 := blk_frozen BK513.out 2; have hfz8_3 := blk_frozen BK513.out 3; have hfz8_4 := blk_frozen BK513.out 4; have hfz8_5 := blk_frozen BK513.out 5; have hfz8_6 := blk_frozen BK513.out 6; have hnb9 := NB515_514.out; have hnc9 := NB514_515.out; have hcz10_0 := cz_ BK515.out 0 (.int .i64 0); have hcz10_1 := cz_ BK515.out 1 (.int .i64 0); have hcz10_2 := cz_ BK515.out 2 (.int .i64 0); have hcz10_3 := cz_ BK515.out 3 (.int .i64 0); have hcz10_4 := cz_ BK515.out 4 (.int .i64 0); have hcz10_5 := cz_ BK515.out 5 (.int .i64 0); have hcz10_6 := cz_ BK515.out 6 (.string (⟨#[]⟩ : ByteArray)); have hfz10_0 := blk_frozen BK515.out 0; have hfz10_1 := blk_frozen BK515.out 1; have hfz10_2 := blk_frozen BK515.out 2; have hfz10_3 := blk_frozen BK515.out 3; have hfz10_4 := blk_frozen BK515.out 4; have hfz10_5 := blk_frozen BK515.out 5; have hfz10_6 := blk_frozen BK515.out 6) | ((with_reducible refine gate_callee (f := 68) rfl ?_); refine gl_ 12 Tryd.func68 #[.agg #[.int .i64 a0_2, .int .i64 a0_3, .int .i64 a0_4, .int .i64 a0_5, .string a0_6]] ?_; (with_reducible refine (laws_toOp.calls a0_2 a0_3 a0_4 a0_5 a0_6 t516 t517 t518 t519 t520 _ A2.out).mono ?_); rintro e w11 ⟨rfl, hb⟩; refine ⟨_, rfl, ?_⟩; have n0_ := Aside0.mk (blk_below (g := gb513) (o := .cells #[.int .i64 a0_0, .int .i64 a0_1, .int .i64 a0_2, .int .i64 a0_3, .int .i64 a0_4, .int .i64 a0_5, .string a0_6] 36 (0, 0)) (by (with_reducible repeat (first | refine blk_drewN ?_ _ | refine blk_drew ?_ | refine blk_alloc ?_ _)); refine blk_far ?_ NB513_515.out _; (with_reducible repeat (first | refine blk_drewN ?_ _ | refine blk_drew ?_ | refine blk_alloc ?_ _)); refine blk_far ?_ NB513_515.out _; (with_reducible repeat (first | refine blk_drewN ?_ _ | refine blk_drew ?_ | refine blk_alloc ?_ _)); exact BK513.out) hb); have n1_ := Aside0.mk (blk_below (g := gb514) (o := .cells #[.int .i64 0, .int .i64 0, .int .i64 0, .int .i64 0, .int .i64 0, .int .i64 0, .string (⟨#[]⟩ : ByteArray)] 44 (0, 0)) (by (with_reducible repeat (first | refine blk_drewN ?_ _ | refine blk_drew ?_ | refine blk_alloc ?_ _)); refine blk_far ?_ NB514_515.out _; (with_reducible repeat (first | refine blk_drewN ?_ _ | refine blk_drew ?_ | refine blk_alloc ?_ _)); refine blk_far ?_ NB514_515.out _; (with_reducible repeat (first | refine blk_drewN ?_ _ | refine blk_drew ?_ | refine blk_alloc ?_ _)); exact BK514.out) hb); have n2_ := Aside0.mk (blk_below (g := gb515) (o := .cells #[.int .i64 a0_0, .int .i64 a0_1, .int .i64 0, .int .i64 0, .int .i64 0, .int .i64 0, .string (⟨#[]⟩ : ByteArray)] 44 (0, 0)) (by (with_reducible repeat (first | refine blk_drewN ?_ _ | refine blk_drew ?_ | refine blk_alloc ?_ _)); refine blk_put (cs := #[.int .i64 a0_0, .int .i64 0, .int .i64 0, .int .i64 0, .int .i64 0, .int .i64 0, .string (⟨#[]⟩ : ByteArray)]) ?_ 1 _ rfl; (with_reducible repeat (first | refine blk_drewN ?_ _ | refine blk_drew ?_ | refine blk_alloc ?_ _)); refine blk_put (cs := #[.int .i64 0, .int .i64 0, .int .i64 0, .int .i64 0, .int .i64 0, .int .i64 0, .string (⟨#[]⟩ : ByteArray)]) ?_ 0 _ rfl; (with_reducible repeat (first | refine blk_drewN ?_ _ | refine blk_drew ?_ | refine blk_alloc ?_ _)); exact BK515.out) hb); have n3_ := Aside0.mk (below_step (bel_) hb); clear BK513; clear BK514; clear BK515; clear HB; have BK513 := n0_; have BK514 := n1_; have BK515 := n2_; have HB := n3_; clear n0_ n1_ n2_ n3_; (try clear hb); have hcz12_0 := cz_ BK515.out 0 (.int .i64 a0_0); have hcz12_1 := cz_ BK515.out 1 (.int .i64 a0_1); have hcz12_2 := cz_ BK515.out 2 (.int .i64 0); have hcz12_3 := cz_ BK515.out 3 (.int .i64 0); have hcz12_4 := cz_ BK515.out 4 (.int .i64 0); have hcz12_5 := cz_ BK515.out 5 (.int .i64 0); have hcz12_6 := cz_ BK515.out 6 (.string (⟨#[]⟩ : ByteArray)); have hfz12_0 := blk_frozen BK515.out 0; have hfz12_1 := blk_frozen BK515.out 1; have hfz12_2 := blk_frozen BK515.out 2; have hfz12_3 := blk_frozen BK515.out 3; have hfz12_4 := blk_frozen BK515.out 4; have hfz12_5 := blk_frozen BK515.out 5; have hfz12_6 := blk_frozen BK515.out 6; have hcz13_0 := cz_ BK514.out 0 (.int .i64 0); have hcz13_1 := cz_ BK514.out 1 (.int .i64 0); have hcz13_2 := cz_ BK514.out 2 (.int .i64 0); have hcz13_3 := cz_ BK514.out 3 (.int .i64 0); have hcz13_4 := cz_ BK514.out 4 (.int .i64 0); have hcz13_5 := cz_ BK514.out 5 (.int .i64 0); have hcz13_6 := cz_ BK514.out 6 (.string (⟨#[]⟩ : ByteArray)); have hfz13_0 := blk_frozen BK514.out 0; have hfz13_1 := blk_frozen BK514.out 1; have hfz13_2 := blk_frozen BK514.out 2; have hfz13_3 := blk_frozen BK514.out 3; have hfz13_4 := blk_frozen BK514.out 4; have hfz13_5 := blk_frozen BK514.out 5; have hfz13_6 := blk_frozen BK514.out 6))
 refine bodyPost_ret (results_cell_row rfl _ _ gb514 44 #[.int .i64 a0_0, .int .i64 a0_1, .int .i64 t516, .int .i64 t517, .int .i64 t518, .int .i64 t519, .string t520] (0, 0) _ rfl (by (with_reducible repeat (first | refine blk_drewN ?_ _ | refine blk_drew ?_ | refine blk_alloc ?_ _)); refine blk_put (cs := #[.int .i64 a0_0, .int .i64 a0_1, .int .i64 t516, .int .i64 t517, .int .i64 t518, .int .i64 t519, .string (⟨#[]⟩ : ByteArray)]) ?_ 6 _ rfl; (with_reducible repeat (first | refine blk_drewN ?_ _ | refine blk_drew ?_ | refine blk_alloc ?_ _)); refine blk_put (cs := #[.int .i64 a0_0, .int .i64 a0_1, .int .i64 t516, .int .i64 t517, .int .i64 t518, .int .i64 0, .string (⟨#[]⟩ : ByteArray)]) ?_ 5 _ rfl; (with_reducible repeat (first | refine blk_drewN ?_ _ | refine blk_drew ?_ | refine blk_alloc ?_ _)); refine blk_put (cs := #[.int .i64 a0_0, .int .i64 a0_1, .int .i64 t516, .int .i64 t517, .int .i64 0, .int .i64 0, .string (⟨#[]⟩ : ByteArray)]) ?_ 4 _ rfl; (with_reducible repeat (first | refine blk_drewN ?_ _ | refine blk_drew ?_ | refine blk_alloc ?_ _)); refine blk_put (cs := #[.int .i64 a0_0, .int .i64 a0_1, .int .i64 t516, .int .i64 0, .int .i64 0, .int .i64 0, .string (⟨#[]⟩ : ByteArray)]) ?_ 3 _ rfl; (with_reducible repeat (first | refine blk_drewN ?_ _ | refine blk_drew ?_ | refine blk_alloc ?_ _)); refine blk_put (cs := #[.int .i64 a0_0, .int .i64 a0_1, .int .i64 0, .int .i64 0, .int .i64 0, .int .i64 0, .string (⟨#[]⟩ : ByteArray)]) ?_ 2 _ rfl; (with_reducible repeat (first | refine blk_drewN ?_ _ | refine blk_drew ?_ | refine blk_alloc ?_ _)); refine blk_put (cs := #[.int .i64 a0_0, .int .i64 0, .int .i64 0, .int .i64 0, .int .i64 0, .int .i64 0, .string (⟨#[]⟩ : ByteArray)]) ?_ 1 _ rfl; (with_reducible repeat (first | refine blk_drewN ?_ _ | refine blk_drew ?_ | refine blk_alloc ?_ _)); refine blk_put (cs := #[.int .i64 0, .int .i64 0, .int .i64 0, .int .i64 0, .int .i64 0, .int .i64 0, .string (⟨#[]⟩ : ByteArray)]) ?_ 0 _ rfl; (with_reducible repeat (first | refine blk_drewN ?_ _ | refine blk_drew ?_ | refine blk_alloc ?_ _)); refine blk_far ?_ NB514_515.out _; (with_reducible repeat (first | refine blk_drewN ?_ _ | refine blk_drew ?_ | refine blk_alloc ?_ _)); refine blk_far ?_ NB514_515.out _; (with_reducible repeat (first | refine blk_drewN ?_ _ | refine blk_drew ?_ | refine blk_alloc ?_ _)); refine blk_far ?_ NB514_515.out _; (with_reducible repeat (first | refine blk_drewN ?_ _ | refine blk_drew ?_ | refine blk_alloc ?_ _)); refine blk_far ?_ NB514_515.out _; (with_reducible repeat (first | refine blk_drewN ?_ _ | refine blk_drew ?_ | refine blk_alloc ?_ _)); refine blk_far ?_ NB514_515.out _; (with_reducible repeat (first | refine blk_drewN ?_ _ | refine blk_drew ?_ | refine blk_alloc ?_ _)); exact BK514.out) Tryd.underlying44 rfl (by kernel_rfl)) rfl ?_
 exact ⟨fi_, bel_⟩

def laws_toEntryS.l0 : Nat → List (S36) → List (S44) → Int → Option ((List (S44)))
 | 0, _, _, _ => none
 | k + 1, x0, x3, x4 => if x4 < (x0.length : Int) then (if 0 ≤ x4 then ((laws_toEntry.f ((rd_T36 x0 x4).f0) ((rd_T36 x0 x4).f1) ((rd_T36 x0 x4).f2.f0) ((rd_T36 x0 x4).f2.f1) ((rd_T36 x0 x4).f2.f2) ((rd_T36 x0 x4).f2.f3) ((rd_T36 x0 x4).f2.f4)).bind fun bt525 => (if x4 < (x3.length : Int) then (laws_toEntryS.l0 k x0 (x3.set (x4 : Int).toNat (⟨bt525.1, bt525.2.1, (⟨bt525.2.2.1, bt525.2.2.2.1, bt525.2.2.2.2.1, bt525.2.2.2.2.2.1, bt525.2.2.2.2.2.2⟩ : S42)⟩ : S44)) (wrap64 (x4 + 1))) else (none))) else (none)) else (some x3)
def laws_toEntryS.f (k : Nat) (l0 : List (S36)) : Option ((List (S44))) := if 0 ≤ (l0.length : Int) then (if ((l0.length : Int) : Int).toNat ≤ 4398046511104 then (laws_toEntryS.l0 k l0 (List.replicate ((l0.length : Int) : Int).toNat z44) 0) else (none)) else (none)
theorem laws_toEntryS.mono_l : ∀ k, (∀ y0 y1 y2, LeO (laws_toEntryS.l0 k y0 y1 y2) (laws_toEntryS.l0 (k + 1) y0 y1 y2))
 | 0 => fun _ _ _ r h => by simp [laws_toEntryS.l0] at h
 | k + 1 => by
  have ih0 := laws_toEntryS.mono_l k
  ·intro y0 y1 y2
   unfold laws_toEntryS.l0
   repeat' first
   | (with_reducible exact ih0 _ _ _)
   | (with_reducible exact LeO.refl _)
   | (with_reducible exact LeO.none _)
   | (with_reducible refine LeO.ite ?_ ?_)
   | (with_reducible refine LeO.bind ?_ (fun _ => ?_))
   | exact ih0 _ _ _
   | exact LeO.none _
   | refine LeO.ite ?_ ?_
   | refine LeO.bind ?_ (fun _ => ?_)
theorem laws_toEntryS.mono : ∀ a0 k, LeO (laws_toEntryS.f k a0) (laws_toEntryS.f (k + 1) a0) := by
 intro a0 k
 have ih0 := laws_toEntryS.mono_l k
 unfold laws_toEntryS.f
 repeat' first
   | (with_reducible exact ih0 _ _ _)
   | (with_reducible exact LeO.refl _)
   | (with_reducible exact LeO.none _)
   | (with_reducible refine LeO.ite ?_ ?_)
   | (with_reducible refine LeO.bind ?_ (fun _ => ?_))
   | exact ih0 _ _ _
   | exact LeO.none _
   | refine LeO.ite ?_ ?_
   | refine LeO.bind ?_ (fun _ => ?_)
set_option maxHeartbeats 8000000 in
set_option maxRecDepth 100000 in
theorem laws_toEntryS.calls (k : Nat) (A0 : Option Addr) (c0 : Nat) (l0 : List (S36)) (r : List (S44)) (w : World) (hr0 : Kd.C k36 w A0 l0.length l0) (hc0 : l0.length ≤ c0) (h : laws_toEntryS.f k l0 = some r) :
  Calls Tryd.prog 50 #[.slice A0 l0.length c0] w fun e w' => ∃ v0_ : Value, e = .returned (v0_) ∧ Kd.R k44 44 w' w.heap.size (fun _ => True) v0_ r ∧ Below w.heap.size w w' := by
 have hu36 := Tryd.underlying36
 have hu44 := Tryd.underlying44
 have HR0 := Aside0.mk hr0
 have HC0 := Aside0.mk hc0
 clear hr0 hc0
 have HB := Aside0.mk (Below.refl w.heap.size w)
 unfold laws_toEntryS.f at h
 have H := h
 clear h
 by_cases c2 : 0 ≤ (l0.length : Int)
 ·rw [if_pos c2] at H
  have c2b0 := eq_true c2
  have c2b1 : decide (0 ≤ (l0.length : Int)) = true := decide_eq_true c2
  clear c2
  by_cases c3 : ((l0.length : Int) : Int).toNat ≤ 4398046511104
  ·rw [if_pos c3] at H
   have c3b0 := eq_true c3
   have c3b1 : decide (((l0.length : Int) : Int).toNat ≤ 4398046511104) = true := decide_eq_true c3
   clear c3
   obtain ⟨y521, hy521⟩ : ∃ y_ : List (S44), y_ = (List.replicate ((l0.length : Int) : Int).toNat z44) := ⟨_, rfl⟩
   replace H : (laws_toEntryS.l0 k l0 y521 0) = some r := by first | (rw [hy521]; with_reducible exact H) | (have H2_ := (Option.bind_some _ _).symm.trans H; rw [hy521]; with_reducible exact H2_) | (have H2_ := (Option.bind_some _ _).symm.trans H; with_reducible exact H2_) | with_reducible exact H | (rw [hy521]; exact H) | exact H
   have Ny521 := Aside0.mk hy521
   clear hy521
   have H' := Aside0.mk H
   clear H
   go_enter Tryd.func50, Tryd.ntmps50
   go_wp2_with (first | ((with_reducible refine gate_dst (N := 7) rfl ?_); refine Kd.R_make k44 _ 44 rfl (N := 7) rfl 23 _ _ rfl (l0.length : Int) rfl rfl Tryd.underlying23 (.agg #[(.int .i64 0), (.int .i64 0), (.int .i64 0), (.int .i64 0), (.int .i64 0), (.int .i64 0), (.string ⟨#[]⟩)]) 64 info44 rfl (by decide) (by omega) z44 (ok := fun _ => True) (okp := fun _ => True) (k44_mkM _ _ _ z44 ) (fun _ hk => hk) trivial (od_) (Nat.le_trans (Nat.mul_le_mul_right _ (od_ : (l0.length : Int).toNat ≤ 4398046511104)) (by omega)) (Below.refl _ _) (Nat.le_refl _) ?_; intro v522 w4 ho5 hb hg_ hnew_; clear hg_ hnew_; (first | rw [← Ny521.out] at ho5 | (simp only [Int.reduceToNat] at ho5; rw [← Ny521.out] at ho5)); have HO523 := Aside0.mk (Kd.R_lower ho5 (below_size (bel_))); replace HB := Aside0.mk (below_step (bel_) hb); clear hb ho5))
   go_loopg [4] k (fun kq v4 w' => ∃ (x3_1 : List (S44)) (x4_1 : Int), v4 = .int .i64 x4_1 ∧ Aside0 (laws_toEntryS.l0 kq l0 x3_1 x4_1 = some r) ∧ Aside0 (kq ≤ k) ∧ Aside0 (Kd.R k44 44 w' w.heap.size (fun _ => True) v522 x3_1) ∧ Aside0 (Below w.heap.size w w'))
   case atStart => exact ⟨(y521), (0), (si_), H', ⟨Nat.le_refl _⟩, ⟨by (with_reducible repeat (first | apply Kd.R_alloc | apply Kd.R_drewN | apply Kd.R_drew)); exact HO523.out⟩, ⟨bel_⟩⟩
   case round =>
    clear H'
    try clear c2
    try clear c2b0
    try clear c2b1
    try clear p2
    try clear c3
    try clear c3b0
    try clear c3b1
    try clear c5
    obtain ⟨x3_1, x4_1, rfl, HA, HK1, HO_3, HB⟩ := hrel
    cases gk with
    | zero => exact absurd HA.out (by simp [laws_toEntryS.l0])
    | succ k1 =>
     have H := HA.out
     clear HA
     simp only [laws_toEntryS.l0] at H
     by_cases c6 : x4_1 < (l0.length : Int)
     ·rw [if_pos c6] at H
      have c6b0 : decide (x4_1 < (l0.length : Int)) = true := decide_eq_true c6
      clear c6
      by_cases c7 : 0 ≤ x4_1
      ·rw [if_pos c7] at H
       have c7b0 : decide (0 ≤ x4_1) = true := decide_eq_true c7
       clear c7
       replace H := Option.bind_eq_some_iff.mp H
       obtain ⟨⟨t525, t526, t527, t528, t529, t530, t531⟩, A80, H⟩ := H
       try dsimp only at H
       have A8 := Aside0.mk A80
       clear A80
       by_cases c9 : x4_1 < (x3_1.length : Int)
       ·rw [if_pos c9] at H
        have c9b0 : decide (x4_1 < (x3_1.length : Int)) = true := decide_eq_true c9
        clear c9
        obtain ⟨y532, hy532⟩ : ∃ y_ : List (S44), y_ = (x3_1.set (x4_1 : Int).toNat (⟨t525, t526, (⟨t527, t528, t529, t530, t531⟩ : S42)⟩ : S44)) := ⟨_, rfl⟩
        replace H : (laws_toEntryS.l0 k1 l0 y532 (wrap64 (x4_1 + 1))) = some r := by first | (rw [hy532]; with_reducible exact H) | (have H2_ := (Option.bind_some _ _).symm.trans H; rw [hy532]; with_reducible exact H2_) | (have H2_ := (Option.bind_some _ _).symm.trans H; with_reducible exact H2_) | with_reducible exact H | (rw [hy532]; exact H) | exact H
        have Ny532 := Aside0.mk hy532
        clear hy532
        have H' := Aside0.mk H
        clear H
        have p524 : 0 ≤ (x4_1 : Int) := od_
        have q524 : x4_1 < (l0.length : Int) := od_
        obtain ⟨ad524, e524, hx524_0, hx524_1, hx524_2, hx524_3, hx524_4, hx524_5, hx524_6⟩ := at_T36 HR0.out x4_1 p524 q524
        cases e524
        replace hx524_0 := (cb_ HB.out hx524_0 :)
        replace hx524_1 := (cb_ HB.out hx524_1 :)
        replace hx524_2 := (cb_ HB.out hx524_2 :)
        replace hx524_3 := (cb_ HB.out hx524_3 :)
        replace hx524_4 := (cb_ HB.out hx524_4 :)
        replace hx524_5 := (cb_ HB.out hx524_5 :)
        replace hx524_6 := (cb_ HB.out hx524_6 :)
        replace p524 := eq_true p524
        replace q524 := eq_true q524
        go_wp2_with (first | ((with_reducible refine gate_callee (f := 23) rfl ?_); refine gl_ 20 Tryd.func23 #[.agg #[.int .i64 ((rd_T36 l0 x4_1).f0), .int .i64 ((rd_T36 l0 x4_1).f1), .int .i64 ((rd_T36 l0 x4_1).f2.f0), .int .i64 ((rd_T36 l0 x4_1).f2.f1), .int .i64 ((rd_T36 l0 x4_1).f2.f2), .int .i64 ((rd_T36 l0 x4_1).f2.f3), .string ((rd_T36 l0 x4_1).f2.f4)]] ?_; (with_reducible refine (laws_toEntry.calls ((rd_T36 l0 x4_1).f0) ((rd_T36 l0 x4_1).f1) ((rd_T36 l0 x4_1).f2.f0) ((rd_T36 l0 x4_1).f2.f1) ((rd_T36 l0 x4_1).f2.f2) ((rd_T36 l0 x4_1).f2.f3) ((rd_T36 l0 x4_1).f2.f4) t525 t526 t527 t528 t529 t530 t531 _ A8.out).mono ?_); rintro e w11 ⟨rfl, hb⟩; refine ⟨_, rfl, ?_⟩; replace HO_3 := Aside0.mk (Kd.R_below (rp_ HO_3.out) hb); replace HB := Aside0.mk (below_step (bel_) hb); (try clear hb); have p10 : 0 ≤ (x4_1 : Int) := od_; have q10 : (x4_1 : Int) < ((x3_1.length : Int) : Int) := od_; obtain ⟨go10, co10, eo10, gb10, gl10, cl10, HG10⟩ := Kd.R_form HO_3.out (by omega); (first | cases eo10 | (injection eo10 with ea_ en_ ec_; (first | subst ea_ | (injection ea_ with ea_; subst ea_)); subst ec_; clear en_)); have GB10 := Aside0.mk gb10; have GG10 := Aside0.mk HG10; clear gb10 gl10 HG10; obtain ⟨ce10, hcl10, hM10, hcc10, hfr10⟩ := Kd.R_elem HO_3.out z44 (x4_1 : Int) p10 q10; obtain rfl := k44_openM hM10; have hx10_0 : w11.cell? ⟨go10, (x4_1 : Int).toNat * 7, none⟩ = some (.int .i64 ((rd_T44 x3_1 x4_1).f0)) := hcc10 0 _ rfl; have hx10_1 : w11.cell? ⟨go10, (x4_1 : Int).toNat * 7 + 1, none⟩ = some (.int .i64 ((rd_T44 x3_1 x4_1).f1)) := hcc10 1 _ rfl; have hx10_2 : w11.cell? ⟨go10, (x4_1 : Int).toNat * 7 + 2, none⟩ = some (.int .i64 ((rd_T44 x3_1 x4_1).f2.f0)) := hcc10 2 _ rfl; have hx10_3 : w11.cell? ⟨go10, (x4_1 : Int).toNat * 7 + 3, none⟩ = some (.int .i64 ((rd_T44 x3_1 x4_1).f2.f1)) := hcc10 3 _ rfl; have hx10_4 : w11.cell? ⟨go10, (x4_1 : Int).toNat * 7 + 4, none⟩ = some (.int .i64 ((rd_T44 x3_1 x4_1).f2.f2)) := hcc10 4 _ rfl; have hx10_5 : w11.cell? ⟨go10, (x4_1 : Int).toNat * 7 + 5, none⟩ = some (.int .i64 ((rd_T44 x3_1 x4_1).f2.f3)) := hcc10 5 _ rfl; have hx10_6 : w11.cell? ⟨go10, (x4_1 : Int).toNat * 7 + 6, none⟩ = some (.string ((rd_T44 x3_1 x4_1).f2.f4)) := hcc10 6 _ rfl; have hf10_0 : w11.frozen? ⟨go10, (x4_1 : Int).toNat * 7, none⟩ = false := hfr10 0; have hf10_1 : w11.frozen? ⟨go10, (x4_1 : Int).toNat * 7 + 1, none⟩ = false := hfr10 1; have hf10_2 : w11.frozen? ⟨go10, (x4_1 : Int).toNat * 7 + 2, none⟩ = false := hfr10 2; have hf10_3 : w11.frozen? ⟨go10, (x4_1 : Int).toNat * 7 + 3, none⟩ = false := hfr10 3; have hf10_4 : w11.frozen? ⟨go10, (x4_1 : Int).toNat * 7 + 4, none⟩ = false := hfr10 4; have hf10_5 : w11.frozen? ⟨go10, (x4_1 : Int).toNat * 7 + 5, none⟩ = false := hfr10 5; have hf10_6 : w11.frozen? ⟨go10, (x4_1 : Int).toNat * 7 + 6, none⟩ = false := hfr10 6; clear hcl10 hcc10 hfr10 hM10; replace p10 := eq_true p10; replace q10 := eq_true q10; have HX12 := Aside0.mk (show Kd.R k44 44 w11 w.heap.size (fun _ => True) (.slice (some ⟨go10, 0, none⟩) x3_1.length co10) x3_1 from (rp_ HO_3.out)); obtain ⟨ce12, hcl12, hM12, hcc12, hfr12⟩ := Kd.R_elem HX12.out z44 (x4_1 : Int) (od_) (by have h_ : (x4_1 : Int) < ((x3_1.length : Int) : Int) := od_; first | exact h_ | (have e_ := (Kd.R_reads' HO_3.out).1; omega) | simpa using h_); obtain rfl := k44_openM hM12; have HP12 := Kd.R_seg HX12.out (x4_1 : Int) (od_) (by have h_ : (x4_1 : Int) < ((x3_1.length : Int) : Int) := od_; first | exact h_ | (have e_ := (Kd.R_reads' HO_3.out).1; omega) | simpa using h_) (seg := [.int .i64 t525, .int .i64 t526, .int .i64 t527, .int .i64 t528, .int .i64 t529, .int .i64 t530, .string t531]) (j := 0) hcl12 hcc12 (show 7 ≤ 7 from by decide) (x' := (⟨t525, t526, (⟨t527, t528, t529, t530, t531⟩ : S42)⟩ : S44)) (k44_mkM _ _ _ (⟨t525, t526, (⟨t527, t528, t529, t530, t531⟩ : S42)⟩ : S44) ) (fun _ hk => hk); have hx12_0 := hcc12 0 _ rfl; (try simp only [show (k44).sz = 7 from rfl, Nat.mul_one, Nat.add_zero] at hx12_0); have hf12_0 := hfr12 0; (try simp only [show (k44).sz = 7 from rfl, Nat.mul_one, Nat.add_zero] at hf12_0); have hx12_1 := hcc12 1 _ rfl; (try simp only [show (k44).sz = 7 from rfl, Nat.mul_one, Nat.add_zero] at hx12_1); have hf12_1 := hfr12 1; (try simp only [show (k44).sz = 7 from rfl, Nat.mul_one, Nat.add_zero] at hf12_1); have hx12_2 := hcc12 2 _ rfl; (try simp only [show (k44).sz = 7 from rfl, Nat.mul_one, Nat.add_zero] at hx12_2); have hf12_2 := hfr12 2; (try simp only [show (k44).sz = 7 from rfl, Nat.mul_one, Nat.add_zero] at hf12_2); have hx12_3 := hcc12 3 _ rfl; (try simp only [show (k44).sz = 7 from rfl, Nat.mul_one, Nat.add_zero] at hx12_3); have hf12_3 := hfr12 3; (try simp only [show (k44).sz = 7 from rfl, Nat.mul_one, Nat.add_zero] at hf12_3); have hx12_4 := hcc12 4 _ rfl; (try simp only [show (k44).sz = 7 from rfl, Nat.mul_one, Nat.add_zero] at hx12_4); have hf12_4 := hfr12 4; (try simp only [show (k44).sz = 7 from rfl, Nat.mul_one, Nat.add_zero] at hf12_4); have hx12_5 := hcc12 5 _ rfl; (try simp only [show (k44).sz = 7 from rfl, Nat.mul_one, Nat.add_zero] at hx12_5); have hf12_5 := hfr12 5; (try simp only [show (k44).sz = 7 from rfl, Nat.mul_one, Nat.add_zero] at hf12_5); have hx12_6 := hcc12 6 _ rfl; (try simp only [show (k44).sz = 7 from rfl, Nat.mul_one, Nat.add_zero] at hx12_6); have hf12_6 := hfr12 6; (try simp only [show (k44).sz = 7 from rfl, Nat.mul_one, Nat.add_zero] at hf12_6); clear hcl12 hcc12 hfr12 hM12) | ((with_reducible refine gate_store (t := 44) (p := 21) rfl ?_); refine store_event (t := 44) (p := 21) (v := ?vo_w13) (w1 := (((((((w11.setCell ⟨go10, (x4_1 : Int).toNat * 7, none⟩ (.int .i64 t525)).setCell ⟨go10, (x4_1 : Int).toNat * 7 + 1, none⟩ (.int .i64 t526)).setCell ⟨go10, (x4_1 : Int).toNat * 7 + 2, none⟩ (.int .i64 t527)).setCell ⟨go10, (x4_1 : Int).toNat * 7 + 3, none⟩ (.int .i64 t528)).setCell ⟨go10, (x4_1 : Int).toNat * 7 + 4, none⟩ (.int .i64 t529)).setCell ⟨go10, (x4_1 : Int).toNat * 7 + 5, none⟩ (.int .i64 t530)).setCell ⟨go10, (x4_1 : Int).toNat * 7 + 6, none⟩ (.string t531))) ?hg ?ho ?hn ?hr ?_; (case ho => rfl); (case hg => rfl); (case hn => rfl); (case hr => first | (go_simp; done) | (go_simp; rfl)); intro w13 hw; have hg : w11.grownBy w13 (some go10) := (by rw [hw]; exact HP12.2); have hp_ : Kd.R k44 44 w13 w.heap.size (fun _ => True) (.slice (some ⟨go10, 0, none⟩) x3_1.length co10) y532 := (by rw [hw, Ny532.out]; exact HP12.1); clear HP12; have n0_ := Aside0.mk (hp_); have n1_ := Aside0.mk ((by rw [hw]; exact below_set (below_set (below_set (below_set (below_set (below_set (below_set (HB.out) GB10.out) GB10.out) GB10.out) GB10.out) GB10.out) GB10.out) GB10.out : Below w.heap.size w w13)); clear HO_3; clear HB; have HO_3 := n0_; have HB := n1_; clear n0_ n1_; clear hg hw hp_))
        go_roundg k1
        case measure => have := HK1.out; omega
        case rel => exact ⟨(y532), (wrap64 (x4_1 + 1)), (si_), H', ⟨by have := HK1.out; omega⟩, ⟨by (with_reducible repeat (first | apply Kd.R_alloc | apply Kd.R_drewN | apply Kd.R_drew)); exact HO_3.out⟩, ⟨bel_⟩⟩
       ·rw [if_neg c9] at H
        exact absurd H (by simp)
      ·rw [if_neg c7] at H
       exact absurd H (by simp)
     ·rw [if_neg c6] at H
      have c6b0 : decide (x4_1 < (l0.length : Int)) = false := decide_eq_false c6
      clear c6
      obtain rfl := Option.some.inj H
      go_wp2
      go_ret
      exact ⟨_, fi_, by (with_reducible repeat (first | apply Kd.R_alloc | apply Kd.R_drewN | apply Kd.R_drew)); exact HO_3.out, bel_⟩
  ·rw [if_neg c3] at H
   exact absurd H (by simp)
 ·rw [if_neg c2] at H
  exact absurd H (by simp)

def laws_eqOp.f (a0_0 : Int) (a0_1 : Int) (a0_2 : Int) (a0_3 : Int) (a0_4 : ByteArray) (a1_0 : Int) (a1_1 : Int) (a1_2 : Int) (a1_3 : Int) (a1_4 : ByteArray) : Option (Bool) := if a0_0 = a1_0 then (if a0_1 = a1_1 then (if a0_2 = a1_2 then (if a0_3 = a1_3 then (if a0_4.toList = a1_4.toList then (some true) else (some false)) else (some false)) else (some false)) else (some false)) else (some false)
set_option maxHeartbeats 8000000 in
set_option maxRecDepth 100000 in
theorem laws_eqOp.calls (a0_0 : Int) (a0_1 : Int) (a0_2 : Int) (a0_3 : Int) (a0_4 : ByteArray) (a1_0 : Int) (a1_1 : Int) (a1_2 : Int) (a1_3 : Int) (a1_4 : ByteArray) (r : Bool) (w : World) (h : laws_eqOp.f a0_0 a0_1 a0_2 a0_3 a0_4 a1_0 a1_1 a1_2 a1_3 a1_4 = some r) :
  Calls Tryd.prog 137 #[.agg #[.int .i64 a0_0, .int .i64 a0_1, .int .i64 a0_2, .int .i64 a0_3, .string a0_4], .agg #[.int .i64 a1_0, .int .i64 a1_1, .int .i64 a1_2, .int .i64 a1_3, .string a1_4]] w fun e w' => e = .returned (.bool r) ∧ Below w.heap.size w w' := by
 have hu42 := Tryd.underlying42
 have HB := Aside0.mk (Below.refl w.heap.size w)
 unfold laws_eqOp.f at h
 have H := h
 clear h
 by_cases c3 : a0_0 = a1_0
 ·rw [if_pos c3] at H
  have c3b0 : (a0_0 == a1_0) = true := beq_iff_eq.mpr c3
  have c3b1 : (a0_0 != a1_0) = false := bne_eq_false_iff_eq.mpr c3
  clear c3
  by_cases c4 : a0_1 = a1_1
  ·rw [if_pos c4] at H
   have c4b0 : (a0_1 == a1_1) = true := beq_iff_eq.mpr c4
   have c4b1 : (a0_1 != a1_1) = false := bne_eq_false_iff_eq.mpr c4
   clear c4
   by_cases c5 : a0_2 = a1_2
   ·rw [if_pos c5] at H
    have c5b0 : (a0_2 == a1_2) = true := beq_iff_eq.mpr c5
    have c5b1 : (a0_2 != a1_2) = false := bne_eq_false_iff_eq.mpr c5
    clear c5
    by_cases c6 : a0_3 = a1_3
    ·rw [if_pos c6] at H
     have c6b0 : (a0_3 == a1_3) = true := beq_iff_eq.mpr c6
     have c6b1 : (a0_3 != a1_3) = false := bne_eq_false_iff_eq.mpr c6
     clear c6
     by_cases c7 : a0_4.toList = a1_4.toList
     ·rw [if_pos c7] at H
      have c7b0 : (a0_4.toList == a1_4.toList) = true := beq_iff_eq.mpr c7
      have c7b1 : (a0_4.toList != a1_4.toList) = false := bne_eq_false_iff_eq.mpr c7
      clear c7
      obtain rfl := Option.some.inj H
      go_enter Tryd.func137, Tryd.ntmps137
      go_wp2_with (first | ((with_reducible refine gate_dst (N := 2) rfl ?_); refine bx_ 2 (#[.int .i64 a0_0, .int .i64 a0_1, .int .i64 a0_2, .int .i64 a0_3, .string a0_4]) 42 ?_; intro gb552 hg w8 hbox hb; have n0_ := Aside0.mk (below_step (bel_) hb); have n1_ := Aside0.mk (hbox); have n2_ := Aside0.mk ((by rw [hg]; exact (below_size (bel_)) : w.heap.size ≤ gb552)); have n3_ := Aside0.mk ((by rw [hg]; exact (below_size (bel_)) : w.heap.size ≤ gb552)); clear HB; have HB := n0_; have BK552 := n1_; have GW552 := n2_; have GE552 := n3_; clear n0_ n1_ n2_ n3_; clear hb hbox hg) | ((with_reducible refine gate_dst (N := 3) rfl ?_); refine bx_ 3 (#[.int .i64 a1_0, .int .i64 a1_1, .int .i64 a1_2, .int .i64 a1_3, .string a1_4]) 42 ?_; intro gb553 hg w9 hbox hb; have n0_ := Aside0.mk (bb_ BK552.out hb); have n1_ := Aside0.mk (below_step (bel_) hb); have n2_ := Aside0.mk (hbox); have n3_ := Aside0.mk ((by rw [hg]; exact (below_size (bel_)) : w.heap.size ≤ gb553)); have n4_ := Aside0.mk ((by rw [hg]; exact (below_size (bel_)) : w.heap.size ≤ gb553)); have n5_ := Aside0.mk ((by rw [hg]; exact Nat.ne_of_lt (blk_lt (g := gb552) (o := .cells #[.int .i64 a0_0, .int .i64 a0_1, .int .i64 a0_2, .int .i64 a0_3, .string a0_4] 42 (0, 0)) (bp_ BK552.out)) : gb552 ≠ gb553)); have n6_ := Aside0.mk ((by rw [hg]; exact Nat.ne_of_gt (blk_lt (g := gb552) (o := .cells #[.int .i64 a0_0, .int .i64 a0_1, .int .i64 a0_2, .int .i64 a0_3, .string a0_4] 42 (0, 0)) (bp_ BK552.out)) : gb553 ≠ gb552)); clear BK552; clear HB; have BK552 := n0_; have HB := n1_; have BK553 := n2_; have GW553 := n3_; have GE553 := n4_; have NB552_553 := n5_; have NB553_552 := n6_; clear n0_ n1_ n2_ n3_ n4_ n5_ n6_; clear hb hbox hg; have hnb10 := NB552_553.out; have hnc10 := NB553_552.out; have hcz11_0 := cz_ BK552.out 0 (.int .i64 a0_0); have hcz11_1 := cz_ BK552.out 1 (.int .i64 a0_1); have hcz11_2 := cz_ BK552.out 2 (.int .i64 a0_2); have hcz11_3 := cz_ BK552.out 3 (.int .i64 a0_3); have hcz11_4 := cz_ BK552.out 4 (.string a0_4); have hfz11_0 := blk_frozen BK552.out 0; have hfz11_1 := blk_frozen BK552.out 1; have hfz11_2 := blk_frozen BK552.out 2; have hfz11_3 := blk_frozen BK552.out 3; have hfz11_4 := blk_frozen BK552.out 4; have hcz12_0 := cz_ BK553.out 0 (.int .i64 a1_0); have hcz12_1 := cz_ BK553.out 1 (.int .i64 a1_1); have hcz12_2 := cz_ BK553.out 2 (.int .i64 a1_2); have hcz12_3 := cz_ BK553.out 3 (.int .i64 a1_3); have hcz12_4 := cz_ BK553.out 4 (.string a1_4); have hfz12_0 := blk_frozen BK553.out 0; have hfz12_1 := blk_frozen BK553.out 1; have hfz12_2 := blk_frozen BK553.out 2; have hfz12_3 := blk_frozen BK553.out 3; have hfz12_4 := blk_frozen BK553.out 4))
      go_ret
      exact ⟨fi_, bel_⟩
     ·rw [if_neg c7] at H
      have c7b0 : (a0_4.toList == a1_4.toList) = false := beq_eq_false_iff_ne.mpr c7
      have c7b1 : (a0_4.toList != a1_4.toList) = true := bne_iff_ne.mpr c7
      obtain rfl := Option.some.inj H
      go_enter Tryd.func137, Tryd.ntmps137
      go_wp2_with (first | ((with_reducible refine gate_dst (N := 2) rfl ?_); refine bx_ 2 (#[.int .i64 a0_0, .int .i64 a0_1, .int .i64 a0_2, .int .i64 a0_3, .string a0_4]) 42 ?_; intro gb552 hg w13 hbox hb; have n0_ := Aside0.mk (below_step (bel_) hb); have n1_ := Aside0.mk (hbox); have n2_ := Aside0.mk ((by rw [hg]; exact (below_size (bel_)) : w.heap.size ≤ gb552)); have n3_ := Aside0.mk ((by rw [hg]; exact (below_size (bel_)) : w.heap.size ≤ gb552)); clear HB; have HB := n0_; have BK552 := n1_; have GW552 := n2_; have GE552 := n3_; clear n0_ n1_ n2_ n3_; clear hb hbox hg) | ((with_reducible refine gate_dst (N := 3) rfl ?_); refine bx_ 3 (#[.int .i64 a1_0, .int .i64 a1_1, .int .i64 a1_2, .int .i64 a1_3, .string a1_4]) 42 ?_; intro gb553 hg w14 hbox hb; have n0_ := Aside0.mk (bb_ BK552.out hb); have n1_ := Aside0.mk (below_step (bel_) hb); have n2_ := Aside0.mk (hbox); have n3_ := Aside0.mk ((by rw [hg]; exact (below_size (bel_)) : w.heap.size ≤ gb553)); have n4_ := Aside0.mk ((by rw [hg]; exact (below_size (bel_)) : w.heap.size ≤ gb553)); have n5_ := Aside0.mk ((by rw [hg]; exact Nat.ne_of_lt (blk_lt (g := gb552) (o := .cells #[.int .i64 a0_0, .int .i64 a0_1, .int .i64 a0_2, .int .i64 a0_3, .string a0_4] 42 (0, 0)) (bp_ BK552.out)) : gb552 ≠ gb553)); have n6_ := Aside0.mk ((by rw [hg]; exact Nat.ne_of_gt (blk_lt (g := gb552) (o := .cells #[.int .i64 a0_0, .int .i64 a0_1, .int .i64 a0_2, .int .i64 a0_3, .string a0_4] 42 (0, 0)) (bp_ BK552.out)) : gb553 ≠ gb552)); clear BK552; clear HB; have BK552 := n0_; have HB := n1_; have BK553 := n2_; have GW553 := n3_; have GE553 := n4_; have NB552_553 := n5_; have NB553_552 := n6_; clear n0_ n1_ n2_ n3_ n4_ n5_ n6_; clear hb hbox hg; have hnb15 := NB552_553.out; have hnc15 := NB553_552.out; have hcz16_0 := cz_ BK552.out 0 (.int .i64 a0_0); have hcz16_1 := cz_ BK552.out 1 (.int .i64 a0_1); have hcz16_2 := cz_ BK552.out 2 (.int .i64 a0_2); have hcz16_3 := cz_ BK552.out 3 (.int .i64 a0_3); have hcz16_4 := cz_ BK552.out 4 (.string a0_4); have hfz16_0 := blk_frozen BK552.out 0; have hfz16_1 := blk_frozen BK552.out 1; have hfz16_2 := blk_frozen BK552.out 2; have hfz16_3 := blk_frozen BK552.out 3; have hfz16_4 := blk_frozen BK552.out 4; have hcz17_0 := cz_ BK553.out 0 (.int .i64 a1_0); have hcz17_1 := cz_ BK553.out 1 (.int .i64 a1_1); have hcz17_2 := cz_ BK553.out 2 (.int .i64 a1_2); have hcz17_3 := cz_ BK553.out 3 (.int .i64 a1_3); have hcz17_4 := cz_ BK553.out 4 (.string a1_4); have hfz17_0 := blk_frozen BK553.out 0; have hfz17_1 := blk_frozen BK553.out 1; have hfz17_2 := blk_frozen BK553.out 2; have hfz17_3 := blk_frozen BK553.out 3; have hfz17_4 := blk_frozen BK553.out 4))
      go_ret
      exact ⟨fi_, bel_⟩
    ·rw [if_neg c6] at H
     have c6b0 : (a0_3 == a1_3) = false := beq_eq_false_iff_ne.mpr c6
     have c6b1 : (a0_3 != a1_3) = true := bne_iff_ne.mpr c6
     obtain rfl := Option.some.inj H
     go_enter Tryd.func137, Tryd.ntmps137
     go_wp2_with (first | ((with_reducible refine gate_dst (N := 2) rfl ?_); refine bx_ 2 (#[.int .i64 a0_0, .int .i64 a0_1, .int .i64 a0_2, .int .i64 a0_3, .string a0_4]) 42 ?_; intro gb552 hg w18 hbox hb; have n0_ := Aside0.mk (below_step (bel_) hb); have n1_ := Aside0.mk (hbox); have n2_ := Aside0.mk ((by rw [hg]; exact (below_size (bel_)) : w.heap.size ≤ gb552)); have n3_ := Aside0.mk ((by rw [hg]; exact (below_size (bel_)) : w.heap.size ≤ gb552)); clear HB; have HB := n0_; have BK552 := n1_; have GW552 := n2_; have GE552 := n3_; clear n0_ n1_ n2_ n3_; clear hb hbox hg) | ((with_reducible refine gate_dst (N := 3) rfl ?_); refine bx_ 3 (#[.int .i64 a1_0, .int .i64 a1_1, .int .i64 a1_2, .int .i64 a1_3, .string a1_4]) 42 ?_; intro gb553 hg w19 hbox hb; have n0_ := Aside0.mk (bb_ BK552.out hb); have n1_ := Aside0.mk (below_step (bel_) hb); have n2_ := Aside0.mk (hbox); have n3_ := Aside0.mk ((by rw [hg]; exact (below_size (bel_)) : w.heap.size ≤ gb553)); have n4_ := Aside0.mk ((by rw [hg]; exact (below_size (bel_)) : w.heap.size ≤ gb553)); have n5_ := Aside0.mk ((by rw [hg]; exact Nat.ne_of_lt (blk_lt (g := gb552) (o := .cells #[.int .i64 a0_0, .int .i64 a0_1, .int .i64 a0_2, .int .i64 a0_3, .string a0_4] 42 (0, 0)) (bp_ BK552.out)) : gb552 ≠ gb553)); have n6_ := Aside0.mk ((by rw [hg]; exact Nat.ne_of_gt (blk_lt (g := gb552) (o := .cells #[.int .i64 a0_0, .int .i64 a0_1, .int .i64 a0_2, .int .i64 a0_3, .string a0_4] 42 (0, 0)) (bp_ BK552.out)) : gb553 ≠ gb552)); clear BK552; clear HB; have BK552 := n0_; have HB := n1_; have BK553 := n2_; have GW553 := n3_; have GE553 := n4_; have NB552_553 := n5_; have NB553_552 := n6_; clear n0_ n1_ n2_ n3_ n4_ n5_ n6_; clear hb hbox hg; have hnb20 := NB552_553.out; have hnc20 := NB553_552.out; have hcz21_0 := cz_ BK552.out 0 (.int .i64 a0_0); have hcz21_1 := cz_ BK552.out 1 (.int .i64 a0_1); have hcz21_2 := cz_ BK552.out 2 (.int .i64 a0_2); have hcz21_3 := cz_ BK552.out 3 (.int .i64 a0_3); have hcz21_4 := cz_ BK552.out 4 (.string a0_4); have hfz21_0 := blk_frozen BK552.out 0; have hfz21_1 := blk_frozen BK552.out 1; have hfz21_2 := blk_frozen BK552.out 2; have hfz21_3 := blk_frozen BK552.out 3; have hfz21_4 := blk_frozen BK552.out 4; have hcz22_0 := cz_ BK553.out 0 (.int .i64 a1_0); have hcz22_1 := cz_ BK553.out 1 (.int .i64 a1_1); have hcz22_2 := cz_ BK553.out 2 (.int .i64 a1_2); have hcz22_3 := cz_ BK553.out 3 (.int .i64 a1_3); have hcz22_4 := cz_ BK553.out 4 (.string a1_4); have hfz22_0 := blk_frozen BK553.out 0; have hfz22_1 := blk_frozen BK553.out 1; have hfz22_2 := blk_frozen BK553.out 2; have hfz22_3 := blk_frozen BK553.out 3; have hfz22_4 := blk_frozen BK553.out 4))
     go_ret
     exact ⟨fi_, bel_⟩
   ·rw [if_neg c5] at H
    have c5b0 : (a0_2 == a1_2) = false := beq_eq_false_iff_ne.mpr c5
    have c5b1 : (a0_2 != a1_2) = true := bne_iff_ne.mpr c5
    obtain rfl := Option.some.inj H
    go_enter Tryd.func137, Tryd.ntmps137
    go_wp2_with (first | ((with_reducible refine gate_dst (N := 2) rfl ?_); refine bx_ 2 (#[.int .i64 a0_0, .int .i64 a0_1, .int .i64 a0_2, .int .i64 a0_3, .string a0_4]) 42 ?_; intro gb552 hg w23 hbox hb; have n0_ := Aside0.mk (below_step (bel_) hb); have n1_ := Aside0.mk (hbox); have n2_ := Aside0.mk ((by rw [hg]; exact (below_size (bel_)) : w.heap.size ≤ gb552)); have n3_ := Aside0.mk ((by rw [hg]; exact (below_size (bel_)) : w.heap.size ≤ gb552)); clear HB; have HB := n0_; have BK552 := n1_; have GW552 := n2_; have GE552 := n3_; clear n0_ n1_ n2_ n3_; clear hb hbox hg) | ((with_reducible refine gate_dst (N := 3) rfl ?_); refine bx_ 3 (#[.int .i64 a1_0, .int .i64 a1_1, .int .i64 a1_2, .int .i64 a1_3, .string a1_4]) 42 ?_; intro gb553 hg w24 hbox hb; have n0_ := Aside0.mk (bb_ BK552.out hb); have n1_ := Aside0.mk (below_step (bel_) hb); have n2_ := Aside0.mk (hbox); have n3_ := Aside0.mk ((by rw [hg]; exact (below_size (bel_)) : w.heap.size ≤ gb553)); have n4_ := Aside0.mk ((by rw [hg]; exact (below_size (bel_)) : w.heap.size ≤ gb553)); have n5_ := Aside0.mk ((by rw [hg]; exact Nat.ne_of_lt (blk_lt (g := gb552) (o := .cells #[.int .i64 a0_0, .int .i64 a0_1, .int .i64 a0_2, .int .i64 a0_3, .string a0_4] 42 (0, 0)) (bp_ BK552.out)) : gb552 ≠ gb553)); have n6_ := Aside0.mk ((by rw [hg]; exact Nat.ne_of_gt (blk_lt (g := gb552) (o := .cells #[.int .i64 a0_0, .int .i64 a0_1, .int .i64 a0_2, .int .i64 a0_3, .string a0_4] 42 (0, 0)) (bp_ BK552.out)) : gb553 ≠ gb552)); clear BK552; clear HB; have BK552 := n0_; have HB := n1_; have BK553 := n2_; have GW553 := n3_; have GE553 := n4_; have NB552_553 := n5_; have NB553_552 := n6_; clear n0_ n1_ n2_ n3_ n4_ n5_ n6_; clear hb hbox hg; have hnb25 := NB552_553.out; have hnc25 := NB553_552.out; have hcz26_0 := cz_ BK552.out 0 (.int .i64 a0_0); have hcz26_1 := cz_ BK552.out 1 (.int .i64 a0_1); have hcz26_2 := cz_ BK552.out 2 (.int .i64 a0_2); have hcz26_3 := cz_ BK552.out 3 (.int .i64 a0_3); have hcz26_4 := cz_ BK552.out 4 (.string a0_4); have hfz26_0 := blk_frozen BK552.out 0; have hfz26_1 := blk_frozen BK552.out 1; have hfz26_2 := blk_frozen BK552.out 2; have hfz26_3 := blk_frozen BK552.out 3; have hfz26_4 := blk_frozen BK552.out 4; have hcz27_0 := cz_ BK553.out 0 (.int .i64 a1_0); have hcz27_1 := cz_ BK553.out 1 (.int .i64 a1_1); have hcz27_2 := cz_ BK553.out 2 (.int .i64 a1_2); have hcz27_3 := cz_ BK553.out 3 (.int .i64 a1_3); have hcz27_4 := cz_ BK553.out 4 (.string a1_4); have hfz27_0 := blk_frozen BK553.out 0; have hfz27_1 := blk_frozen BK553.out 1; have hfz27_2 := blk_frozen BK553.out 2; have hfz27_3 := blk_frozen BK553.out 3; have hfz27_4 := blk_frozen BK553.out 4))
    go_ret
    exact ⟨fi_, bel_⟩
  ·rw [if_neg c4] at H
   have c4b0 : (a0_1 == a1_1) = false := beq_eq_false_iff_ne.mpr c4
   have c4b1 : (a0_1 != a1_1) = true := bne_iff_ne.mpr c4
   obtain rfl := Option.some.inj H
   go_enter Tryd.func137, Tryd.ntmps137
   go_wp2_with (first | ((with_reducible refine gate_dst (N := 2) rfl ?_); refine bx_ 2 (#[.int .i64 a0_0, .int .i64 a0_1, .int .i64 a0_2, .int .i64 a0_3, .string a0_4]) 42 ?_; intro gb552 hg w28 hbox hb; have n0_ := Aside0.mk (below_step (bel_) hb); have n1_ := Aside0.mk (hbox); have n2_ := Aside0.mk ((by rw [hg]; exact (below_size (bel_)) : w.heap.size ≤ gb552)); have n3_ := Aside0.mk ((by rw [hg]; exact (below_size (bel_)) : w.heap.size ≤ gb552)); clear HB; have HB := n0_; have BK552 := n1_; have GW552 := n2_; have GE552 := n3_; clear n0_ n1_ n2_ n3_; clear hb hbox hg) | ((with_reducible refine gate_dst (N := 3) rfl ?_); refine bx_ 3 (#[.int .i64 a1_0, .int .i64 a1_1, .int .i64 a1_2, .int .i64 a1_3, .string a1_4]) 42 ?_; intro gb553 hg w29 hbox hb; have n0_ := Aside0.mk (bb_ BK552.out hb); have n1_ := Aside0.mk (below_step (bel_) hb); have n2_ := Aside0.mk (hbox); have n3_ := Aside0.mk ((by rw [hg]; exact (below_size (bel_)) : w.heap.size ≤ gb553)); have n4_ := Aside0.mk ((by rw [hg]; exact (below_size (bel_)) : w.heap.size ≤ gb553)); have n5_ := Aside0.mk ((by rw [hg]; exact Nat.ne_of_lt (blk_lt (g := gb552) (o := .cells #[.int .i64 a0_0, .int .i64 a0_1, .int .i64 a0_2, .int .i64 a0_3, .string a0_4] 42 (0, 0)) (bp_ BK552.out)) : gb552 ≠ gb553)); have n6_ := Aside0.mk ((by rw [hg]; exact Nat.ne_of_gt (blk_lt (g := gb552) (o := .cells #[.int .i64 a0_0, .int .i64 a0_1, .int .i64 a0_2, .int .i64 a0_3, .string a0_4] 42 (0, 0)) (bp_ BK552.out)) : gb553 ≠ gb552)); clear BK552; clear HB; have BK552 := n0_; have HB := n1_; have BK553 := n2_; have GW553 := n3_; have GE553 := n4_; have NB552_553 := n5_; have NB553_552 := n6_; clear n0_ n1_ n2_ n3_ n4_ n5_ n6_; clear hb hbox hg; have hnb30 := NB552_553.out; have hnc30 := NB553_552.out; have hcz31_0 := cz_ BK552.out 0 (.int .i64 a0_0); have hcz31_1 := cz_ BK552.out 1 (.int .i64 a0_1); have hcz31_2 := cz_ BK552.out 2 (.int .i64 a0_2); have hcz31_3 := cz_ BK552.out 3 (.int .i64 a0_3); have hcz31_4 := cz_ BK552.out 4 (.string a0_4); have hfz31_0 := blk_frozen BK552.out 0; have hfz31_1 := blk_frozen BK552.out 1; have hfz31_2 := blk_frozen BK552.out 2; have hfz31_3 := blk_frozen BK552.out 3; have hfz31_4 := blk_frozen BK552.out 4; have hcz32_0 := cz_ BK553.out 0 (.int .i64 a1_0); have hcz32_1 := cz_ BK553.out 1 (.int .i64 a1_1); have hcz32_2 := cz_ BK553.out 2 (.int .i64 a1_2); have hcz32_3 := cz_ BK553.out 3 (.int .i64 a1_3); have hcz32_4 := cz_ BK553.out 4 (.string a1_4); have hfz32_0 := blk_frozen BK553.out 0; have hfz32_1 := blk_frozen BK553.out 1; have hfz32_2 := blk_frozen BK553.out 2; have hfz32_3 := blk_frozen BK553.out 3; have hfz32_4 := blk_frozen BK553.out 4))
   go_ret
   exact ⟨fi_, bel_⟩
 ·rw [if_neg c3] at H
  have c3b0 : (a0_0 == a1_0) = false := beq_eq_false_iff_ne.mpr c3
  have c3b1 : (a0_0 != a1_0) = true := bne_iff_ne.mpr c3
  obtain rfl := Option.some.inj H
  go_enter Tryd.func137, Tryd.ntmps137
  go_wp2_with (first | ((with_reducible refine gate_dst (N := 2) rfl ?_); refine bx_ 2 (#[.int .i64 a0_0, .int .i64 a0_1, .int .i64 a0_2, .int .i64 a0_3, .string a0_4]) 42 ?_; intro gb552 hg w33 hbox hb; have n0_ := Aside0.mk (below_step (bel_) hb); have n1_ := Aside0.mk (hbox); have n2_ := Aside0.mk ((by rw [hg]; exact (below_size (bel_)) : w.heap.size ≤ gb552)); have n3_ := Aside0.mk ((by rw [hg]; exact (below_size (bel_)) : w.heap.size ≤ gb552)); clear HB; have HB := n0_; have BK552 := n1_; have GW552 := n2_; have GE552 := n3_; clear n0_ n1_ n2_ n3_; clear hb hbox hg) | ((with_reducible refine gate_dst (N := 3) rfl ?_); refine bx_ 3 (#[.int .i64 a1_0, .int .i64 a1_1, .int .i64 a1_2, .int .i64 a1_3, .string a1_4]) 42 ?_; intro gb553 hg w34 hbox hb; have n0_ := Aside0.mk (bb_ BK552.out hb); have n1_ := Aside0.mk (below_step (bel_) hb); have n2_ := Aside0.mk (hbox); have n3_ := Aside0.mk ((by rw [hg]; exact (below_size (bel_)) : w.heap.size ≤ gb553)); have n4_ := Aside0.mk ((by rw [hg]; exact (below_size (bel_)) : w.heap.size ≤ gb553)); have n5_ := Aside0.mk ((by rw [hg]; exact Nat.ne_of_lt (blk_lt (g := gb552) (o := .cells #[.int .i64 a0_0, .int .i64 a0_1, .int .i64 a0_2, .int .i64 a0_3, .string a0_4] 42 (0, 0)) (bp_ BK552.out)) : gb552 ≠ gb553)); have n6_ := Aside0.mk ((by rw [hg]; exact Nat.ne_of_gt (blk_lt (g := gb552) (o := .cells #[.int .i64 a0_0, .int .i64 a0_1, .int .i64 a0_2, .int .i64 a0_3, .string a0_4] 42 (0, 0)) (bp_ BK552.out)) : gb553 ≠ gb552)); clear BK552; clear HB; have BK552 := n0_; have HB := n1_; have BK553 := n2_; have GW553 := n3_; have GE553 := n4_; have NB552_553 := n5_; have NB553_552 := n6_; clear n0_ n1_ n2_ n3_ n4_ n5_ n6_; clear hb hbox hg; have hnb35 := NB552_553.out; have hnc35 := NB553_552.out; have hcz36_0 := cz_ BK552.out 0 (.int .i64 a0_0); have hcz36_1 := cz_ BK552.out 1 (.int .i64 a0_1); have hcz36_2 := cz_ BK552.out 2 (.int .i64 a0_2); have hcz36_3 := cz_ BK552.out 3 (.int .i64 a0_3); have hcz36_4 := cz_ BK552.out 4 (.string a0_4); have hfz36_0 := blk_frozen BK552.out 0; have hfz36_1 := blk_frozen BK552.out 1; have hfz36_2 := blk_frozen BK552.out 2; have hfz36_3 := blk_frozen BK552.out 3; have hfz36_4 := blk_frozen BK552.out 4; have hcz37_0 := cz_ BK553.out 0 (.int .i64 a1_0); have hcz37_1 := cz_ BK553.out 1 (.int .i64 a1_1); have hcz37_2 := cz_ BK553.out 2 (.int .i64 a1_2); have hcz37_3 := cz_ BK553.out 3 (.int .i64 a1_3); have hcz37_4 := cz_ BK553.out 4 (.string a1_4); have hfz37_0 := blk_frozen BK553.out 0; have hfz37_1 := blk_frozen BK553.out 1; have hfz37_2 := blk_frozen BK553.out 2; have hfz37_3 := blk_frozen BK553.out 3; have hfz37_4 := blk_frozen BK553.out 4))
  go_ret
  exact ⟨fi_, bel_⟩

def laws_eqEntry.f (a0_0 : Int) (a0_1 : Int) (a0_2 : Int) (a0_3 : Int) (a0_4 : Int) (a0_5 : Int) (a0_6 : ByteArray) (a1_0 : Int) (a1_1 : Int) (a1_2 : Int) (a1_3 : Int) (a1_4 : Int) (a1_5 : Int) (a1_6 : ByteArray) : Option (Bool) := if a0_0 = a1_0 then (if a0_1 = a1_1 then ((laws_eqOp.f a0_2 a0_3 a0_4 a0_5 a0_6 a1_2 a1_3 a1_4 a1_5 a1_6).bind fun t556 => (if t556 = true then (some true) else (some false))) else (some false)) else (some false)
set_option maxHeartbeats 8000000 in
set_option maxRecDepth 100000 in
theorem laws_eqEntry.calls (a0_0 : Int) (a0_1 : Int) (a0_2 : Int) (a0_3 : Int) (a0_4 : Int) (a0_5 : Int) (a0_6 : ByteArray) (a1_0 : Int) (a1_1 : Int) (a1_2 : Int) (a1_3 : Int) (a1_4 : Int) (a1_5 : Int) (a1_6 : ByteArray) (r : Bool) (w : World) (h : laws_eqEntry.f a0_0 a0_1 a0_2 a0_3 a0_4 a0_5 a0_6 a1_0 a1_1 a1_2 a1_3 a1_4 a1_5 a1_6 = some r) :
  Calls Tryd.prog 102 #[.agg #[.int .i64 a0_0, .int .i64 a0_1, .int .i64 a0_2, .int .i64 a0_3, .int .i64 a0_4, .int .i64 a0_5, .string a0_6], .agg #[.int .i64 a1_0, .int .i64 a1_1, .int .i64 a1_2, .int .i64 a1_3, .int .i64 a1_4, .int .i64 a1_5, .string a1_6]] w fun e w' => e = .returned (.bool r) ∧ Below w.heap.size w w' := by
 have hu44 := Tryd.underlying44
 have hu42 := Tryd.underlying42
 have HB := Aside0.mk (Below.refl w.heap.size w)
 unfold laws_eqEntry.f at h
 have H := h
 clear h
 by_cases c3 : a0_0 = a1_0
 ·rw [if_pos c3] at H
  have c3b0 : (a0_0 == a1_0) = true := beq_iff_eq.mpr c3
  have c3b1 : (a0_0 != a1_0) = false := bne_eq_false_iff_eq.mpr c3
  clear c3
  by_cases c4 : a0_1 = a1_1
  ·rw [if_pos c4] at H
   have c4b0 : (a0_1 == a1_1) = true := beq_iff_eq.mpr c4
   have c4b1 : (a0_1 != a1_1) = false := bne_eq_false_iff_eq.mpr c4
   clear c4
   replace H := Option.bind_eq_some_iff.mp H
   obtain ⟨t556, A50, H⟩ := H
   try dsimp only at H
   have A5 := Aside0.mk A50
   clear A50
   by_cases c6 : t556 = true
   ·subst c6
    have H1 : (some true) = some r := by rw [if_pos rfl] at H; exact H
    clear H
    have H := H1
    clear H1
    obtain rfl := Option.some.inj H
    go_enter Tryd.func102, Tryd.ntmps102
    go_wp2_with (first | ((with_reducible refine gate_dst (N := 2) rfl ?_); refine bx_ 2 (#[.int .i64 a0_0, .int .i64 a0_1, .int .i64 a0_2, .int .i64 a0_3, .int .i64 a0_4, .int .i64 a0_5, .string a0_6]) 44 ?_; intro gb554 hg w7 hbox hb; have n0_ := Aside0.mk (below_step (bel_) hb); have n1_ := Aside0.mk (hbox); have n2_ := Aside0.mk ((by rw [hg]; exact (below_size (bel_)) : w.heap.size ≤ gb554)); have n3_ := Aside0.mk ((by rw [hg]; exact (below_size (bel_)) : w.heap.size ≤ gb554)); clear HB; have HB := n0_; have BK554 := n1_; have GW554 := n2_; have GE554 := n3_; clear n0_ n1_ n2_ n3_; clear hb hbox hg) | ((with_reducible refine gate_dst (N := 3) rfl ?_); refine bx_ 3 (#[.int .i64 a1_0, .int .i64 a1_1, .int .i64 a1_2, .int .i64 a1_3, .int .i64 a1_4, .int .i64 a1_5, .string a1_6]) 44 ?_; intro gb555 hg w8 hbox hb; have n0_ := Aside0.mk (bb_ BK554.out hb); have n1_ := Aside0.mk (below_step (bel_) hb); have n2_ := Aside0.mk (hbox); have n3_ := Aside0.mk ((by rw [hg]; exact (below_size (bel_)) : w.heap.size ≤ gb555)); have n4_ := Aside0.mk ((by rw [hg]; exact (below_size (bel_)) : w.heap.size ≤ gb555)); have n5_ := Aside0.mk ((by rw [hg]; exact Nat.ne_of_lt (blk_lt (g := gb554) (o := .cells #[.int .i64 a0_0, .int .i64 a0_1, .int .i64 a0_2, .int .i64 a0_3, .int .i64 a0_4, .int .i64 a0_5, .string a0_6] 44 (0, 0)) (bp_ BK554.out)) : gb554 ≠ gb555)); have n6_ := Aside0.mk ((by rw [hg]; exact Nat.ne_of_gt (blk_lt (g := gb554) (o := .cells #[.int .i64 a0_0, .int .i64 a0_1, .int .i64 a0_2, .int .i64 a0_3, .int .i64 a0_4, .int .i64 a0_5, .string a0_6] 44 (0, 0)) (bp_ BK554.out)) : gb555 ≠ gb554)); clear BK554; clear HB; have BK554 := n0_; have HB := n1_; have BK555 := n2_; have GW555 := n3_; have GE555 := n4_; have NB554_555 := n5_; have NB555_554 := n6_; clear n0_ n1_ n2_ n3_ n4_ n5_ n6_; clear hb hbox hg; have hnb9 := NB554_555.out; have hnc9 := NB555_554.out; have hcz10_0 := cz_ BK554.out 0 (.int .i64 a0_0); have hcz10_1 := cz_ BK554.out 1 (.int .i64 a0_1); have hcz10_2 := cz_ BK554.out 2 (.int .i64 a0_2); have hcz10_3 := cz_ BK554.out 3 (.int .i64 a0_3); have hcz10_4 := cz_ BK554.out 4 (.int .i64 a0_4); have hcz10_5 := cz_ BK554.out 5 (.int .i64 a0_5); have hcz10_6 := cz_ BK554.out 6 (.string a0_6); have hfz10_0 := blk_frozen BK554.out 0; have hfz10_1 := blk_frozen BK554.out 1; have hfz10_2 := blk_frozen BK554.out 2; have hfz10_3 := blk_frozen BK554.out 3; have hfz10_4 := blk_frozen BK554.out 4; have hfz10_5 := blk_frozen BK554.out 5; have hfz10_6 := blk_frozen BK554.out 6; have hcz11_0 := cz_ BK555.out 0 (.int .i64 a1_0); have hcz11_1 := cz_ BK555.out 1 (.int .i64 a1_1); have hcz11_2 := cz_ BK555.out 2 (.int .i64 a1_2); have hcz11_3 := cz_ BK555.out 3 (.int .i64 a1_3); have hcz11_4 := cz_ BK555.out 4 (.int .i64 a1_4); have hcz11_5 := cz_ BK555.out 5 (.int .i64 a1_5); have hcz11_6 := cz_ BK555.out 6 (.string a1_6); have hfz11_0 := blk_frozen BK555.out 0; have hfz11_1 := blk_frozen BK555.out 1; have hfz11_2 := blk_frozen BK555.out 2; have hfz11_3 := blk_frozen BK555.out 3; have hfz11_4 := blk_frozen BK555.out 4; have hfz11_5 := blk_frozen BK555.out 5; have hfz11_6 := blk_frozen BK555.out 6) | ((with_reducible refine gate_callee (f := 137) rfl ?_); refine gl_ 19 Tryd.func137 #[.agg #[.int .i64 a0_2, .int .i64 a0_3, .int .i64 a0_4, .int .i64 a0_5, .string a0_6], .agg #[.int .i64 a1_2, .int .i64 a1_3, .int .i64 a1_4, .int .i64 a1_5, .string a1_6]] ?_; (with_reducible refine (laws_eqOp.calls a0_2 a0_3 a0_4 a0_5 a0_6 a1_2 a1_3 a1_4 a1_5 a1_6 true _ A5.out).mono ?_); rintro e w12 ⟨rfl, hb⟩; refine ⟨_, rfl, ?_⟩; replace HB := Aside0.mk (below_step (bel_) hb); replace BK554 := Aside0.mk (bb_ BK554.out hb); replace BK555 := Aside0.mk (bb_ BK555.out hb); (try clear hb)))
    go_ret
    exact ⟨fi_, bel_⟩
   ·replace c6 := Bool.eq_false_iff.mpr c6
    subst c6
    have H1 : (some false) = some r := by rw [if_neg (show ¬ (false = true) by decide)] at H; exact H
    clear H
    have H := H1
    clear H1
    obtain rfl := Option.some.inj H
    go_enter Tryd.func102, Tryd.ntmps102
    go_wp2_with (first | ((with_reducible refine gate_dst (N := 2) rfl ?_); refine bx_ 2 (#[.int .i64 a0_0, .int .i64 a0_1, .int .i64 a0_2, .int .i64 a0_3, .int .i64 a0_4, .int .i64 a0_5, .string a0_6]) 44 ?_; intro gb554 hg w13 hbox hb; have n0_ := Aside0.mk (below_step (bel_) hb); have n1_ := Aside0.mk (hbox); have n2_ := Aside0.mk ((by rw [hg]; exact (below_size (bel_)) : w.heap.size ≤ gb554)); have n3_ := Aside0.mk ((by rw [hg]; exact (below_size (bel_)) : w.heap.size ≤ gb554)); clear HB; have HB := n0_; have BK554 := n1_; have GW554 := n2_; have GE554 := n3_; clear n0_ n1_ n2_ n3_; clear hb hbox hg) | ((with_reducible refine gate_dst (N := 3) rfl ?_); refine bx_ 3 (#[.int .i64 a1_0, .int .i64 a1_1, .int .i64 a1_2, .int .i64 a1_3, .int .i64 a1_4, .int .i64 a1_5, .string a1_6]) 44 ?_; intro gb555 hg w14 hbox hb; have n0_ := Aside0.mk (bb_ BK554.out hb); have n1_ := Aside0.mk (below_step (bel_) hb); have n2_ := Aside0.mk (hbox); have n3_ := Aside0.mk ((by rw [hg]; exact (below_size (bel_)) : w.heap.size ≤ gb555)); have n4_ := Aside0.mk ((by rw [hg]; exact (below_size (bel_)) : w.heap.size ≤ gb555)); have n5_ := Aside0.mk ((by rw [hg]; exact Nat.ne_of_lt (blk_lt (g := gb554) (o := .cells #[.int .i64 a0_0, .int .i64 a0_1, .int .i64 a0_2, .int .i64 a0_3, .int .i64 a0_4, .int .i64 a0_5, .string a0_6] 44 (0, 0)) (bp_ BK554.out)) : gb554 ≠ gb555)); have n6_ := Aside0.mk ((by rw [hg]; exact Nat.ne_of_gt (blk_lt (g := gb554) (o := .cells #[.int .i64 a0_0, .int .i64 a0_1, .int .i64 a0_2, .int .i64 a0_3, .int .i64 a0_4, .int .i64 a0_5, .string a0_6] 44 (0, 0)) (bp_ BK554.out)) : gb555 ≠ gb554)); clear BK554; clear HB; have BK554 := n0_; have HB := n1_; have BK555 := n2_; have GW555 := n3_; have GE555 := n4_; have NB554_555 := n5_; have NB555_554 := n6_; clear n0_ n1_ n2_ n3_ n4_ n5_ n6_; clear hb hbox hg; have hnb15 := NB554_555.out; have hnc15 := NB555_554.out; have hcz16_0 := cz_ BK554.out 0 (.int .i64 a0_0); have hcz16_1 := cz_ BK554.out 1 (.int .i64 a0_1); have hcz16_2 := cz_ BK554.out 2 (.int .i64 a0_2); have hcz16_3 := cz_ BK554.out 3 (.int .i64 a0_3); have hcz16_4 := cz_ BK554.out 4 (.int .i64 a0_4); have hcz16_5 := cz_ BK554.out 5 (.int .i64 a0_5); have hcz16_6 := cz_ BK554.out 6 (.string a0_6); have hfz16_0 := blk_frozen BK554.out 0; have hfz16_1 := blk_frozen BK554.out 1; have hfz16_2 := blk_frozen BK554.out 2; have hfz16_3 := blk_frozen BK554.out 3; have hfz16_4 := blk_frozen BK554.out 4; have hfz16_5 := blk_frozen BK554.out 5; have hfz16_6 := blk_frozen BK554.out 6; have hcz17_0 := cz_ BK555.out 0 (.int .i64 a1_0); have hcz17_1 := cz_ BK555.out 1 (.int .i64 a1_1); have hcz17_2 := cz_ BK555.out 2 (.int .i64 a1_2); have hcz17_3 := cz_ BK555.out 3 (.int .i64 a1_3); have hcz17_4 := cz_ BK555.out 4 (.int .i64 a1_4); have hcz17_5 := cz_ BK555.out 5 (.int .i64 a1_5); have hcz17_6 := cz_ BK555.out 6 (.string a1_6); have hfz17_0 := blk_frozen BK555.out 0; have hfz17_1 := blk_frozen BK555.out 1; have hfz17_2 := blk_frozen BK555.out 2; have hfz17_3 := blk_frozen BK555.out 3; have hfz17_4 := blk_frozen BK555.out 4; have hfz17_5 := blk_frozen BK555.out 5; have hfz17_6 := blk_frozen BK555.out 6) | ((with_reducible refine gate_callee (f := 137) rfl ?_); refine gl_ 19 Tryd.func137 #[.agg #[.int .i64 a0_2, .int .i64 a0_3, .int .i64 a0_4, .int .i64 a0_5, .string a0_6], .agg #[.int .i64 a1_2, .int .i64 a1_3, .int .i64 a1_4, .int .i64 a1_5, .string a1_6]] ?_; (with_reducible refine (laws_eqOp.calls a0_2 a0_3 a0_4 a0_5 a0_6 a1_2 a1_3 a1_4 a1_5 a1_6 false _ A5.out).mono ?_); rintro e w18 ⟨rfl, hb⟩; refine ⟨_, rfl, ?_⟩; replace HB := Aside0.mk (below_step (bel_) hb); replace BK554 := Aside0.mk (bb_ BK554.out hb); replace BK555 := Aside0.mk (bb_ BK555.out hb); (try clear hb)))
    go_ret
    exact ⟨fi_, bel_⟩
  ·rw [if_neg c4] at H
   have c4b0 : (a0_1 == a1_1) = false := beq_eq_false_iff_ne.mpr c4
   have c4b1 : (a0_1 != a1_1) = true := bne_iff_ne.mpr c4
   obtain rfl := Option.some.inj H
   go_enter Tryd.func102, Tryd.ntmps102
   go_wp2_with (first | ((with_reducible refine gate_dst (N := 2) rfl ?_); refine bx_ 2 (#[.int .i64 a0_0, .int .i64 a0_1, .int .i64 a0_2, .int .i64 a0_3, .int .i64 a0_4, .int .i64 a0_5, .string a0_6]) 44 ?_; intro gb554 hg w19 hbox hb; have n0_ := Aside0.mk (below_step (bel_) hb); have n1_ := Aside0.mk (hbox); have n2_ := Aside0.mk ((by rw [hg]; exact (below_size (bel_)) : w.heap.size ≤ gb554)); have n3_ := Aside0.mk ((by rw [hg]; exact (below_size (bel_)) : w.heap.size ≤ gb554)); clear HB; have HB := n0_; have BK554 := n1_; have GW554 := n2_; have GE554 := n3_; clear n0_ n1_ n2_ n3_; clear hb hbox hg) | ((with_reducible refine gate_dst (N := 3) rfl ?_); refine bx_ 3 (#[.int .i64 a1_0, .int .i64 a1_1, .int .i64 a1_2, .int .i64 a1_3, .int .i64 a1_4, .int .i64 a1_5, .string a1_6]) 44 ?_; intro gb555 hg w20 hbox hb; have n0_ := Aside0.mk (bb_ BK554.out hb); have n1_ := Aside0.mk (below_step (bel_) hb); have n2_ := Aside0.mk (hbox); have n3_ := Aside0.mk ((by rw [hg]; exact (below_size (bel_)) : w.heap.size ≤ gb555)); have n4_ := Aside0.mk ((by rw [hg]; exact (below_size (bel_)) : w.heap.size ≤ gb555)); have n5_ := Aside0.mk ((by rw [hg]; exact Nat.ne_of_lt (blk_lt (g := gb554) (o := .cells #[.int .i64 a0_0, .int .i64 a0_1, .int .i64 a0_2, .int .i64 a0_3, .int .i64 a0_4, .int .i64 a0_5, .string a0_6] 44 (0, 0)) (bp_ BK554.out)) : gb554 ≠ gb555)); have n6_ := Aside0.mk ((by rw [hg]; exact Nat.ne_of_gt (blk_lt (g := gb554) (o := .cells #[.int .i64 a0_0, .int .i64 a0_1, .int .i64 a0_2, .int .i64 a0_3, .int .i64 a0_4, .int .i64 a0_5, .string a0_6] 44 (0, 0)) (bp_ BK554.out)) : gb555 ≠ gb554)); clear BK554; clear HB; have BK554 := n0_; have HB := n1_; have BK555 := n2_; have GW555 := n3_; have GE555 := n4_; have NB554_555 := n5_; have NB555_554 := n6_; clear n0_ n1_ n2_ n3_ n4_ n5_ n6_; clear hb hbox hg; have hnb21 := NB554_555.out; have hnc21 := NB555_554.out; have hcz22_0 := cz_ BK554.out 0 (.int .i64 a0_0); have hcz22_1 := cz_ BK554.out 1 (.int .i64 a0_1); have hcz22_2 := cz_ BK554.out 2 (.int .i64 a0_2); have hcz22_3 := cz_ BK554.out 3 (.int .i64 a0_3); have hcz22_4 := cz_ BK554.out 4 (.int .i64 a0_4); have hcz22_5 := cz_ BK554.out 5 (.int .i64 a0_5); have hcz22_6 := cz_ BK554.out 6 (.string a0_6); have hfz22_0 := blk_frozen BK554.out 0; have hfz22_1 := blk_frozen BK554.out 1; have hfz22_2 := blk_frozen BK554.out 2; have hfz22_3 := blk_frozen BK554.out 3; have hfz22_4 := blk_frozen BK554.out 4; have hfz22_5 := blk_frozen BK554.out 5; have hfz22_6 := blk_frozen BK554.out 6; have hcz23_0 := cz_ BK555.out 0 (.int .i64 a1_0); have hcz23_1 := cz_ BK555.out 1 (.int .i64 a1_1); have hcz23_2 := cz_ BK555.out 2 (.int .i64 a1_2); have hcz23_3 := cz_ BK555.out 3 (.int .i64 a1_3); have hcz23_4 := cz_ BK555.out 4 (.int .i64 a1_4); have hcz23_5 := cz_ BK555.out 5 (.int .i64 a1_5); have hcz23_6 := cz_ BK555.out 6 (.string a1_6); have hfz23_0 := blk_frozen BK555.out 0; have hfz23_1 := blk_frozen BK555.out 1; have hfz23_2 := blk_frozen BK555.out 2; have hfz23_3 := blk_frozen BK555.out 3; have hfz23_4 := blk_frozen BK555.out 4; have hfz23_5 := blk_frozen BK555.out 5; have hfz23_6 := blk_frozen BK555.out 6))
   go_ret
   exact ⟨fi_, bel_⟩
 ·rw [if_neg c3] at H
  have c3b0 : (a0_0 == a1_0) = false := beq_eq_false_iff_ne.mpr c3
  have c3b1 : (a0_0 != a1_0) = true := bne_iff_ne.mpr c3
  obtain rfl := Option.some.inj H
  go_enter Tryd.func102, Tryd.ntmps102
  go_wp2_with (first | ((with_reducible refine gate_dst (N := 2) rfl ?_); refine bx_ 2 (#[.int .i64 a0_0, .int .i64 a0_1, .int .i64 a0_2, .int .i64 a0_3, .int .i64 a0_4, .int .i64 a0_5, .string a0_6]) 44 ?_; intro gb554 hg w24 hbox hb; have n0_ := Aside0.mk (below_step (bel_) hb); have n1_ := Aside0.mk (hbox); have n2_ := Aside0.mk ((by rw [hg]; exact (below_size (bel_)) : w.heap.size ≤ gb554)); have n3_ := Aside0.mk ((by rw [hg]; exact (below_size (bel_)) : w.heap.size ≤ gb554)); clear HB; have HB := n0_; have BK554 := n1_; have GW554 := n2_; have GE554 := n3_; clear n0_ n1_ n2_ n3_; clear hb hbox hg) | ((with_reducible refine gate_dst (N := 3) rfl ?_); refine bx_ 3 (#[.int .i64 a1_0, .int .i64 a1_1, .int .i64 a1_2, .int .i64 a1_3, .int .i64 a1_4, .int .i64 a1_5, .string a1_6]) 44 ?_; intro gb555 hg w25 hbox hb; have n0_ := Aside0.mk (bb_ BK554.out hb); have n1_ := Aside0.mk (below_step (bel_) hb); have n2_ := Aside0.mk (hbox); have n3_ := Aside0.mk ((by rw [hg]; exact (below_size (bel_)) : w.heap.size ≤ gb555)); have n4_ := Aside0.mk ((by rw [hg]; exact (below_size (bel_)) : w.heap.size ≤ gb555)); have n5_ := Aside0.mk ((by rw [hg]; exact Nat.ne_of_lt (blk_lt (g := gb554) (o := .cells #[.int .i64 a0_0, .int .i64 a0_1, .int .i64 a0_2, .int .i64 a0_3, .int .i64 a0_4, .int .i64 a0_5, .string a0_6] 44 (0, 0)) (bp_ BK554.out)) : gb554 ≠ gb555)); have n6_ := Aside0.mk ((by rw [hg]; exact Nat.ne_of_gt (blk_lt (g := gb554) (o := .cells #[.int .i64 a0_0, .int .i64 a0_1, .int .i64 a0_2, .int .i64 a0_3, .int .i64 a0_4, .int .i64 a0_5, .string a0_6] 44 (0, 0)) (bp_ BK554.out)) : gb555 ≠ gb554)); clear BK554; clear HB; have BK554 := n0_; have HB := n1_; have BK555 := n2_; have GW555 := n3_; have GE555 := n4_; have NB554_555 := n5_; have NB555_554 := n6_; clear n0_ n1_ n2_ n3_ n4_ n5_ n6_; clear hb hbox hg; have hnb26 := NB554_555.out; have hnc26 := NB555_554.out; have hcz27_0 := cz_ BK554.out 0 (.int .i64 a0_0); have hcz27_1 := cz_ BK554.out 1 (.int .i64 a0_1); have hcz27_2 := cz_ BK554.out 2 (.int .i64 a0_2); have hcz27_3 := cz_ BK554.out 3 (.int .i64 a0_3); have hcz27_4 := cz_ BK554.out 4 (.int .i64 a0_4); have hcz27_5 := cz_ BK554.out 5 (.int .i64 a0_5); have hcz27_6 := cz_ BK554.out 6 (.string a0_6); have hfz27_0 := blk_frozen BK554.out 0; have hfz27_1 := blk_frozen BK554.out 1; have hfz27_2 := blk_frozen BK554.out 2; have hfz27_3 := blk_frozen BK554.out 3; have hfz27_4 := blk_frozen BK554.out 4; have hfz27_5 := blk_frozen BK554.out 5; have hfz27_6 := blk_frozen BK554.out 6; have hcz28_0 := cz_ BK555.out 0 (.int .i64 a1_0); have hcz28_1 := cz_ BK555.out 1 (.int .i64 a1_1); have hcz28_2 := cz_ BK555.out 2 (.int .i64 a1_2); have hcz28_3 := cz_ BK555.out 3 (.int .i64 a1_3); have hcz28_4 := cz_ BK555.out 4 (.int .i64 a1_4); have hcz28_5 := cz_ BK555.out 5 (.int .i64 a1_5); have hcz28_6 := cz_ BK555.out 6 (.string a1_6); have hfz28_0 := blk_frozen BK555.out 0; have hfz28_1 := blk_frozen BK555.out 1; have hfz28_2 := blk_frozen BK555.out 2; have hfz28_3 := blk_frozen BK555.out 3; have hfz28_4 := blk_frozen BK555.out 4; have hfz28_5 := blk_frozen BK555.out 5; have hfz28_6 := blk_frozen BK555.out 6))
  go_ret
  exact ⟨fi_, bel_⟩

def laws_eqEntryS.l0 : Nat → List (S44) → List (S44) → Int → Option (Bool)
 | 0, _, _, _ => none
 | k + 1, x0, x1, x5 => if x5 < (x0.length : Int) then (if 0 ≤ x5 then (if x5 < (x1.length : Int) then ((laws_eqEntry.f ((rd_T44 x0 x5).f0) ((rd_T44 x0 x5).f1) ((rd_T44 x0 x5).f2.f0) ((rd_T44 x0 x5).f2.f1) ((rd_T44 x0 x5).f2.f2) ((rd_T44 x0 x5).f2.f3) ((rd_T44 x0 x5).f2.f4) ((rd_T44 x1 x5).f0) ((rd_T44 x1 x5).f1) ((rd_T44 x1 x5).f2.f0) ((rd_T44 x1 x5).f2.f1) ((rd_T44 x1 x5).f2.f2) ((rd_T44 x1 x5).f2.f3) ((rd_T44 x1 x5).f2.f4)).bind fun t559 => (if t559 = true then (laws_eqEntryS.l0 k x0 x1 (wrap64 (x5 + 1))) else (some false))) else (none)) else (none)) else (some true)
def laws_eqEntryS.f (k : Nat) (l0 : List (S44)) (l1 : List (S44)) : Option (Bool) := if (l0.length : Int) = (l1.length : Int) then (laws_eqEntryS.l0 k l0 l1 0) else (some false)
theorem laws_eqEntryS.mono_l : ∀ k, (∀ y0 y1 y2, LeO (laws_eqEntryS.l0 k y0 y1 y2) (laws_eqEntryS.l0 (k + 1) y0 y1 y2))
 | 0 => fun _ _ _ r h => by simp [laws_eqEntryS.l0] at h
 | k + 1 => by
  have ih0 := laws_eqEntryS.mono_l k
  ·intro y0 y1 y2
   unfold laws_eqEntryS.l0
   repeat' first
   | (with_reducible exact ih0 _ _ _)
   | (with_reducible exact LeO.refl _)
   | (with_reducible exact LeO.none _)
   | (with_reducible refine LeO.ite ?_ ?_)
   | (with_reducible refine LeO.bind ?_ (fun _ => ?_))
   | exact ih0 _ _ _
   | exact LeO.none _
   | refine LeO.ite ?_ ?_
   | refine LeO.bind ?_ (fun _ => ?_)
theorem laws_eqEntryS.mono : ∀ a0 a1 k, LeO (laws_eqEntryS.f k a0 a1) (laws_eqEntryS.f (k + 1) a0 a1) := by
 intro a0 a1 k
 have ih0 := laws_eqEntryS.mono_l k
 unfold laws_eqEntryS.f
 repeat' first
   | (with_reducible exact ih0 _ _ _)
   | (with_reducible exact LeO.refl _)
   | (with_reducible exact LeO.none _)
   | (with_reducible refine LeO.ite ?_ ?_)
   | (with_reducible refine LeO.bind ?_ (fun _ => ?_))
   | exact ih0 _ _ _
   | exact LeO.none _
   | refine LeO.ite ?_ ?_
   | refine LeO.bind ?_ (fun _ => ?_)
def laws_eqEntryS.T6 : Bool × List (List Nat × List Nat) := (true, [([], []), ([], []), ([0, 1], [0, 1]), ([2], [2]), ([], []), ([], []), ([4, 5], [4, 5]), ([6], [6]), ([3, 7], [3, 7]), ([8], [8])])
def laws_eqEntryS.B6 : List Nat := [0, 0, 3, 7, 0, 0, 48, 112, 255, 511]
theorem laws_eqEntryS.tab6 : rtab .any (opsOf Tryd.f52 6) = laws_eqEntryS.T6 := by kernel_rfl
theorem laws_eqEntryS.bits6 : waitsOk laws_eqEntryS.T6.2 laws_eqEntryS.B6 = true := by kernel_rfl
set_option maxHeartbeats 8000000 in
set_option maxRecDepth 100000 in
theorem laws_eqEntryS.calls (k : Nat) (A0 : Option Addr) (c0 : Nat) (l0 : List (S44)) (A1 : Option Addr) (c1 : Nat) (l1 : List (S44)) (r : Bool) (w : World) (hr0 : Kd.C k44 w A0 l0.length l0) (hc0 : l0.length ≤ c0) (hr1 : Kd.C k44 w A1 l1.length l1) (hc1 : l1.length ≤ c1) (h : laws_eqEntryS.f k l0 l1 = some r) :
  Calls Tryd.prog 52 #[.slice A0 l0.length c0, .slice A1 l1.length c1] w fun e w' => e = .returned (.bool r) ∧ Below w.heap.size w w' := by
 have hu44 := Tryd.underlying44
 have HR0 := Aside0.mk hr0
 have HC0 := Aside0.mk hc0
 clear hr0 hc0
 have HR1 := Aside0.mk hr1
 have HC1 := Aside0.mk hc1
 clear hr1 hc1
 have HB := Aside0.mk (Below.refl w.heap.size w)
 unfold laws_eqEntryS.f at h
 have H := h
 clear h
 by_cases c3 : (l0.length : Int) = (l1.length : Int)
 ·rw [if_pos c3] at H
  have c3b0 : ((l0.length : Int) == (l1.length : Int)) = true := beq_iff_eq.mpr c3
  have c3b1 : ((l0.length : Int) != (l1.length : Int)) = false := bne_eq_false_iff_eq.mpr c3
  have c3b2 : (l0.length == l1.length) = true := by first | simpa using c3 | (simp at c3 ⊢; omega)
  clear c3
  have H' := Aside0.mk H
  clear H
  go_enter Tryd.func52, Tryd.ntmps52
  go_wp2
  go_loopg [5] k (fun kq v5 w' => ∃ (x5_1 : Int), v5 = .int .i64 x5_1 ∧ Aside0 (laws_eqEntryS.l0 kq l0 l1 x5_1 = some r) ∧ Aside0 (kq ≤ k) ∧ Aside0 (Below w.heap.size w w'))
  case atStart => exact ⟨(0), (si_), H', ⟨Nat.le_refl _⟩, ⟨bel_⟩⟩
  case round =>
   clear H'
   try clear c1
   try clear p2
   try clear c3
   try clear c3b0
   try clear c3b1
   try clear c3b2
   obtain ⟨x5_1, rfl, HA, HK1, HB⟩ := hrel
   cases gk with
   | zero => exact absurd HA.out (by simp [laws_eqEntryS.l0])
   | succ k1 =>
    have H := HA.out
    clear HA
    simp only [laws_eqEntryS.l0] at H
    by_cases c4 : x5_1 < (l0.length : Int)
    ·rw [if_pos c4] at H
     have c4b0 : decide (x5_1 < (l0.length : Int)) = true := decide_eq_true c4
     clear c4
     by_cases c5 : 0 ≤ x5_1
     ·rw [if_pos c5] at H
      have c5b0 : decide (0 ≤ x5_1) = true := decide_eq_true c5
      clear c5
      by_cases c6 : x5_1 < (l1.length : Int)
      ·rw [if_pos c6] at H
       have c6b0 : decide (x5_1 < (l1.length : Int)) = true := decide_eq_true c6
       clear c6
       replace H := Option.bind_eq_some_iff.mp H
       obtain ⟨t559, A70, H⟩ := H
       try dsimp only at H
       have A7 := Aside0.mk A70
       clear A70
       by_cases c8 : t559 = true
       ·subst c8
        have H1 : (laws_eqEntryS.l0 k1 l0 l1 (wrap64 (x5_1 + 1))) = some r := by rw [if_pos rfl] at H; exact H
        clear H
        have H := H1
        clear H1
        have H' := Aside0.mk H
        clear H
        try go_wp2
        have n0_ := Aside0.mk (below_drew1 HB.out)
        clear HB
        have HB := n0_
        clear n0_
        have p557 : 0 ≤ (x5_1 : Int) := od_
        have q557 : x5_1 < (l0.length : Int) := od_
        obtain ⟨ad557, e557, hx557_0, hx557_1, hx557_2, hx557_3, hx557_4, hx557_5, hx557_6⟩ := at_T44 HR0.out x5_1 p557 q557
        have hw557_6 := hx557_6
        have hw557_5 := hx557_5
        have hw557_4 := hx557_4
        have hw557_3 := hx557_3
        have hw557_2 := hx557_2
        have hw557_1 := hx557_1
        have hw557_0 := hx557_0
        cases e557
        replace hx557_0 := (cb_ HB.out hx557_0 :)
        replace hx557_1 := (cb_ HB.out hx557_1 :)
        replace hx557_2 := (cb_ HB.out hx557_2 :)
        replace hx557_3 := (cb_ HB.out hx557_3 :)
        replace hx557_4 := (cb_ HB.out hx557_4 :)
        replace hx557_5 := (cb_ HB.out hx557_5 :)
        replace hx557_6 := (cb_ HB.out hx557_6 :)
        replace p557 := eq_true p557
        replace q557 := eq_true q557
        have p558 : 0 ≤ (x5_1 : Int) := od_
        have q558 : x5_1 < (l1.length : Int) := od_
        obtain ⟨ad558, e558, hx558_0, hx558_1, hx558_2, hx558_3, hx558_4, hx558_5, hx558_6⟩ := at_T44 HR1.out x5_1 p558 q558
        have hw558_6 := hx558_6
        have hw558_5 := hx558_5
        have hw558_4 := hx558_4
        have hw558_3 := hx558_3
        have hw558_2 := hx558_2
        have hw558_1 := hx558_1
        have hw558_0 := hx558_0
        cases e558
        replace hx558_0 := (cb_ HB.out hx558_0 :)
        replace hx558_1 := (cb_ HB.out hx558_1 :)
        replace hx558_2 := (cb_ HB.out hx558_2 :)
        replace hx558_3 := (cb_ HB.out hx558_3 :)
        replace hx558_4 := (cb_ HB.out hx558_4 :)
        replace hx558_5 := (cb_ HB.out hx558_5 :)
        replace hx558_6 := (cb_ HB.out hx558_6 :)
        replace p558 := eq_true p558
        replace q558 := eq_true q558
        refine start_ (n := 10) (S := fun w' => w'.cell? (ad557.add ((x5_1).toNat * 7)) = some (.int .i64 ((rd_T44 l0 x5_1).f0)) ∧ w'.cell? ⟨(ad557.add ((x5_1).toNat * 7)).block, (ad557.add ((x5_1).toNat * 7)).off + 1, none⟩ = some (.int .i64 ((rd_T44 l0 x5_1).f1)) ∧ w'.cell? ⟨(ad557.add ((x5_1).toNat * 7)).block, (ad557.add ((x5_1).toNat * 7)).off + 2, none⟩ = some (.int .i64 ((rd_T44 l0 x5_1).f2.f0)) ∧ w'.cell? ⟨(ad557.add ((x5_1).toNat * 7)).block, (ad557.add ((x5_1).toNat * 7)).off + 3, none⟩ = some (.int .i64 ((rd_T44 l0 x5_1).f2.f1)) ∧ w'.cell? ⟨(ad557.add ((x5_1).toNat * 7)).block, (ad557.add ((x5_1).toNat * 7)).off + 4, none⟩ = some (.int .i64 ((rd_T44 l0 x5_1).f2.f2)) ∧ w'.cell? ⟨(ad557.add ((x5_1).toNat * 7)).block, (ad557.add ((x5_1).toNat * 7)).off + 5, none⟩ = some (.int .i64 ((rd_T44 l0 x5_1).f2.f3)) ∧ w'.cell? ⟨(ad557.add ((x5_1).toNat * 7)).block, (ad557.add ((x5_1).toNat * 7)).off + 6, none⟩ = some (.string ((rd_T44 l0 x5_1).f2.f4)) ∧ w'.cell? (ad558.add ((x5_1).toNat * 7)) = some (.int .i64 ((rd_T44 l1 x5_1).f0)) ∧ w'.cell? ⟨(ad558.add ((x5_1).toNat * 7)).block, (ad558.add ((x5_1).toNat * 7)).off + 1, none⟩ = some (.int .i64 ((rd_T44 l1 x5_1).f1)) ∧ w'.cell? ⟨(ad558.add ((x5_1).toNat * 7)).block, (ad558.add ((x5_1).toNat * 7)).off + 2, none⟩ = some (.int .i64 ((rd_T44 l1 x5_1).f2.f0)) ∧ w'.cell? ⟨(ad558.add ((x5_1).toNat * 7)).block, (ad558.add ((x5_1).toNat * 7)).off + 3, none⟩ = some (.int .i64 ((rd_T44 l1 x5_1).f2.f1)) ∧ w'.cell? ⟨(ad558.add ((x5_1).toNat * 7)).block, (ad558.add ((x5_1).toNat * 7)).off + 4, none⟩ = some (.int .i64 ((rd_T44 l1 x5_1).f2.f2)) ∧ w'.cell? ⟨(ad558.add ((x5_1).toNat * 7)).block, (ad558.add ((x5_1).toNat * 7)).off + 5, none⟩ = some (.int .i64 ((rd_T44 l1 x5_1).f2.f3)) ∧ w'.cell? ⟨(ad558.add ((x5_1).toNat * 7)).block, (ad558.add ((x5_1).toNat * 7)).off + 6, none⟩ = some (.string ((rd_T44 l1 x5_1).f2.f4))) (ds := []) #[false, false, false, false, false, false, false, false, false, false] (by kernel_rfl) rfl rfl ⟨((cb_ HB.out hw557_0 :)), ((cb_ HB.out hw557_1 :)), ((cb_ HB.out hw557_2 :)), ((cb_ HB.out hw557_3 :)), ((cb_ HB.out hw557_4 :)), ((cb_ HB.out hw557_5 :)), ((cb_ HB.out hw557_6 :)), ((cb_ HB.out hw558_0 :)), ((cb_ HB.out hw558_1 :)), ((cb_ HB.out hw558_2 :)), ((cb_ HB.out hw558_3 :)), ((cb_ HB.out hw558_4 :)), ((cb_ HB.out hw558_5 :)), ((cb_ HB.out hw558_6 :))⟩ (fun hHeld => ?_); refine with_tabW laws_eqEntryS.tab6 laws_eqEntryS.bits6 (fun HT_ HW_ => ?_)
        generalize wr.drew = w9 at HB hx557_0 hx557_1 hx557_2 hx557_3 hx557_4 hx557_5 hx557_6 hx558_0 hx558_1 hx558_2 hx558_3 hx558_4 hx558_5 hx558_6 hHeld ⊢
        refine pa_ 0 17 ?_
        refine pa_ 1 18 ?_
        refine pa_ 2 19 ?_
        refine pa_ 4 21 ?_
        refine pa_ 5 22 ?_
        refine pa_ 6 23 ?_
        refine ta14_ 3 20 hHeld ?_
        refine ta14_ 7 24 hHeld ?_
        refine on_ 8 25 (fun K hK => ?_)
        refine goes_ Tryd.func102 (by kernel_rfl) rfl #[.agg #[.int .i64 ((rd_T44 l0 x5_1).f0), .int .i64 ((rd_T44 l0 x5_1).f1), .int .i64 ((rd_T44 l0 x5_1).f2.f0), .int .i64 ((rd_T44 l0 x5_1).f2.f1), .int .i64 ((rd_T44 l0 x5_1).f2.f2), .int .i64 ((rd_T44 l0 x5_1).f2.f3), .string ((rd_T44 l0 x5_1).f2.f4)], .agg #[.int .i64 ((rd_T44 l1 x5_1).f0), .int .i64 ((rd_T44 l1 x5_1).f1), .int .i64 ((rd_T44 l1 x5_1).f2.f0), .int .i64 ((rd_T44 l1 x5_1).f2.f1), .int .i64 ((rd_T44 l1 x5_1).f2.f2), .int .i64 ((rd_T44 l1 x5_1).f2.f3), .string ((rd_T44 l1 x5_1).f2.f4)]] (by rfl) rfl rfl ar_ ?_
        with_reducible refine (laws_eqEntry.calls ((rd_T44 l0 x5_1).f0) ((rd_T44 l0 x5_1).f1) ((rd_T44 l0 x5_1).f2.f0) ((rd_T44 l0 x5_1).f2.f1) ((rd_T44 l0 x5_1).f2.f2) ((rd_T44 l0 x5_1).f2.f3) ((rd_T44 l0 x5_1).f2.f4) ((rd_T44 l1 x5_1).f0) ((rd_T44 l1 x5_1).f1) ((rd_T44 l1 x5_1).f2.f0) ((rd_T44 l1 x5_1).f2.f1) ((rd_T44 l1 x5_1).f2.f2) ((rd_T44 l1 x5_1).f2.f3) ((rd_T44 l1 x5_1).f2.f4) true _ A7.out).mono ?_
        rintro e w10 ⟨rfl, hb⟩
        refine ⟨_, rfl, ?_⟩
        have n0_ := Aside0.mk (below_step (bel_) hb)
        clear HB
        have HB := n0_
        clear n0_
        (try clear hb)
        (try clear hb2)
        (try clear hk)
        (try clear hi)
        refine hK.out _ _ ⟨((cb_ HB.out hw557_0 :)), ((cb_ HB.out hw557_1 :)), ((cb_ HB.out hw557_2 :)), ((cb_ HB.out hw557_3 :)), ((cb_ HB.out hw557_4 :)), ((cb_ HB.out hw557_5 :)), ((cb_ HB.out hw557_6 :)), ((cb_ HB.out hw558_0 :)), ((cb_ HB.out hw558_1 :)), ((cb_ HB.out hw558_2 :)), ((cb_ HB.out hw558_3 :)), ((cb_ HB.out hw558_4 :)), ((cb_ HB.out hw558_5 :)), ((cb_ HB.out hw558_6 :))⟩ (fun hHeld => ?_)
        clear hK K
        refine no_ 25 ?_
        refine pa_ 9 26 ?_
        refine done_ (done_of HT_.out (by kernel_rfl)) ?_
        try go_wp2
        go_roundg k1
        case measure => have := HK1.out; omega
        case rel => exact ⟨(wrap64 (x5_1 + 1)), (si_), H', ⟨by have := HK1.out; omega⟩, ⟨bel_⟩⟩
       ·replace c8 := Bool.eq_false_iff.mpr c8
        subst c8
        have H1 : (some false) = some r := by rw [if_neg (show ¬ (false = true) by decide)] at H; exact H
        clear H
        have H := H1
        clear H1
        obtain rfl := Option.some.inj H
        try go_wp2
        have n0_ := Aside0.mk (below_drew1 HB.out)
        clear HB
        have HB := n0_
        clear n0_
        have p557 : 0 ≤ (x5_1 : Int) := od_
        have q557 : x5_1 < (l0.length : Int) := od_
        obtain ⟨ad557, e557, hx557_0, hx557_1, hx557_2, hx557_3, hx557_4, hx557_5, hx557_6⟩ := at_T44 HR0.out x5_1 p557 q557
        have hw557_6 := hx557_6
        have hw557_5 := hx557_5
        have hw557_4 := hx557_4
        have hw557_3 := hx557_3
        have hw557_2 := hx557_2
        have hw557_1 := hx557_1
        have hw557_0 := hx557_0
        cases e557
        replace hx557_0 := (cb_ HB.out hx557_0 :)
        replace hx557_1 := (cb_ HB.out hx557_1 :)
        replace hx557_2 := (cb_ HB.out hx557_2 :)
        replace hx557_3 := (cb_ HB.out hx557_3 :)
        replace hx557_4 := (cb_ HB.out hx557_4 :)
        replace hx557_5 := (cb_ HB.out hx557_5 :)
        replace hx557_6 := (cb_ HB.out hx557_6 :)
        replace p557 := eq_true p557
        replace q557 := eq_true q557
        have p558 : 0 ≤ (x5_1 : Int) := od_
        have q558 : x5_1 < (l1.length : Int) := od_
        obtain ⟨ad558, e558, hx558_0, hx558_1, hx558_2, hx558_3, hx558_4, hx558_5, hx558_6⟩ := at_T44 HR1.out x5_1 p558 q558
        have hw558_6 := hx558_6
        have hw558_5 := hx558_5
        have hw558_4 := hx558_4
        have hw558_3 := hx558_3
        have hw558_2 := hx558_2
        have hw558_1 := hx558_1
        have hw558_0 := hx558_0
        cases e558
        replace hx558_0 := (cb_ HB.out hx558_0 :)
        replace hx558_1 := (cb_ HB.out hx558_1 :)
        replace hx558_2 := (cb_ HB.out hx558_2 :)
        replace hx558_3 := (cb_ HB.out hx558_3 :)
        replace hx558_4 := (cb_ HB.out hx558_4 :)
        replace hx558_5 := (cb_ HB.out hx558_5 :)
        replace hx558_6 := (cb_ HB.out hx558_6 :)
        replace p558 := eq_true p558
        replace q558 := eq_true q558
        refine start_ (n := 10) (S := fun w' => w'.cell? (ad557.add ((x5_1).toNat * 7)) = some (.int .i64 ((rd_T44 l0 x5_1).f0)) ∧ w'.cell? ⟨(ad557.add ((x5_1).toNat * 7)).block, (ad557.add ((x5_1).toNat * 7)).off + 1, none⟩ = some (.int .i64 ((rd_T44 l0 x5_1).f1)) ∧ w'.cell? ⟨(ad557.add ((x5_1).toNat * 7)).block, (ad557.add ((x5_1).toNat * 7)).off + 2, none⟩ = some (.int .i64 ((rd_T44 l0 x5_1).f2.f0)) ∧ w'.cell? ⟨(ad557.add ((x5_1).toNat * 7)).block, (ad557.add ((x5_1).toNat * 7)).off + 3, none⟩ = some (.int .i64 ((rd_T44 l0 x5_1).f2.f1)) ∧ w'.cell? ⟨(ad557.add ((x5_1).toNat * 7)).block, (ad557.add ((x5_1).toNat * 7)).off + 4, none⟩ = some (.int .i64 ((rd_T44 l0 x5_1).f2.f2)) ∧ w'.cell? ⟨(ad557.add ((x5_1).toNat * 7)).block, (ad557.add ((x5_1).toNat * 7)).off + 5, none⟩ = some (.int .i64 ((rd_T44 l0 x5_1).f2.f3)) ∧ w'.cell? ⟨(ad557.add ((x5_1).toNat * 7)).block, (ad557.add ((x5_1).toNat * 7)).off + 6, none⟩ = some (.string ((rd_T44 l0 x5_1).f2.f4)) ∧ w'.cell? (ad558.add ((x5_1).toNat * 7)) = some (.int .i64 ((rd_T44 l1 x5_1).f0)) ∧ w'.cell? ⟨(ad558.add ((x5_1).toNat * 7)).block, (ad558.add ((x5_1).toNat * 7)).off + 1, none⟩ = some (.int .i64 ((rd_T44 l1 x5_1).f1)) ∧ w'.cell? ⟨(ad558.add ((x5_1).toNat * 7)).block, (ad558.add ((x5_1).toNat * 7)).off + 2, none⟩ = some (.int .i64 ((rd_T44 l1 x5_1).f2.f0)) ∧ w'.cell? ⟨(ad558.add ((x5_1).toNat * 7)).block, (ad558.add ((x5_1).toNat * 7)).off + 3, none⟩ = some (.int .i64 ((rd_T44 l1 x5_1).f2.f1)) ∧ w'.cell? ⟨(ad558.add ((x5_1).toNat * 7)).block, (ad558.add ((x5_1).toNat * 7)).off + 4, none⟩ = some (.int .i64 ((rd_T44 l1 x5_1).f2.f2)) ∧ w'.cell? ⟨(ad558.add ((x5_1).toNat * 7)).block, (ad558.add ((x5_1).toNat * 7)).off + 5, none⟩ = some (.int .i64 ((rd_T44 l1 x5_1).f2.f3)) ∧ w'.cell? ⟨(ad558.add ((x5_1).toNat * 7)).block, (ad558.add ((x5_1).toNat * 7)).off + 6, none⟩ = some (.string ((rd_T44 l1 x5_1).f2.f4))) (ds := []) #[false, false, false, false, false, false, false, false, false, false] (by kernel_rfl) rfl rfl ⟨((cb_ HB.out hw557_0 :)), ((cb_ HB.out hw557_1 :)), ((cb_ HB.out hw557_2 :)), ((cb_ HB.out hw557_3 :)), ((cb_ HB.out hw557_4 :)), ((cb_ HB.out hw557_5 :)), ((cb_ HB.out hw557_6 :)), ((cb_ HB.out hw558_0 :)), ((cb_ HB.out hw558_1 :)), ((cb_ HB.out hw558_2 :)), ((cb_ HB.out hw558_3 :)), ((cb_ HB.out hw558_4 :)), ((cb_ HB.out hw558_5 :)), ((cb_ HB.out hw558_6 :))⟩ (fun hHeld => ?_); refine with_tabW laws_eqEntryS.tab6 laws_eqEntryS.bits6 (fun HT_ HW_ => ?_)
        generalize wr.drew = w11 at HB hx557_0 hx557_1 hx557_2 hx557_3 hx557_4 hx557_5 hx557_6 hx558_0 hx558_1 hx558_2 hx558_3 hx558_4 hx558_5 hx558_6 hHeld ⊢
        refine pa_ 0 17 ?_
        refine pa_ 1 18 ?_
        refine pa_ 2 19 ?_
        refine pa_ 4 21 ?_
        refine pa_ 5 22 ?_
        refine pa_ 6 23 ?_
        refine ta14_ 3 20 hHeld ?_
        refine ta14_ 7 24 hHeld ?_
        refine on_ 8 25 (fun K hK => ?_)
        refine goes_ Tryd.func102 (by kernel_rfl) rfl #[.agg #[.int .i64 ((rd_T44 l0 x5_1).f0), .int .i64 ((rd_T44 l0 x5_1).f1), .int .i64 ((rd_T44 l0 x5_1).f2.f0), .int .i64 ((rd_T44 l0 x5_1).f2.f1), .int .i64 ((rd_T44 l0 x5_1).f2.f2), .int .i64 ((rd_T44 l0 x5_1).f2.f3), .string ((rd_T44 l0 x5_1).f2.f4)], .agg #[.int .i64 ((rd_T44 l1 x5_1).f0), .int .i64 ((rd_T44 l1 x5_1).f1), .int .i64 ((rd_T44 l1 x5_1).f2.f0), .int .i64 ((rd_T44 l1 x5_1).f2.f1), .int .i64 ((rd_T44 l1 x5_1).f2.f2), .int .i64 ((rd_T44 l1 x5_1).f2.f3), .string ((rd_T44 l1 x5_1).f2.f4)]] (by rfl) rfl rfl ar_ ?_
        with_reducible refine (laws_eqEntry.calls ((rd_T44 l0 x5_1).f0) ((rd_T44 l0 x5_1).f1) ((rd_T44 l0 x5_1).f2.f0) ((rd_T44 l0 x5_1).f2.f1) ((rd_T44 l0 x5_1).f2.f2) ((rd_T44 l0 x5_1).f2.f3) ((rd_T44 l0 x5_1).f2.f4) ((rd_T44 l1 x5_1).f0) ((rd_T44 l1 x5_1).f1) ((rd_T44 l1 x5_1).f2.f0) ((rd_T44 l1 x5_1).f2.f1) ((rd_T44 l1 x5_1).f2.f2) ((rd_T44 l1 x5_1).f2.f3) ((rd_T44 l1 x5_1).f2.f4) false _ A7.out).mono ?_
        rintro e w12 ⟨rfl, hb⟩
        refine ⟨_, rfl, ?_⟩
        have n0_ := Aside0.mk (below_step (bel_) hb)
        clear HB
        have HB := n0_
        clear n0_
        (try clear hb)
        (try clear hb2)
        (try clear hk)
        (try clear hi)
        refine hK.out _ _ ⟨((cb_ HB.out hw557_0 :)), ((cb_ HB.out hw557_1 :)), ((cb_ HB.out hw557_2 :)), ((cb_ HB.out hw557_3 :)), ((cb_ HB.out hw557_4 :)), ((cb_ HB.out hw557_5 :)), ((cb_ HB.out hw557_6 :)), ((cb_ HB.out hw558_0 :)), ((cb_ HB.out hw558_1 :)), ((cb_ HB.out hw558_2 :)), ((cb_ HB.out hw558_3 :)), ((cb_ HB.out hw558_4 :)), ((cb_ HB.out hw558_5 :)), ((cb_ HB.out hw558_6 :))⟩ (fun hHeld => ?_)
        clear hK K
        refine no_ 25 ?_
        refine pa_ 9 26 ?_
        refine done_ (done_of HT_.out (by kernel_rfl)) ?_
        try go_wp2
        go_ret
        exact ⟨fi_, bel_⟩
      ·rw [if_neg c6] at H
       exact absurd H (by simp)
     ·rw [if_neg c5] at H
      exact absurd H (by simp)
    ·rw [if_neg c4] at H
     have c4b0 : decide (x5_1 < (l0.length : Int)) = false := decide_eq_false c4
     clear c4
     obtain rfl := Option.some.inj H
     go_wp2
     go_ret
     exact ⟨fi_, bel_⟩
 ·rw [if_neg c3] at H
  have c3b0 : ((l0.length : Int) == (l1.length : Int)) = false := beq_eq_false_iff_ne.mpr c3
  have c3b1 : ((l0.length : Int) != (l1.length : Int)) = true := bne_iff_ne.mpr c3
  have c3b2 : (l0.length == l1.length) = false := by first | simpa using c3 | (simp at c3 ⊢; omega)
  obtain rfl := Option.some.inj H
  go_enter Tryd.func52, Tryd.ntmps52
  go_wp2
  go_ret
  exact ⟨fi_, bel_⟩

end Go.Proofs.YtdpklbomhdpimaaDoor.P
