/- Joined by a program (wip/shake.py): the declarations that 'YtdpklbomhdpimaaDoorCardFnExactLogTree' reaches. -/
import Derived.Test.YtdpklbomhdpimaaDoorZLe4
set_option linter.unusedVariables false
set_option linter.unusedSimpArgs false
set_option linter.unusedSectionVars false
namespace Go.Proofs.YtdpklbomhdpimaaDoor.P
open Go.RowKit Go.Proofs.YtdpklbomhdpimaaDoorW.PrintWords Go.Proofs.YtdpklbomhdpimaaDoorW.PrintLast
set_option maxHeartbeats 8000000 in
set_option maxRecDepth 100000 in
theorem laws_FnExactLogTree.calls (k : Nat) (A0 : Option Addr) (c0 : Nat) (l0 : List (S36)) (r : Bool) (w : World) (hr0 : Kd.C k36 w A0 l0.length l0) (hc0 : l0.length ≤ c0) (h : laws_FnExactLogTree.f k l0 = some r) (hG : Glob w) :
  Calls Tryd.prog 11 #[.slice A0 l0.length c0] w fun e w' => e = .returned (.bool r) ∧ Below w.heap.size w w' := by
 have HR0 := Aside0.mk hr0
 have HC0 := Aside0.mk hc0
 clear hr0 hc0
 have HB := Aside0.mk (Below.refl w.heap.size w)
 have HG := Aside0.mk hG
 clear hG
 have H : ((laws_szEntryS.f k l0 1048576).bind fun t1082 => (if t1082 < 0 then (some true) else ((laws_toEntryS.f k l0).bind fun t1083 => ((spec_LogTree.f k t1083).bind fun t1086 => ((laws_toEntryS.f k l0).bind fun t1089 => ((impl_LogTree.f k t1089).bind fun t1092 => ((laws_eqRowS.f k t1092 t1086).bind fun t1095 => (if t1095 = true then ((laws_toEntryS.f k l0).bind fun t1096 => ((laws_eqEntryS.f k t1089 t1096).bind fun t1099 => (if t1099 = true then ((laws_markEntryS.f k t1089 1).bind fun bt1100 => (if bt1100.1 < 0 then (none) else ((laws_eqRowS.f k t1092 t1086).bind fun t1102 => (if t1102 = true then ((laws_markRowS.f k t1092 1).bind fun bt1103 => ((laws_heldRowS.f k bt1103.2 1).bind fun t1105 => (if t1105 < 0 then (none) else (if t1105 = bt1103.1 then ((laws_toEntryS.f k l0).bind fun t1106 => ((impl_LogTree.f k t1106).bind fun t1109 => ((laws_eqRowS.f k t1109 t1086).bind fun t1112 => (if t1112 = true then ((laws_heldRowS.f k bt1103.2 1).bind fun t1113 => (if t1113 < 0 then (none) else (if t1113 = bt1103.1 then (some true) else (none)))) else (none))))) else (none))))) else (none))))) else (none)))) else (none))))))))) = some r := h
 clear h
 replace H := Option.bind_eq_some_iff.mp H
 obtain ⟨t1082, A20, H⟩ := H
 replace H : (if t1082 < 0 then (some true) else ((laws_toEntryS.f k l0).bind fun t1083 => ((spec_LogTree.f k t1083).bind fun t1086 => ((laws_toEntryS.f k l0).bind fun t1089 => ((impl_LogTree.f k t1089).bind fun t1092 => ((laws_eqRowS.f k t1092 t1086).bind fun t1095 => (if t1095 = true then ((laws_toEntryS.f k l0).bind fun t1096 => ((laws_eqEntryS.f k t1089 t1096).bind fun t1099 => (if t1099 = true then ((laws_markEntryS.f k t1089 1).bind fun bt1100 => (if bt1100.1 < 0 then (none) else ((laws_eqRowS.f k t1092 t1086).bind fun t1102 => (if t1102 = true then ((laws_markRowS.f k t1092 1).bind fun bt1103 => ((laws_heldRowS.f k bt1103.2 1).bind fun t1105 => (if t1105 < 0 then (none) else (if t1105 = bt1103.1 then ((laws_toEntryS.f k l0).bind fun t1106 => ((impl_LogTree.f k t1106).bind fun t1109 => ((laws_eqRowS.f k t1109 t1086).bind fun t1112 => (if t1112 = true then ((laws_heldRowS.f k bt1103.2 1).bind fun t1113 => (if t1113 < 0 then (none) else (if t1113 = bt1103.1 then (some true) else (none)))) else (none))))) else (none))))) else (none))))) else (none)))) else (none)))))))) = some r := H
 have A2 := Aside0.mk A20
 clear A20
 by_cases c3 : t1082 < 0
 ·rw [if_pos c3] at H
  have c3b0 : decide (t1082 < 0) = true := decide_eq_true c3
  clear c3
  obtain rfl := Option.some.inj H
  go_enter Tryd.func11, Tryd.ntmps11
  go_wp2_with (first | ((with_reducible refine gate_callee (f := 49) rfl ?_); refine goesL_ (some 13) rfl rfl Tryd.func49 (by kernel_rfl) rfl #[.slice A0 l0.length c0, .int .i64 1048576] rfl (by (try simp only [List.map_toArray, List.map_cons, List.map_nil]); first | done | rfl | (simp only [List.length_drop, List.length_take]; rfl)) ?_; (with_reducible refine (laws_szEntryS.calls k _ _ l0 1048576 t1082 _ ?side1 ?side2 A2.out).mono ?_); (case side1 => repeat (first | exact HR0.out | (with_reducible refine Kd.C_alloc ?_ _) | (with_reducible refine Kd.C_drewN ?_ _) | (with_reducible refine Kd.C_drew ?_))); (case side2 => exact HC0.out); rintro e w4 ⟨rfl, hb⟩; refine ⟨_, rfl, ?_⟩; have n0_ := Aside0.mk (below_step (by repeat (first | (with_reducible first | exact HB.out | apply below_alloc | apply pw_below_drewN | apply below_drew1) | exact HB.out)) hb); clear HB; have HB := n0_; clear n0_; (try clear hb); (try clear hb2); (try clear hk); (try clear hi)))
  go_ret
  exact ⟨by first | rfl | (simp [errW_none, errW_some] <;> rfl) | (simp [*, errW_none, errW_some] <;> rfl), by repeat (first | (with_reducible first | exact HB.out | apply below_alloc | apply pw_below_drewN | apply below_drew1) | exact HB.out)⟩
 ·rw [if_neg c3] at H
  have c3b0 : decide (t1082 < 0) = false := decide_eq_false c3
  clear c3
  replace H := Option.bind_eq_some_iff.mp H
  obtain ⟨t1083, A50, H⟩ := H
  replace H : ((spec_LogTree.f k t1083).bind fun t1086 => ((laws_toEntryS.f k l0).bind fun t1089 => ((impl_LogTree.f k t1089).bind fun t1092 => ((laws_eqRowS.f k t1092 t1086).bind fun t1095 => (if t1095 = true then ((laws_toEntryS.f k l0).bind fun t1096 => ((laws_eqEntryS.f k t1089 t1096).bind fun t1099 => (if t1099 = true then ((laws_markEntryS.f k t1089 1).bind fun bt1100 => (if bt1100.1 < 0 then (none) else ((laws_eqRowS.f k t1092 t1086).bind fun t1102 => (if t1102 = true then ((laws_markRowS.f k t1092 1).bind fun bt1103 => ((laws_heldRowS.f k bt1103.2 1).bind fun t1105 => (if t1105 < 0 then (none) else (if t1105 = bt1103.1 then ((laws_toEntryS.f k l0).bind fun t1106 => ((impl_LogTree.f k t1106).bind fun t1109 => ((laws_eqRowS.f k t1109 t1086).bind fun t1112 => (if t1112 = true then ((laws_heldRowS.f k bt1103.2 1).bind fun t1113 => (if t1113 < 0 then (none) else (if t1113 = bt1103.1 then (some true) else (none)))) else (none))))) else (none))))) else (none))))) else (none)))) else (none)))))) = some r := H
  have A5 := Aside0.mk A50
  clear A50
  replace H := Option.bind_eq_some_iff.mp H
  obtain ⟨t1086, A60, H⟩ := H
  replace H : ((laws_toEntryS.f k l0).bind fun t1089 => ((impl_LogTree.f k t1089).bind fun t1092 => ((laws_eqRowS.f k t1092 t1086).bind fun t1095 => (if t1095 = true then ((laws_toEntryS.f k l0).bind fun t1096 => ((laws_eqEntryS.f k t1089 t1096).bind fun t1099 => (if t1099 = true then ((laws_markEntryS.f k t1089 1).bind fun bt1100 => (if bt1100.1 < 0 then (none) else ((laws_eqRowS.f k t1092 t1086).bind fun t1102 => (if t1102 = true then ((laws_markRowS.f k t1092 1).bind fun bt1103 => ((laws_heldRowS.f k bt1103.2 1).bind fun t1105 => (if t1105 < 0 then (none) else (if t1105 = bt1103.1 then ((laws_toEntryS.f k l0).bind fun t1106 => ((impl_LogTree.f k t1106).bind fun t1109 => ((laws_eqRowS.f k t1109 t1086).bind fun t1112 => (if t1112 = true then ((laws_heldRowS.f k bt1103.2 1).bind fun t1113 => (if t1113 < 0 then (none) else (if t1113 = bt1103.1 then (some true) else (none)))) else (none))))) else (none))))) else (none))))) else (none)))) else (none))))) = some r := H
  have A6 := Aside0.mk A60
  clear A60
  replace H := Option.bind_eq_some_iff.mp H
  obtain ⟨t1089, A70, H⟩ := H
  replace H : ((impl_LogTree.f k t1089).bind fun t1092 => ((laws_eqRowS.f k t1092 t1086).bind fun t1095 => (if t1095 = true then ((laws_toEntryS.f k l0).bind fun t1096 => ((laws_eqEntryS.f k t1089 t1096).bind fun t1099 => (if t1099 = true then ((laws_markEntryS.f k t1089 1).bind fun bt1100 => (if bt1100.1 < 0 then (none) else ((laws_eqRowS.f k t1092 t1086).bind fun t1102 => (if t1102 = true then ((laws_markRowS.f k t1092 1).bind fun bt1103 => ((laws_heldRowS.f k bt1103.2 1).bind fun t1105 => (if t1105 < 0 then (none) else (if t1105 = bt1103.1 then ((laws_toEntryS.f k l0).bind fun t1106 => ((impl_LogTree.f k t1106).bind fun t1109 => ((laws_eqRowS.f k t1109 t1086).bind fun t1112 => (if t1112 = true then ((laws_heldRowS.f k bt1103.2 1).bind fun t1113 => (if t1113 < 0 then (none) else (if t1113 = bt1103.1 then (some true) else (none)))) else (none))))) else (none))))) else (none))))) else (none)))) else (none)))) = some r := H
  have A7 := Aside0.mk A70
  clear A70
  replace H := Option.bind_eq_some_iff.mp H
  obtain ⟨t1092, A80, H⟩ := H
  replace H : ((laws_eqRowS.f k t1092 t1086).bind fun t1095 => (if t1095 = true then ((laws_toEntryS.f k l0).bind fun t1096 => ((laws_eqEntryS.f k t1089 t1096).bind fun t1099 => (if t1099 = true then ((laws_markEntryS.f k t1089 1).bind fun bt1100 => (if bt1100.1 < 0 then (none) else ((laws_eqRowS.f k t1092 t1086).bind fun t1102 => (if t1102 = true then ((laws_markRowS.f k t1092 1).bind fun bt1103 => ((laws_heldRowS.f k bt1103.2 1).bind fun t1105 => (if t1105 < 0 then (none) else (if t1105 = bt1103.1 then ((laws_toEntryS.f k l0).bind fun t1106 => ((impl_LogTree.f k t1106).bind fun t1109 => ((laws_eqRowS.f k t1109 t1086).bind fun t1112 => (if t1112 = true then ((laws_heldRowS.f k bt1103.2 1).bind fun t1113 => (if t1113 < 0 then (none) else (if t1113 = bt1103.1 then (some true) else (none)))) else (none))))) else (none))))) else (none))))) else (none)))) else (none))) = some r := H
  have A8 := Aside0.mk A80
  clear A80
  replace H := Option.bind_eq_some_iff.mp H
  obtain ⟨t1095, A90, H⟩ := H
  replace H : (if t1095 = true then ((laws_toEntryS.f k l0).bind fun t1096 => ((laws_eqEntryS.f k t1089 t1096).bind fun t1099 => (if t1099 = true then ((laws_markEntryS.f k t1089 1).bind fun bt1100 => (if bt1100.1 < 0 then (none) else ((laws_eqRowS.f k t1092 t1086).bind fun t1102 => (if t1102 = true then ((laws_markRowS.f k t1092 1).bind fun bt1103 => ((laws_heldRowS.f k bt1103.2 1).bind fun t1105 => (if t1105 < 0 then (none) else (if t1105 = bt1103.1 then ((laws_toEntryS.f k l0).bind fun t1106 => ((impl_LogTree.f k t1106).bind fun t1109 => ((laws_eqRowS.f k t1109 t1086).bind fun t1112 => (if t1112 = true then ((laws_heldRowS.f k bt1103.2 1).bind fun t1113 => (if t1113 < 0 then (none) else (if t1113 = bt1103.1 then (some true) else (none)))) else (none))))) else (none))))) else (none))))) else (none)))) else (none)) = some r := H
  have A9 := Aside0.mk A90
  clear A90
  by_cases c10 : t1095 = true
  ·subst c10
   have H1 : ((laws_toEntryS.f k l0).bind fun t1096 => ((laws_eqEntryS.f k t1089 t1096).bind fun t1099 => (if t1099 = true then ((laws_markEntryS.f k t1089 1).bind fun bt1100 => (if bt1100.1 < 0 then (none) else ((laws_eqRowS.f k t1092 t1086).bind fun t1102 => (if t1102 = true then ((laws_markRowS.f k t1092 1).bind fun bt1103 => ((laws_heldRowS.f k bt1103.2 1).bind fun t1105 => (if t1105 < 0 then (none) else (if t1105 = bt1103.1 then ((laws_toEntryS.f k l0).bind fun t1106 => ((impl_LogTree.f k t1106).bind fun t1109 => ((laws_eqRowS.f k t1109 t1086).bind fun t1112 => (if t1112 = true then ((laws_heldRowS.f k bt1103.2 1).bind fun t1113 => (if t1113 < 0 then (none) else (if t1113 = bt1103.1 then (some true) else (none)))) else (none))))) else (none))))) else (none))))) else (none)))) = some r := by rw [if_pos rfl] at H; exact H
   clear H
   have H := H1
   clear H1
   replace H := Option.bind_eq_some_iff.mp H
   obtain ⟨t1096, A110, H⟩ := H
   replace H : ((laws_eqEntryS.f k t1089 t1096).bind fun t1099 => (if t1099 = true then ((laws_markEntryS.f k t1089 1).bind fun bt1100 => (if bt1100.1 < 0 then (none) else ((laws_eqRowS.f k t1092 t1086).bind fun t1102 => (if t1102 = true then ((laws_markRowS.f k t1092 1).bind fun bt1103 => ((laws_heldRowS.f k bt1103.2 1).bind fun t1105 => (if t1105 < 0 then (none) else (if t1105 = bt1103.1 then ((laws_toEntryS.f k l0).bind fun t1106 => ((impl_LogTree.f k t1106).bind fun t1109 => ((laws_eqRowS.f k t1109 t1086).bind fun t1112 => (if t1112 = true then ((laws_heldRowS.f k bt1103.2 1).bind fun t1113 => (if t1113 < 0 then (none) else (if t1113 = bt1103.1 then (some true) else (none)))) else (none))))) else (none))))) else (none))))) else (none))) = some r := H
   have A11 := Aside0.mk A110
   clear A110
   replace H := Option.bind_eq_some_iff.mp H
   obtain ⟨t1099, A120, H⟩ := H
   replace H : (if t1099 = true then ((laws_markEntryS.f k t1089 1).bind fun bt1100 => (if bt1100.1 < 0 then (none) else ((laws_eqRowS.f k t1092 t1086).bind fun t1102 => (if t1102 = true then ((laws_markRowS.f k t1092 1).bind fun bt1103 => ((laws_heldRowS.f k bt1103.2 1).bind fun t1105 => (if t1105 < 0 then (none) else (if t1105 = bt1103.1 then ((laws_toEntryS.f k l0).bind fun t1106 => ((impl_LogTree.f k t1106).bind fun t1109 => ((laws_eqRowS.f k t1109 t1086).bind fun t1112 => (if t1112 = true then ((laws_heldRowS.f k bt1103.2 1).bind fun t1113 => (if t1113 < 0 then (none) else (if t1113 = bt1103.1 then (some true) else (none)))) else (none))))) else (none))))) else (none))))) else (none)) = some r := H
   have A12 := Aside0.mk A120
   clear A120
   by_cases c13 : t1099 = true
   ·subst c13
    have H1 : ((laws_markEntryS.f k t1089 1).bind fun bt1100 => (if bt1100.1 < 0 then (none) else ((laws_eqRowS.f k t1092 t1086).bind fun t1102 => (if t1102 = true then ((laws_markRowS.f k t1092 1).bind fun bt1103 => ((laws_heldRowS.f k bt1103.2 1).bind fun t1105 => (if t1105 < 0 then (none) else (if t1105 = bt1103.1 then ((laws_toEntryS.f k l0).bind fun t1106 => ((impl_LogTree.f k t1106).bind fun t1109 => ((laws_eqRowS.f k t1109 t1086).bind fun t1112 => (if t1112 = true then ((laws_heldRowS.f k bt1103.2 1).bind fun t1113 => (if t1113 < 0 then (none) else (if t1113 = bt1103.1 then (some true) else (none)))) else (none))))) else (none))))) else (none))))) = some r := by rw [if_pos rfl] at H; exact H
    clear H
    have H := H1
    clear H1
    replace H := Option.bind_eq_some_iff.mp H
    obtain ⟨⟨t1100, t1101⟩, A140, H⟩ := H
    replace H : (if t1100 < 0 then (none) else ((laws_eqRowS.f k t1092 t1086).bind fun t1102 => (if t1102 = true then ((laws_markRowS.f k t1092 1).bind fun bt1103 => ((laws_heldRowS.f k bt1103.2 1).bind fun t1105 => (if t1105 < 0 then (none) else (if t1105 = bt1103.1 then ((laws_toEntryS.f k l0).bind fun t1106 => ((impl_LogTree.f k t1106).bind fun t1109 => ((laws_eqRowS.f k t1109 t1086).bind fun t1112 => (if t1112 = true then ((laws_heldRowS.f k bt1103.2 1).bind fun t1113 => (if t1113 < 0 then (none) else (if t1113 = bt1103.1 then (some true) else (none)))) else (none))))) else (none))))) else (none)))) = some r := H
    have A14 := Aside0.mk A140
    clear A140
    by_cases c15 : t1100 < 0
    ·rw [if_pos c15] at H
     exact absurd H (by simp)
    ·rw [if_neg c15] at H
     have c15b0 : decide (t1100 < 0) = false := decide_eq_false c15
     clear c15
     replace H := Option.bind_eq_some_iff.mp H
     obtain ⟨t1102, A160, H⟩ := H
     replace H : (if t1102 = true then ((laws_markRowS.f k t1092 1).bind fun bt1103 => ((laws_heldRowS.f k bt1103.2 1).bind fun t1105 => (if t1105 < 0 then (none) else (if t1105 = bt1103.1 then ((laws_toEntryS.f k l0).bind fun t1106 => ((impl_LogTree.f k t1106).bind fun t1109 => ((laws_eqRowS.f k t1109 t1086).bind fun t1112 => (if t1112 = true then ((laws_heldRowS.f k bt1103.2 1).bind fun t1113 => (if t1113 < 0 then (none) else (if t1113 = bt1103.1 then (some true) else (none)))) else (none))))) else (none))))) else (none)) = some r := H
     have A16 := Aside0.mk A160
     clear A160
     by_cases c17 : t1102 = true
     ·subst c17
      have H1 : ((laws_markRowS.f k t1092 1).bind fun bt1103 => ((laws_heldRowS.f k bt1103.2 1).bind fun t1105 => (if t1105 < 0 then (none) else (if t1105 = bt1103.1 then ((laws_toEntryS.f k l0).bind fun t1106 => ((impl_LogTree.f k t1106).bind fun t1109 => ((laws_eqRowS.f k t1109 t1086).bind fun t1112 => (if t1112 = true then ((laws_heldRowS.f k bt1103.2 1).bind fun t1113 => (if t1113 < 0 then (none) else (if t1113 = bt1103.1 then (some true) else (none)))) else (none))))) else (none))))) = some r := by rw [if_pos rfl] at H; exact H
      clear H
      have H := H1
      clear H1
      replace H := Option.bind_eq_some_iff.mp H
      obtain ⟨⟨t1103, t1104⟩, A180, H⟩ := H
      replace H : ((laws_heldRowS.f k t1104 1).bind fun t1105 => (if t1105 < 0 then (none) else (if t1105 = t1103 then ((laws_toEntryS.f k l0).bind fun t1106 => ((impl_LogTree.f k t1106).bind fun t1109 => ((laws_eqRowS.f k t1109 t1086).bind fun t1112 => (if t1112 = true then ((laws_heldRowS.f k t1104 1).bind fun t1113 => (if t1113 < 0 then (none) else (if t1113 = t1103 then (some true) else (none)))) else (none))))) else (none)))) = some r := H
      have A18 := Aside0.mk A180
      clear A180
      replace H := Option.bind_eq_some_iff.mp H
      obtain ⟨t1105, A190, H⟩ := H
      replace H : (if t1105 < 0 then (none) else (if t1105 = t1103 then ((laws_toEntryS.f k l0).bind fun t1106 => ((impl_LogTree.f k t1106).bind fun t1109 => ((laws_eqRowS.f k t1109 t1086).bind fun t1112 => (if t1112 = true then ((laws_heldRowS.f k t1104 1).bind fun t1113 => (if t1113 < 0 then (none) else (if t1113 = t1103 then (some true) else (none)))) else (none))))) else (none))) = some r := H
      have A19 := Aside0.mk A190
      clear A190
      by_cases c20 : t1105 < 0
      ·rw [if_pos c20] at H
       exact absurd H (by simp)
      ·rw [if_neg c20] at H
       have c20b0 : decide (t1105 < 0) = false := decide_eq_false c20
       clear c20
       by_cases c21 : t1105 = t1103
       ·rw [if_pos c21] at H
        have c21b0 : (t1105 == t1103) = true := beq_iff_eq.mpr c21
        have c21b1 : (t1105 != t1103) = false := bne_eq_false_iff_eq.mpr c21
        clear c21
        replace H := Option.bind_eq_some_iff.mp H
        obtain ⟨t1106, A220, H⟩ := H
        replace H : ((impl_LogTree.f k t1106).bind fun t1109 => ((laws_eqRowS.f k t1109 t1086).bind fun t1112 => (if t1112 = true then ((laws_heldRowS.f k t1104 1).bind fun t1113 => (if t1113 < 0 then (none) else (if t1113 = t1103 then (some true) else (none)))) else (none)))) = some r := H
        have A22 := Aside0.mk A220
        clear A220
        replace H := Option.bind_eq_some_iff.mp H
        obtain ⟨t1109, A230, H⟩ := H
        replace H : ((laws_eqRowS.f k t1109 t1086).bind fun t1112 => (if t1112 = true then ((laws_heldRowS.f k t1104 1).bind fun t1113 => (if t1113 < 0 then (none) else (if t1113 = t1103 then (some true) else (none)))) else (none))) = some r := H
        have A23 := Aside0.mk A230
        clear A230
        replace H := Option.bind_eq_some_iff.mp H
        obtain ⟨t1112, A240, H⟩ := H
        replace H : (if t1112 = true then ((laws_heldRowS.f k t1104 1).bind fun t1113 => (if t1113 < 0 then (none) else (if t1113 = t1103 then (some true) else (none)))) else (none)) = some r := H
        have A24 := Aside0.mk A240
        clear A240
        by_cases c25 : t1112 = true
        ·subst c25
         have H1 : ((laws_heldRowS.f k t1104 1).bind fun t1113 => (if t1113 < 0 then (none) else (if t1113 = t1103 then (some true) else (none)))) = some r := by rw [if_pos rfl] at H; exact H
         clear H
         have H := H1
         clear H1
         replace H := Option.bind_eq_some_iff.mp H
         obtain ⟨t1113, A260, H⟩ := H
         replace H : (if t1113 < 0 then (none) else (if t1113 = t1103 then (some true) else (none))) = some r := H
         have A26 := Aside0.mk A260
         clear A260
         by_cases c27 : t1113 < 0
         ·rw [if_pos c27] at H
          exact absurd H (by simp)
         ·rw [if_neg c27] at H
          have c27b0 : decide (t1113 < 0) = false := decide_eq_false c27
          clear c27
          by_cases c28 : t1113 = t1103
          ·rw [if_pos c28] at H
           have c28b0 : (t1113 == t1103) = true := beq_iff_eq.mpr c28
           have c28b1 : (t1113 != t1103) = false := bne_eq_false_iff_eq.mpr c28
           clear c28
           obtain rfl := Option.some.inj H
           go_enter Tryd.func11, Tryd.ntmps11
           go_wp2_with (first | ((with_reducible refine gate_callee (f := 49) rfl ?_); refine goesL_ (some 13) rfl rfl Tryd.func49 (by kernel_rfl) rfl #[.slice A0 l0.length c0, .int .i64 1048576] rfl (by (try simp only [List.map_toArray, List.map_cons, List.map_nil]); first | done | rfl | (simp only [List.length_drop, List.length_take]; rfl)) ?_; (with_reducible refine (laws_szEntryS.calls k _ _ l0 1048576 t1082 _ ?side1 ?side2 A2.out).mono ?_); (case side1 => repeat (first | exact HR0.out | (with_reducible refine Kd.C_alloc ?_ _) | (with_reducible refine Kd.C_drewN ?_ _) | (with_reducible refine Kd.C_drew ?_))); (case side2 => exact HC0.out); rintro e w29 ⟨rfl, hb⟩; refine ⟨_, rfl, ?_⟩; have n0_ := Aside0.mk (below_step (by repeat (first | (with_reducible first | exact HB.out | apply below_alloc | apply pw_below_drewN | apply below_drew1) | exact HB.out)) hb); clear HB; have HB := n0_; clear n0_; (try clear hb); (try clear hb2); (try clear hk); (try clear hi)) | ((with_reducible refine gate_callee (f := 50) rfl ?_); refine goesL_ (some 17) rfl rfl Tryd.func50 (by kernel_rfl) rfl #[.slice A0 l0.length c0] rfl (by (try simp only [List.map_toArray, List.map_cons, List.map_nil]); first | done | rfl | (simp only [List.length_drop, List.length_take]; rfl)) ?_; (with_reducible refine (laws_toEntryS.calls k _ _ l0 t1083 _ ?side1 ?side2 A5.out).mono ?_); (case side1 => repeat (first | exact (Kd.C_below HR0.out HB.out) | (with_reducible refine Kd.C_alloc ?_ _) | (with_reducible refine Kd.C_drewN ?_ _) | (with_reducible refine Kd.C_drew ?_))); (case side2 => exact HC0.out); rintro e w30 ⟨v1084, rfl, ho0, hb⟩; refine ⟨_, rfl, ?_⟩; have n0_ := Aside0.mk (Kd.R_lower ho0 (below_size (by repeat (first | (with_reducible first | exact HB.out | apply below_alloc | apply pw_below_drewN | apply below_drew1) | exact HB.out)))); have n1_ := Aside0.mk (below_step (by repeat (first | (with_reducible first | exact HB.out | apply below_alloc | apply pw_below_drewN | apply below_drew1) | exact HB.out)) hb); clear HB; have HO1085 := n0_; have HB := n1_; clear n0_ n1_; (try clear hb); (try clear hb2); (try clear hk); (try clear hi); (try clear ho0); obtain ⟨Ao31, co31, eo31⟩ := Kd.R_slice HO1085.out; subst eo31) | ((with_reducible refine gate_callee (f := 47) rfl ?_); refine goesL_ (some 18) rfl rfl Tryd.func47 (by kernel_rfl) rfl #[.slice Ao31 t1083.length co31] rfl (by (try simp only [List.map_toArray, List.map_cons, List.map_nil]); first | done | rfl | (simp only [List.length_drop, List.length_take]; rfl)) ?_; (with_reducible refine (spec_LogTree.calls k _ _ t1083 t1086 _ ?side1 ?side2 A6.out).mono ?_); (case side1 => repeat (first | exact (Kd.R_reads' HO1085.out).2.2 | (with_reducible refine Kd.C_alloc ?_ _) | (with_reducible refine Kd.C_drewN ?_ _) | (with_reducible refine Kd.C_drew ?_))); (case side2 => exact (Kd.R_reads' HO1085.out).2.1); rintro e w32 ⟨v1087, rfl, ho0, hb⟩; refine ⟨_, rfl, ?_⟩; have n0_ := Aside0.mk (Kd.R_below (by (with_reducible repeat (first | apply Kd.R_alloc | apply Kd.R_drewN | apply Kd.R_drew)); exact HO1085.out) hb); have n1_ := Aside0.mk (Kd.R_lower ho0 (below_size (by repeat (first | (with_reducible first | exact HB.out | apply below_alloc | apply pw_below_drewN | apply below_drew1) | exact HB.out)))); have n2_ := Aside0.mk (below_step (by repeat (first | (with_reducible first | exact HB.out | apply below_alloc | apply pw_below_drewN | apply below_drew1) | exact HB.out)) hb); clear HO1085; clear HB; have HO1085 := n0_; have HO1088 := n1_; have HB := n2_; clear n0_ n1_ n2_; (try clear hb); (try clear hb2); (try clear hk); (try clear hi); (try clear ho0)) | ((with_reducible refine gate_callee (f := 50) rfl ?_); refine goesL_ (some 20) rfl rfl Tryd.func50 (by kernel_rfl) rfl #[.slice A0 l0.length c0] rfl (by (try simp only [List.map_toArray, List.map_cons, List.map_nil]); first | done | rfl | (simp only [List.length_drop, List.length_take]; rfl)) ?_; (with_reducible refine (laws_toEntryS.calls k _ _ l0 t1089 _ ?side1 ?side2 A7.out).mono ?_); (case side1 => repeat (first | exact (Kd.C_below HR0.out HB.out) | (with_reducible refine Kd.C_alloc ?_ _) | (with_reducible refine Kd.C_drewN ?_ _) | (with_reducible refine Kd.C_drew ?_))); (case side2 => exact HC0.out); rintro e w33 ⟨v1090, rfl, ho0, hb⟩; refine ⟨_, rfl, ?_⟩; have n0_ := Aside0.mk (Kd.R_elder' (by (with_reducible repeat (first | apply Kd.R_alloc | apply Kd.R_drewN | apply Kd.R_drew)); exact HO1085.out) (Kd.R_base ho0) hb); have n1_ := Aside0.mk (Kd.R_below (by (with_reducible repeat (first | apply Kd.R_alloc | apply Kd.R_drewN | apply Kd.R_drew)); exact HO1088.out) hb); have n2_ := Aside0.mk (Kd.R_lower (Kd.R_new' ho0 (Kd.R_lt (by (with_reducible repeat (first | apply Kd.R_alloc | apply Kd.R_drewN | apply Kd.R_drew)); exact HO1085.out))) (below_size (by repeat (first | (with_reducible first | exact HB.out | apply below_alloc | apply pw_below_drewN | apply below_drew1) | exact HB.out)))); have n3_ := Aside0.mk (below_step (by repeat (first | (with_reducible first | exact HB.out | apply below_alloc | apply pw_below_drewN | apply below_drew1) | exact HB.out)) hb); clear HO1085; clear HO1088; clear HB; have HO1085 := n0_; have HO1088 := n1_; have HO1091 := n2_; have HB := n3_; clear n0_ n1_ n2_ n3_; (try clear hb); (try clear hb2); (try clear hk); (try clear hi); (try clear ho0); obtain ⟨Ao34, co34, eo34⟩ := Kd.R_slice HO1091.out; subst eo34) | ((with_reducible refine gate_callee (f := 39) rfl ?_); refine goesL_ (some 22) rfl rfl Tryd.func39 (by kernel_rfl) rfl #[.slice Ao34 t1089.length co34] rfl (by (try simp only [List.map_toArray, List.map_cons, List.map_nil]); first | done | rfl | (simp only [List.length_drop, List.length_take]; rfl)) ?_; (with_reducible refine (impl_LogTree.calls k _ _ t1089 t1092 _ ?side1 ?side2 A8.out ?side3).mono ?_); (case side1 => repeat (first | exact (Kd.R_reads' HO1091.out).2.2 | (with_reducible refine Kd.C_alloc ?_ _) | (with_reducible refine Kd.C_drewN ?_ _) | (with_reducible refine Kd.C_drew ?_))); (case side2 => exact (Kd.R_reads' HO1091.out).2.1); (case side3 => exact Glob.below HG.out (by repeat (first | (with_reducible first | exact HB.out | apply below_alloc | apply pw_below_drewN | apply below_drew1) | exact HB.out))); rintro e w35 ⟨v1093, rfl, ho0, hb⟩; refine ⟨_, rfl, ?_⟩; have n0_ := Aside0.mk (Kd.R_below (by (with_reducible repeat (first | apply Kd.R_alloc | apply Kd.R_drewN | apply Kd.R_drew)); exact HO1085.out) hb); have n1_ := Aside0.mk (Kd.R_elder' (by (with_reducible repeat (first | apply Kd.R_alloc | apply Kd.R_drewN | apply Kd.R_drew)); exact HO1088.out) (Kd.R_base ho0) hb); have n2_ := Aside0.mk (Kd.R_below (by (with_reducible repeat (first | apply Kd.R_alloc | apply Kd.R_drewN | apply Kd.R_drew)); exact HO1091.out) hb); have n3_ := Aside0.mk (Kd.R_lower (Kd.R_new' ho0 (Kd.R_lt (by (with_reducible repeat (first | apply Kd.R_alloc | apply Kd.R_drewN | apply Kd.R_drew)); exact HO1088.out))) (below_size (by repeat (first | (with_reducible first | exact HB.out | apply below_alloc | apply pw_below_drewN | apply below_drew1) | exact HB.out)))); have n4_ := Aside0.mk (below_step (by repeat (first | (with_reducible first | exact HB.out | apply below_alloc | apply pw_below_drewN | apply below_drew1) | exact HB.out)) hb); clear HO1085; clear HO1088; clear HO1091; clear HB; have HO1085 := n0_; have HO1088 := n1_; have HO1091 := n2_; have HO1094 := n3_; have HB := n4_; clear n0_ n1_ n2_ n3_ n4_; (try clear hb); (try clear hb2); (try clear hk); (try clear hi); (try clear ho0); obtain ⟨Ao36, co36, eo36⟩ := Kd.R_slice HO1094.out; subst eo36; obtain ⟨Ao37, co37, eo37⟩ := Kd.R_slice HO1088.out; subst eo37) | ((with_reducible refine gate_callee (f := 51) rfl ?_); refine goesL_ (some 25) rfl rfl Tryd.func51 (by kernel_rfl) rfl #[.slice Ao36 t1092.length co36, .slice Ao37 t1086.length co37] rfl (by (try simp only [List.map_toArray, List.map_cons, List.map_nil]); first | done | rfl | (simp only [List.length_drop, List.length_take]; rfl)) ?_; (with_reducible refine (laws_eqRowS.calls k _ _ t1092 _ _ t1086 true _ ?side1 ?side2 ?side3 ?side4 A9.out).mono ?_); (case side1 => repeat (first | exact (Kd.R_reads' HO1094.out).2.2 | (with_reducible refine Kd.C_alloc ?_ _) | (with_reducible refine Kd.C_drewN ?_ _) | (with_reducible refine Kd.C_drew ?_))); (case side2 => exact (Kd.R_reads' HO1094.out).2.1); (case side3 => repeat (first | exact (Kd.R_reads' HO1088.out).2.2 | (with_reducible refine Kd.C_alloc ?_ _) | (with_reducible refine Kd.C_drewN ?_ _) | (with_reducible refine Kd.C_drew ?_))); (case side4 => exact (Kd.R_reads' HO1088.out).2.1); rintro e w38 ⟨rfl, hb⟩; refine ⟨_, rfl, ?_⟩; have n0_ := Aside0.mk (Kd.R_below (by (with_reducible repeat (first | apply Kd.R_alloc | apply Kd.R_drewN | apply Kd.R_drew)); exact HO1085.out) hb); have n1_ := Aside0.mk (Kd.R_below (by (with_reducible repeat (first | apply Kd.R_alloc | apply Kd.R_drewN | apply Kd.R_drew)); exact HO1088.out) hb); have n2_ := Aside0.mk (Kd.R_below (by (with_reducible repeat (first | apply Kd.R_alloc | apply Kd.R_drewN | apply Kd.R_drew)); exact HO1091.out) hb); have n3_ := Aside0.mk (Kd.R_below (by (with_reducible repeat (first | apply Kd.R_alloc | apply Kd.R_drewN | apply Kd.R_drew)); exact HO1094.out) hb); have n4_ := Aside0.mk (below_step (by repeat (first | (with_reducible first | exact HB.out | apply below_alloc | apply pw_below_drewN | apply below_drew1) | exact HB.out)) hb); clear HO1085; clear HO1088; clear HO1091; clear HO1094; clear HB; have HO1085 := n0_; have HO1088 := n1_; have HO1091 := n2_; have HO1094 := n3_; have HB := n4_; clear n0_ n1_ n2_ n3_ n4_; (try clear hb); (try clear hb2); (try clear hk); (try clear hi)) | ((with_reducible refine gate_callee (f := 50) rfl ?_); refine goesL_ (some 29) rfl rfl Tryd.func50 (by kernel_rfl) rfl #[.slice A0 l0.length c0] rfl (by (try simp only [List.map_toArray, List.map_cons, List.map_nil]); first | done | rfl | (simp only [List.length_drop, List.length_take]; rfl)) ?_; (with_reducible refine (laws_toEntryS.calls k _ _ l0 t1096 _ ?side1 ?side2 A11.out).mono ?_); (case side1 => repeat (first | exact (Kd.C_below HR0.out HB.out) | (with_reducible refine Kd.C_alloc ?_ _) | (with_reducible refine Kd.C_drewN ?_ _) | (with_reducible refine Kd.C_drew ?_))); (case side2 => exact HC0.out); rintro e w39 ⟨v1097, rfl, ho0, hb⟩; refine ⟨_, rfl, ?_⟩; have n0_ := Aside0.mk (Kd.R_elder' (by (with_reducible repeat (first | apply Kd.R_alloc | apply Kd.R_drewN | apply Kd.R_drew)); exact HO1085.out) (Kd.R_base ho0) hb); have n1_ := Aside0.mk (Kd.R_below (by (with_reducible repeat (first | apply Kd.R_alloc | apply Kd.R_drewN | apply Kd.R_drew)); exact HO1088.out) hb); have n2_ := Aside0.mk (Kd.R_elder' (by (with_reducible repeat (first | apply Kd.R_alloc | apply Kd.R_drewN | apply Kd.R_drew)); exact HO1091.out) (Kd.R_base ho0) hb); have n3_ := Aside0.mk (Kd.R_below (by (with_reducible repeat (first | apply Kd.R_alloc | apply Kd.R_drewN | apply Kd.R_drew)); exact HO1094.out) hb); have n4_ := Aside0.mk (Kd.R_lower (Kd.R_new' (Kd.R_new' ho0 (Kd.R_lt (by (with_reducible repeat (first | apply Kd.R_alloc | apply Kd.R_drewN | apply Kd.R_drew)); exact HO1085.out))) (Kd.R_lt (by (with_reducible repeat (first | apply Kd.R_alloc | apply Kd.R_drewN | apply Kd.R_drew)); exact HO1091.out))) (below_size (by repeat (first | (with_reducible first | exact HB.out | apply below_alloc | apply pw_below_drewN | apply below_drew1) | exact HB.out)))); have n5_ := Aside0.mk (below_step (by repeat (first | (with_reducible first | exact HB.out | apply below_alloc | apply pw_below_drewN | apply below_drew1) | exact HB.out)) hb); clear HO1085; clear HO1088; clear HO1091; clear HO1094; clear HB; have HO1085 := n0_; have HO1088 := n1_; have HO1091 := n2_; have HO1094 := n3_; have HO1098 := n4_; have HB := n5_; clear n0_ n1_ n2_ n3_ n4_ n5_; (try clear hb); (try clear hb2); (try clear hk); (try clear hi); (try clear ho0); obtain ⟨Ao40, co40, eo40⟩ := Kd.R_slice HO1098.out; subst eo40) | ((with_reducible refine gate_callee (f := 52) rfl ?_); refine goesL_ (some 30) rfl rfl Tryd.func52 (by kernel_rfl) rfl #[.slice Ao34 t1089.length co34, .slice Ao40 t1096.length co40] rfl (by (try simp only [List.map_toArray, List.map_cons, List.map_nil]); first | done | rfl | (simp only [List.length_drop, List.length_take]; rfl)) ?_; (with_reducible refine (laws_eqEntryS.calls k _ _ t1089 _ _ t1096 true _ ?side1 ?side2 ?side3 ?side4 A12.out).mono ?_); (case side1 => repeat (first | exact (Kd.R_reads' HO1091.out).2.2 | (with_reducible refine Kd.C_alloc ?_ _) | (with_reducible refine Kd.C_drewN ?_ _) | (with_reducible refine Kd.C_drew ?_))); (case side2 => exact (Kd.R_reads' HO1091.out).2.1); (case side3 => repeat (first | exact (Kd.R_reads' HO1098.out).2.2 | (with_reducible refine Kd.C_alloc ?_ _) | (with_reducible refine Kd.C_drewN ?_ _) | (with_reducible refine Kd.C_drew ?_))); (case side4 => exact (Kd.R_reads' HO1098.out).2.1); rintro e w41 ⟨rfl, hb⟩; refine ⟨_, rfl, ?_⟩; have n0_ := Aside0.mk (Kd.R_below (by (with_reducible repeat (first | apply Kd.R_alloc | apply Kd.R_drewN | apply Kd.R_drew)); exact HO1085.out) hb); have n1_ := Aside0.mk (Kd.R_below (by (with_reducible repeat (first | apply Kd.R_alloc | apply Kd.R_drewN | apply Kd.R_drew)); exact HO1088.out) hb); have n2_ := Aside0.mk (Kd.R_below (by (with_reducible repeat (first | apply Kd.R_alloc | apply Kd.R_drewN | apply Kd.R_drew)); exact HO1091.out) hb); have n3_ := Aside0.mk (Kd.R_below (by (with_reducible repeat (first | apply Kd.R_alloc | apply Kd.R_drewN | apply Kd.R_drew)); exact HO1094.out) hb); have n4_ := Aside0.mk (Kd.R_below (by (with_reducible repeat (first | apply Kd.R_alloc | apply Kd.R_drewN | apply Kd.R_drew)); exact HO1098.out) hb); have n5_ := Aside0.mk (below_step (by repeat (first | (with_reducible first | exact HB.out | apply below_alloc | apply pw_below_drewN | apply below_drew1) | exact HB.out)) hb); clear HO1085; clear HO1088; clear HO1091; clear HO1094; clear HO1098; clear HB; have HO1085 := n0_; have HO1088 := n1_; have HO1091 := n2_; have HO1094 := n3_; have HO1098 := n4_; have HB := n5_; clear n0_ n1_ n2_ n3_ n4_ n5_; (try clear hb); (try clear hb2); (try clear hk); (try clear hi)) | ((with_reducible refine gate_callee (f := 53) rfl ?_); refine goesL_ (some 34) rfl rfl Tryd.func53 (by kernel_rfl) rfl #[.slice Ao34 t1089.length co34, .int .i64 1] rfl (by (try simp only [List.map_toArray, List.map_cons, List.map_nil]); first | done | rfl | (simp only [List.length_drop, List.length_take]; rfl)) ?_; (with_reducible refine (laws_markEntryS.calls k (fun k_ => some k_ = (.slice Ao34 t1089.length co34 : Value).ownBlock) (.slice Ao34 t1089.length co34) t1089 1 t1100 t1101 w _ ?side1 ?side2 A14.out).mono ?_); (case side1 => repeat (first | (with_reducible first | exact HB.out | apply below_alloc | apply pw_below_drewN | apply below_drew1) | exact HB.out)); (case side2 => exact Kd.R_tight rfl HO1091.out); rintro e w42 ⟨rfl, hy0, hb, hkp⟩; refine ⟨_, rfl, ?_⟩; have n0_ := Aside0.mk (Kd.R_mono (ok' := fun k_ => some k_ ≠ (.slice Ao34 t1089.length co34 : Value).ownBlock ∧ some k_ ≠ (.slice Ao40 t1096.length co40 : Value).ownBlock) (Kd.R_keptB (HO1085.out) hkp (fun k_ hk_ hs_ => (hk_.1.2) hs_)) (fun k_ hk_ => ⟨hk_.1.1.2, hk_.1.2⟩)); have n1_ := Aside0.mk (Kd.R_mono (ok' := fun k_ => some k_ ≠ (.slice Ao36 t1092.length co36 : Value).ownBlock) (Kd.R_keptB ((Kd.R_apart' HO1088.out (Kd.R_typed HO1091.out) (by decide))) hkp (fun k_ hk_ hs_ => (hk_.2) hs_)) (fun k_ hk_ => hk_.1.1.2)); have n2_ := Aside0.mk (Kd.R_reok rfl hy0 (fun k_ e_ => HO1091.out.1 k_ e_)); have n3_ := Aside0.mk (Kd.R_mono (ok' := fun k_ => some k_ ≠ (.slice Ao37 t1086.length co37 : Value).ownBlock) (Kd.R_keptB ((Kd.R_apart' HO1094.out (Kd.R_typed HO1091.out) (by decide))) hkp (fun k_ hk_ hs_ => (hk_.2) hs_)) (fun k_ hk_ => hk_.1.1.2)); have n4_ := Aside0.mk (Kd.R_mono (ok' := fun k_ => some k_ ≠ (.slice Ao31 t1083.length co31 : Value).ownBlock ∧ some k_ ≠ (.slice Ao34 t1089.length co34 : Value).ownBlock) (Kd.R_keptB (HO1098.out) hkp (fun k_ hk_ hs_ => (hk_.2) hs_)) (fun k_ hk_ => ⟨hk_.1.1.2, hk_.1.2⟩)); have n5_ := Aside0.mk (hb); clear HO1085; clear HO1088; clear HO1091; clear HO1094; clear HO1098; clear HB; have HO1085 := n0_; have HO1088 := n1_; have HO1091 := n2_; have HO1094 := n3_; have HO1098 := n4_; have HB := n5_; clear n0_ n1_ n2_ n3_ n4_ n5_; (try clear hb); (try clear hkp); (try clear hy0)) | (go_at_call 51; (with_reducible refine (laws_eqRowS.calls k _ _ t1092 _ _ t1086 true _ ?side1 ?side2 ?side3 ?side4 A16.out).mono ?_); (case side1 => repeat (first | exact (Kd.R_reads' HO1094.out).2.2 | (with_reducible refine Kd.C_alloc ?_ _) | (with_reducible refine Kd.C_drewN ?_ _) | (with_reducible refine Kd.C_drew ?_))); (case side2 => exact (Kd.R_reads' HO1094.out).2.1); (case side3 => repeat (first | exact (Kd.R_reads' HO1088.out).2.2 | (with_reducible refine Kd.C_alloc ?_ _) | (with_reducible refine Kd.C_drewN ?_ _) | (with_reducible refine Kd.C_drew ?_))); (case side4 => exact (Kd.R_reads' HO1088.out).2.1); rintro e w43 ⟨rfl, hb⟩; have n0_ := Aside0.mk (Kd.R_below (by (with_reducible repeat (first | apply Kd.R_alloc | apply Kd.R_drewN | apply Kd.R_drew)); exact HO1085.out) hb); have n1_ := Aside0.mk (Kd.R_below (by (with_reducible repeat (first | apply Kd.R_alloc | apply Kd.R_drewN | apply Kd.R_drew)); exact HO1088.out) hb); have n2_ := Aside0.mk (Kd.R_below (by (with_reducible repeat (first | apply Kd.R_alloc | apply Kd.R_drewN | apply Kd.R_drew)); exact HO1091.out) hb); have n3_ := Aside0.mk (Kd.R_below (by (with_reducible repeat (first | apply Kd.R_alloc | apply Kd.R_drewN | apply Kd.R_drew)); exact HO1094.out) hb); have n4_ := Aside0.mk (Kd.R_below (by (with_reducible repeat (first | apply Kd.R_alloc | apply Kd.R_drewN | apply Kd.R_drew)); exact HO1098.out) hb); have n5_ := Aside0.mk (below_step (by repeat (first | (with_reducible first | exact HB.out | apply below_alloc | apply pw_below_drewN | apply below_drew1) | exact HB.out)) hb); clear HO1085; clear HO1088; clear HO1091; clear HO1094; clear HO1098; clear HB; have HO1085 := n0_; have HO1088 := n1_; have HO1091 := n2_; have HO1094 := n3_; have HO1098 := n4_; have HB := n5_; clear n0_ n1_ n2_ n3_ n4_ n5_; (try clear hb); (try clear hb2); (try clear hk); (try clear hi)) | ((with_reducible refine gate_callee (f := 54) rfl ?_); refine goesL_ (some 45) rfl rfl Tryd.func54 (by kernel_rfl) rfl #[.slice Ao36 t1092.length co36, .int .i64 1] rfl (by (try simp only [List.map_toArray, List.map_cons, List.map_nil]); first | done | rfl | (simp only [List.length_drop, List.length_take]; rfl)) ?_; (with_reducible refine (laws_markRowS.calls k (fun k_ => some k_ = (.slice Ao36 t1092.length co36 : Value).ownBlock) (.slice Ao36 t1092.length co36) t1092 1 t1103 t1104 w _ ?side1 ?side2 A18.out).mono ?_); (case side1 => repeat (first | (with_reducible first | exact HB.out | apply below_alloc | apply pw_below_drewN | apply below_drew1) | exact HB.out)); (case side2 => exact Kd.R_tight rfl HO1094.out); rintro e w44 ⟨rfl, hy0, hb, hkp⟩; refine ⟨_, rfl, ?_⟩; have n0_ := Aside0.mk (Kd.R_mono (ok' := fun k_ => some k_ ≠ (.slice Ao34 t1089.length co34 : Value).ownBlock ∧ some k_ ≠ (.slice Ao40 t1096.length co40 : Value).ownBlock) (Kd.R_keptB ((Kd.R_apart' HO1085.out (Kd.R_typed HO1094.out) (by decide))) hkp (fun k_ hk_ hs_ => (hk_.2) hs_)) (fun k_ hk_ => ⟨hk_.1.1.1, hk_.1.1.2⟩)); have n1_ := Aside0.mk (Kd.R_mono (ok' := fun k_ => some k_ ≠ (.slice Ao36 t1092.length co36 : Value).ownBlock) (Kd.R_keptB (HO1088.out) hkp (fun k_ hk_ hs_ => (hk_) hs_)) (fun k_ hk_ => hk_.1)); have n2_ := Aside0.mk (Kd.R_mono (ok' := fun k_ => some k_ ≠ (.slice Ao31 t1083.length co31 : Value).ownBlock ∧ some k_ ≠ (.slice Ao40 t1096.length co40 : Value).ownBlock) (Kd.R_keptB ((Kd.R_apart' HO1091.out (Kd.R_typed HO1094.out) (by decide))) hkp (fun k_ hk_ hs_ => (hk_.2) hs_)) (fun k_ hk_ => ⟨hk_.1.1.1.2, hk_.1.1.2⟩)); have n3_ := Aside0.mk (Kd.R_reok rfl hy0 (fun k_ e_ => HO1094.out.1 k_ e_)); have n4_ := Aside0.mk (Kd.R_mono (ok' := fun k_ => some k_ ≠ (.slice Ao31 t1083.length co31 : Value).ownBlock ∧ some k_ ≠ (.slice Ao34 t1089.length co34 : Value).ownBlock) (Kd.R_keptB ((Kd.R_apart' HO1098.out (Kd.R_typed HO1094.out) (by decide))) hkp (fun k_ hk_ hs_ => (hk_.2) hs_)) (fun k_ hk_ => ⟨hk_.1.1.1, hk_.1.1.2⟩)); have n5_ := Aside0.mk (hb); clear HO1085; clear HO1088; clear HO1091; clear HO1094; clear HO1098; clear HB; have HO1085 := n0_; have HO1088 := n1_; have HO1091 := n2_; have HO1094 := n3_; have HO1098 := n4_; have HB := n5_; clear n0_ n1_ n2_ n3_ n4_ n5_; (try clear hb); (try clear hkp); (try clear hy0)) | ((with_reducible refine gate_callee (f := 55) rfl ?_); refine goesL_ (some 48) rfl rfl Tryd.func55 (by kernel_rfl) rfl #[.slice Ao36 t1104.length co36, .int .i64 1] rfl (by (try simp only [List.map_toArray, List.map_cons, List.map_nil]); first | done | (rw [show t1104.length = t1092.length from (Kd.R_reads' HO1094.out).1.symm] <;> rfl) | rfl | (simp only [List.length_drop, List.length_take]; rfl)) ?_; (with_reducible refine (laws_heldRowS.calls k _ _ t1104 1 t1105 _ ?side1 ?side2 A19.out).mono ?_); (case side1 => repeat (first | exact (Kd.R_reads' HO1094.out).2.2 | (with_reducible refine Kd.C_alloc ?_ _) | (with_reducible refine Kd.C_drewN ?_ _) | (with_reducible refine Kd.C_drew ?_))); (case side2 => rw [show t1104.length = t1092.length from (Kd.R_reads' HO1094.out).1.symm]; exact (Kd.R_reads' HO1094.out).2.1); rintro e w45 ⟨rfl, hb⟩; refine ⟨_, rfl, ?_⟩; have n0_ := Aside0.mk (Kd.R_below (by (with_reducible repeat (first | apply Kd.R_alloc | apply Kd.R_drewN | apply Kd.R_drew)); exact HO1085.out) hb); have n1_ := Aside0.mk (Kd.R_below (by (with_reducible repeat (first | apply Kd.R_alloc | apply Kd.R_drewN | apply Kd.R_drew)); exact HO1088.out) hb); have n2_ := Aside0.mk (Kd.R_below (by (with_reducible repeat (first | apply Kd.R_alloc | apply Kd.R_drewN | apply Kd.R_drew)); exact HO1091.out) hb); have n3_ := Aside0.mk (Kd.R_below (by (with_reducible repeat (first | apply Kd.R_alloc | apply Kd.R_drewN | apply Kd.R_drew)); exact HO1094.out) hb); have n4_ := Aside0.mk (Kd.R_below (by (with_reducible repeat (first | apply Kd.R_alloc | apply Kd.R_drewN | apply Kd.R_drew)); exact HO1098.out) hb); have n5_ := Aside0.mk (below_step (by repeat (first | (with_reducible first | exact HB.out | apply below_alloc | apply pw_below_drewN | apply below_drew1) | exact HB.out)) hb); clear HO1085; clear HO1088; clear HO1091; clear HO1094; clear HO1098; clear HB; have HO1085 := n0_; have HO1088 := n1_; have HO1091 := n2_; have HO1094 := n3_; have HO1098 := n4_; have HB := n5_; clear n0_ n1_ n2_ n3_ n4_ n5_; (try clear hb); (try clear hb2); (try clear hk); (try clear hi)) | ((with_reducible refine gate_callee (f := 50) rfl ?_); refine goesL_ (some 55) rfl rfl Tryd.func50 (by kernel_rfl) rfl #[.slice A0 l0.length c0] rfl (by (try simp only [List.map_toArray, List.map_cons, List.map_nil]); first | done | rfl | (simp only [List.length_drop, List.length_take]; rfl)) ?_; (with_reducible refine (laws_toEntryS.calls k _ _ l0 t1106 _ ?side1 ?side2 A22.out).mono ?_); (case side1 => repeat (first | exact (Kd.C_below HR0.out HB.out) | (with_reducible refine Kd.C_alloc ?_ _) | (with_reducible refine Kd.C_drewN ?_ _) | (with_reducible refine Kd.C_drew ?_))); (case side2 => exact HC0.out); rintro e w46 ⟨v1107, rfl, ho0, hb⟩; refine ⟨_, rfl, ?_⟩; have n0_ := Aside0.mk (Kd.R_elder' (by (with_reducible repeat (first | apply Kd.R_alloc | apply Kd.R_drewN | apply Kd.R_drew)); exact HO1085.out) (Kd.R_base ho0) hb); have n1_ := Aside0.mk (Kd.R_below (by (with_reducible repeat (first | apply Kd.R_alloc | apply Kd.R_drewN | apply Kd.R_drew)); exact HO1088.out) hb); have n2_ := Aside0.mk (Kd.R_elder' (by (with_reducible repeat (first | apply Kd.R_alloc | apply Kd.R_drewN | apply Kd.R_drew)); exact HO1091.out) (Kd.R_base ho0) hb); have n3_ := Aside0.mk (Kd.R_below (by (with_reducible repeat (first | apply Kd.R_alloc | apply Kd.R_drewN | apply Kd.R_drew)); exact HO1094.out) hb); have n4_ := Aside0.mk (Kd.R_elder' (by (with_reducible repeat (first | apply Kd.R_alloc | apply Kd.R_drewN | apply Kd.R_drew)); exact HO1098.out) (Kd.R_base ho0) hb); have n5_ := Aside0.mk (Kd.R_lower (Kd.R_new' (Kd.R_new' (Kd.R_new' ho0 (Kd.R_lt (by (with_reducible repeat (first | apply Kd.R_alloc | apply Kd.R_drewN | apply Kd.R_drew)); exact HO1085.out))) (Kd.R_lt (by (with_reducible repeat (first | apply Kd.R_alloc | apply Kd.R_drewN | apply Kd.R_drew)); exact HO1091.out))) (Kd.R_lt (by (with_reducible repeat (first | apply Kd.R_alloc | apply Kd.R_drewN | apply Kd.R_drew)); exact HO1098.out))) (below_size (by repeat (first | (with_reducible first | exact HB.out | apply below_alloc | apply pw_below_drewN | apply below_drew1) | exact HB.out)))); have n6_ := Aside0.mk (below_step (by repeat (first | (with_reducible first | exact HB.out | apply below_alloc | apply pw_below_drewN | apply below_drew1) | exact HB.out)) hb); clear HO1085; clear HO1088; clear HO1091; clear HO1094; clear HO1098; clear HB; have HO1085 := n0_; have HO1088 := n1_; have HO1091 := n2_; have HO1094 := n3_; have HO1098 := n4_; have HO1108 := n5_; have HB := n6_; clear n0_ n1_ n2_ n3_ n4_ n5_ n6_; (try clear hb); (try clear hb2); (try clear hk); (try clear hi); (try clear ho0); obtain ⟨Ao47, co47, eo47⟩ := Kd.R_slice HO1108.out; subst eo47) | ((with_reducible refine gate_callee (f := 39) rfl ?_); refine goesL_ (some 56) rfl rfl Tryd.func39 (by kernel_rfl) rfl #[.slice Ao47 t1106.length co47] rfl (by (try simp only [List.map_toArray, List.map_cons, List.map_nil]); first | done | rfl | (simp only [List.length_drop, List.length_take]; rfl)) ?_; (with_reducible refine (impl_LogTree.calls k _ _ t1106 t1109 _ ?side1 ?side2 A23.out ?side3).mono ?_); (case side1 => repeat (first | exact (Kd.R_reads' HO1108.out).2.2 | (with_reducible refine Kd.C_alloc ?_ _) | (with_reducible refine Kd.C_drewN ?_ _) | (with_reducible refine Kd.C_drew ?_))); (case side2 => exact (Kd.R_reads' HO1108.out).2.1); (case side3 => exact Glob.below HG.out (by repeat (first | (with_reducible first | exact HB.out | apply below_alloc | apply pw_below_drewN | apply below_drew1) | exact HB.out))); rintro e w48 ⟨v1110, rfl, ho0, hb⟩; refine ⟨_, rfl, ?_⟩; have n0_ := Aside0.mk (Kd.R_below (by (with_reducible repeat (first | apply Kd.R_alloc | apply Kd.R_drewN | apply Kd.R_drew)); exact HO1085.out) hb); have n1_ := Aside0.mk (Kd.R_elder' (by (with_reducible repeat (first | apply Kd.R_alloc | apply Kd.R_drewN | apply Kd.R_drew)); exact HO1088.out) (Kd.R_base ho0) hb); have n2_ := Aside0.mk (Kd.R_below (by (with_reducible repeat (first | apply Kd.R_alloc | apply Kd.R_drewN | apply Kd.R_drew)); exact HO1091.out) hb); have n3_ := Aside0.mk (Kd.R_elder' (by (with_reducible repeat (first | apply Kd.R_alloc | apply Kd.R_drewN | apply Kd.R_drew)); exact HO1094.out) (Kd.R_base ho0) hb); have n4_ := Aside0.mk (Kd.R_below (by (with_reducible repeat (first | apply Kd.R_alloc | apply Kd.R_drewN | apply Kd.R_drew)); exact HO1098.out) hb); have n5_ := Aside0.mk (Kd.R_below (by (with_reducible repeat (first | apply Kd.R_alloc | apply Kd.R_drewN | apply Kd.R_drew)); exact HO1108.out) hb); have n6_ := Aside0.mk (Kd.R_lower (Kd.R_new' (Kd.R_new' ho0 (Kd.R_lt (by (with_reducible repeat (first | apply Kd.R_alloc | apply Kd.R_drewN | apply Kd.R_drew)); exact HO1088.out))) (Kd.R_lt (by (with_reducible repeat (first | apply Kd.R_alloc | apply Kd.R_drewN | apply Kd.R_drew)); exact HO1094.out))) (below_size (by repeat (first | (with_reducible first | exact HB.out | apply below_alloc | apply pw_below_drewN | apply below_drew1) | exact HB.out)))); have n7_ := Aside0.mk (below_step (by repeat (first | (with_reducible first | exact HB.out | apply below_alloc | apply pw_below_drewN | apply below_drew1) | exact HB.out)) hb); clear HO1085; clear HO1088; clear HO1091; clear HO1094; clear HO1098; clear HO1108; clear HB; have HO1085 := n0_; have HO1088 := n1_; have HO1091 := n2_; have HO1094 := n3_; have HO1098 := n4_; have HO1108 := n5_; have HO1111 := n6_; have HB := n7_; clear n0_ n1_ n2_ n3_ n4_ n5_ n6_ n7_; (try clear hb); (try clear hb2); (try clear hk); (try clear hi); (try clear ho0); obtain ⟨Ao49, co49, eo49⟩ := Kd.R_slice HO1111.out; subst eo49) | ((with_reducible refine gate_callee (f := 51) rfl ?_); refine goesL_ (some 59) rfl rfl Tryd.func51 (by kernel_rfl) rfl #[.slice Ao49 t1109.length co49, .slice Ao37 t1086.length co37] rfl (by (try simp only [List.map_toArray, List.map_cons, List.map_nil]); first | done | rfl | (simp only [List.length_drop, List.length_take]; rfl)) ?_; (with_reducible refine (laws_eqRowS.calls k _ _ t1109 _ _ t1086 true _ ?side1 ?side2 ?side3 ?side4 A24.out).mono ?_); (case side1 => repeat (first | exact (Kd.R_reads' HO1111.out).2.2 | (with_reducible refine Kd.C_alloc ?_ _) | (with_reducible refine Kd.C_drewN ?_ _) | (with_reducible refine Kd.C_drew ?_))); (case side2 => exact (Kd.R_reads' HO1111.out).2.1); (case side3 => repeat (first | exact (Kd.R_reads' HO1088.out).2.2 | (with_reducible refine Kd.C_alloc ?_ _) | (with_reducible refine Kd.C_drewN ?_ _) | (with_reducible refine Kd.C_drew ?_))); (case side4 => exact (Kd.R_reads' HO1088.out).2.1); rintro e w50 ⟨rfl, hb⟩; refine ⟨_, rfl, ?_⟩; have n0_ := Aside0.mk (Kd.R_below (by (with_reducible repeat (first | apply Kd.R_alloc | apply Kd.R_drewN | apply Kd.R_drew)); exact HO1085.out) hb); have n1_ := Aside0.mk (Kd.R_below (by (with_reducible repeat (first | apply Kd.R_alloc | apply Kd.R_drewN | apply Kd.R_drew)); exact HO1088.out) hb); have n2_ := Aside0.mk (Kd.R_below (by (with_reducible repeat (first | apply Kd.R_alloc | apply Kd.R_drewN | apply Kd.R_drew)); exact HO1091.out) hb); have n3_ := Aside0.mk (Kd.R_below (by (with_reducible repeat (first | apply Kd.R_alloc | apply Kd.R_drewN | apply Kd.R_drew)); exact HO1094.out) hb); have n4_ := Aside0.mk (Kd.R_below (by (with_reducible repeat (first | apply Kd.R_alloc | apply Kd.R_drewN | apply Kd.R_drew)); exact HO1098.out) hb); have n5_ := Aside0.mk (Kd.R_below (by (with_reducible repeat (first | apply Kd.R_alloc | apply Kd.R_drewN | apply Kd.R_drew)); exact HO1108.out) hb); have n6_ := Aside0.mk (Kd.R_below (by (with_reducible repeat (first | apply Kd.R_alloc | apply Kd.R_drewN | apply Kd.R_drew)); exact HO1111.out) hb); have n7_ := Aside0.mk (below_step (by repeat (first | (with_reducible first | exact HB.out | apply below_alloc | apply pw_below_drewN | apply below_drew1) | exact HB.out)) hb); clear HO1085; clear HO1088; clear HO1091; clear HO1094; clear HO1098; clear HO1108; clear HO1111; clear HB; have HO1085 := n0_; have HO1088 := n1_; have HO1091 := n2_; have HO1094 := n3_; have HO1098 := n4_; have HO1108 := n5_; have HO1111 := n6_; have HB := n7_; clear n0_ n1_ n2_ n3_ n4_ n5_ n6_ n7_; (try clear hb); (try clear hb2); (try clear hk); (try clear hi)) | ((with_reducible refine gate_callee (f := 55) rfl ?_); refine goesL_ (some 63) rfl rfl Tryd.func55 (by kernel_rfl) rfl #[.slice Ao36 t1104.length co36, .int .i64 1] rfl (by (try simp only [List.map_toArray, List.map_cons, List.map_nil]); first | done | (rw [show t1104.length = t1092.length from (Kd.R_reads' HO1094.out).1.symm] <;> rfl) | rfl | (simp only [List.length_drop, List.length_take]; rfl)) ?_; (with_reducible refine (laws_heldRowS.calls k _ _ t1104 1 t1113 _ ?side1 ?side2 A26.out).mono ?_); (case side1 => repeat (first | exact (Kd.R_reads' HO1094.out).2.2 | (with_reducible refine Kd.C_alloc ?_ _) | (with_reducible refine Kd.C_drewN ?_ _) | (with_reducible refine Kd.C_drew ?_))); (case side2 => rw [show t1104.length = t1092.length from (Kd.R_reads' HO1094.out).1.symm]; exact (Kd.R_reads' HO1094.out).2.1); rintro e w51 ⟨rfl, hb⟩; refine ⟨_, rfl, ?_⟩; have n0_ := Aside0.mk (Kd.R_below (by (with_reducible repeat (first | apply Kd.R_alloc | apply Kd.R_drewN | apply Kd.R_drew)); exact HO1085.out) hb); have n1_ := Aside0.mk (Kd.R_below (by (with_reducible repeat (first | apply Kd.R_alloc | apply Kd.R_drewN | apply Kd.R_drew)); exact HO1088.out) hb); have n2_ := Aside0.mk (Kd.R_below (by (with_reducible repeat (first | apply Kd.R_alloc | apply Kd.R_drewN | apply Kd.R_drew)); exact HO1091.out) hb); have n3_ := Aside0.mk (Kd.R_below (by (with_reducible repeat (first | apply Kd.R_alloc | apply Kd.R_drewN | apply Kd.R_drew)); exact HO1094.out) hb); have n4_ := Aside0.mk (Kd.R_below (by (with_reducible repeat (first | apply Kd.R_alloc | apply Kd.R_drewN | apply Kd.R_drew)); exact HO1098.out) hb); have n5_ := Aside0.mk (Kd.R_below (by (with_reducible repeat (first | apply Kd.R_alloc | apply Kd.R_drewN | apply Kd.R_drew)); exact HO1108.out) hb); have n6_ := Aside0.mk (Kd.R_below (by (with_reducible repeat (first | apply Kd.R_alloc | apply Kd.R_drewN | apply Kd.R_drew)); exact HO1111.out) hb); have n7_ := Aside0.mk (below_step (by repeat (first | (with_reducible first | exact HB.out | apply below_alloc | apply pw_below_drewN | apply below_drew1) | exact HB.out)) hb); clear HO1085; clear HO1088; clear HO1091; clear HO1094; clear HO1098; clear HO1108; clear HO1111; clear HB; have HO1085 := n0_; have HO1088 := n1_; have HO1091 := n2_; have HO1094 := n3_; have HO1098 := n4_; have HO1108 := n5_; have HO1111 := n6_; have HB := n7_; clear n0_ n1_ n2_ n3_ n4_ n5_ n6_ n7_; (try clear hb); (try clear hb2); (try clear hk); (try clear hi)))
           go_ret
           exact ⟨by first | rfl | (simp [errW_none, errW_some] <;> rfl) | (simp [*, errW_none, errW_some] <;> rfl), by repeat (first | (with_reducible first | exact HB.out | apply below_alloc | apply pw_below_drewN | apply below_drew1) | exact HB.out)⟩
          ·rw [if_neg c28] at H
           exact absurd H (by simp)
        ·replace c25 := Bool.eq_false_iff.mpr c25
         subst c25
         have H1 : (none) = some r := by rw [if_neg (show ¬ (false = true) by decide)] at H; exact H
         clear H
         have H := H1
         clear H1
         exact absurd H (by simp)
       ·rw [if_neg c21] at H
        exact absurd H (by simp)
     ·replace c17 := Bool.eq_false_iff.mpr c17
      subst c17
      have H1 : (none) = some r := by rw [if_neg (show ¬ (false = true) by decide)] at H; exact H
      clear H
      have H := H1
      clear H1
      exact absurd H (by simp)
   ·replace c13 := Bool.eq_false_iff.mpr c13
    subst c13
    have H1 : (none) = some r := by rw [if_neg (show ¬ (false = true) by decide)] at H; exact H
    clear H
    have H := H1
    clear H1
    exact absurd H (by simp)
  ·replace c10 := Bool.eq_false_iff.mpr c10
   subst c10
   have H1 : (none) = some r := by rw [if_neg (show ¬ (false = true) by decide)] at H; exact H
   clear H
   have H := H1
   clear H1
   exact absurd H (by simp)

end Go.Proofs.YtdpklbomhdpimaaDoor.P
namespace Go.Proofs.YtdpklbomhdpimaaDoor.PL
open Go.RowKit Go.Proofs.YtdpklbomhdpimaaDoor.P Go.Proofs.YtdpklbomhdpimaaDoorW.PrintWords Go.Proofs.YtdpklbomhdpimaaDoorW.PrintLast
def wfE (e : S44) : Prop := I64 e.f0 ∧ I64 e.f1 ∧ I64 e.f2.f0 ∧ I64 e.f2.f1 ∧ I64 e.f2.f2 ∧ I64 e.f2.f3 ∧ e.f2.f4.size ≤ 9223372036854775807
def entB (e : S44) : Bool :=
 decide (1 ≤ e.f0) && decide (e.f0 ≤ 3) && (decide (1 ≤ e.f1) && decide (e.f1 ≤ 40)) && opB e.f2.f0 e.f2.f1 e.f2.f2 e.f2.f3 e.f2.f4 && (decide (e.f2.f0 ≠ 1) || decide (ownI e.f2.f1 - 1 = e.f0))
theorem who_made (i : Int) (h : madeB i = true) : ownI i - 1 = wrap64 (Int.tdiv i 10) := by
 obtain ⟨h0, h1⟩ := made_small i h
 obtain ⟨n, rfl⟩ : ∃ n : Nat, i = n := ⟨i.toNat, by omega⟩
 rw [tdiv_wrap _ ⟨by omega, by omega⟩]
 exact small_who n (by omega) h
theorem ent_f (e : S44) (h : wfE e) : Ev (fun n => impl_EntryOk.f n e.f0 e.f1 e.f2.f0 e.f2.f1 e.f2.f2 e.f2.f3 e.f2.f4) (entB e) := by
 obtain ⟨h0, h1, h2, h3, h4, h5, h6⟩ := h
 unfold impl_EntryOk.f impl_whoOk.f entB
 by_cases a1 : e.f0 ≥ 1
 ·simp only [a1, if_true, Option.bind_some, ge_iff_le, decide_true, Bool.true_and]
  cases a2 : decide (e.f0 ≤ 3) with
  | false => simp only [Bool.false_eq_true, if_false, Bool.false_and]; exact evnow _
  | true =>
   simp only [if_true, Bool.true_and]
   by_cases a3 : e.f1 < 1
   ·have : decide (1 ≤ e.f1) = false := decide_eq_false (by omega)
    simp only [a3, if_true, this, Bool.false_and]; exact evnow _
   ·have e3 : decide (1 ≤ e.f1) = true := decide_eq_true (by omega)
    by_cases a4 : e.f1 > 40
    ·have : decide (e.f1 ≤ 40) = false := decide_eq_false (by omega)
     simp only [a3, if_false, a4, if_true, this, Bool.and_false, Bool.false_and]; exact evnow _
    ·have e4 : decide (e.f1 ≤ 40) = true := decide_eq_true (by omega)
     simp only [a3, if_false, a4, e3, e4, Bool.true_and]
     refine Ev.bind (opOk_f _ _ _ _ _ h6) ?_
     cases ho : opB e.f2.f0 e.f2.f1 e.f2.f2 e.f2.f3 e.f2.f4 with
     | false => simp only [Bool.false_eq_true, if_false, Bool.false_and]; exact evnow _
     | true =>
      simp only [if_true, Bool.true_and]
      have hm := opB_made _ _ _ _ _ ho
      unfold impl_RowWho.f
      have hn : ownI e.f2.f1 ≠ 0 := by
       intro hz
       unfold madeB at hm
       rw [hz] at hm
       simp at hm
      rw [if_neg hn]
      simp only [Option.bind_some]
      by_cases a5 : e.f2.f0 = 1
      ·simp only [a5, if_true, ne_eq, not_true, decide_false, Bool.false_or]
       have : (ownI e.f2.f1 - 1 == e.f0) = decide (ownI e.f2.f1 - 1 = e.f0) := by by_cases hq : ownI e.f2.f1 - 1 = e.f0 <;> simp [hq]
       rw [this]; exact evnow _
      ·simp only [a5, if_false, ne_eq, not_false_eq_true, decide_true, Bool.true_or]; exact evnow _
 ·have : decide (1 ≤ e.f0) = false := decide_eq_false (by omega)
  simp only [a1, if_false, Option.bind_some, Bool.false_eq_true, this, Bool.false_and]; exact evnow _
theorem sent_f (e : S44) (h : wfE e) : Ev (fun n => spec_EntryOk.f n e.f0 e.f1 e.f2.f0 e.f2.f1 e.f2.f2 e.f2.f3 e.f2.f4) (entB e) := by
 obtain ⟨h0, h1, h2, h3, h4, h5, h6⟩ := h
 unfold spec_EntryOk.f entB
 rw [in_f, in_f]
 simp only [Option.bind_some]
 cases (decide (1 ≤ e.f0) && decide (e.f0 ≤ 3)) with
 | false => simp only [Bool.false_eq_true, if_false, Bool.false_and]; exact evnow _
 | true =>
  cases (decide (1 ≤ e.f1) && decide (e.f1 ≤ 40)) with
  | false => simp only [Bool.false_eq_true, if_true, if_false, Bool.true_and, Bool.false_and]; exact evnow _
  | true =>
   simp only [if_true, Bool.true_and]
   refine Ev.bind (sop_f _ _ _ _ _ h3 h4 h5 h6) ?_
   cases ho : opB e.f2.f0 e.f2.f1 e.f2.f2 e.f2.f3 e.f2.f4 with
   | false => simp only [Bool.false_eq_true, if_false, Bool.false_and]; exact evnow _
   | true =>
    simp only [if_true, Bool.true_and]
    have hm := who_made _ (opB_made _ _ _ _ _ ho)
    by_cases a5 : e.f2.f0 = 1
    ·simp only [a5, if_true, ne_eq, not_true, decide_false, Bool.false_or]
     have : (wrap64 (Int.tdiv e.f2.f1 10) == e.f0) = decide (ownI e.f2.f1 - 1 = e.f0) := by rw [hm]; by_cases hq : wrap64 (Int.tdiv e.f2.f1 10) = e.f0 <;> simp [hq]
     rw [this]; exact evnow _
    ·simp only [a5, if_false, ne_eq, not_false_eq_true, decide_true, Bool.true_or]; exact evnow _
def goB : List S44 → List S44 → Bool
 | _, [] => true
 | pre, e :: rest => entB e && decide (cntE pre e.f0 + 1 = e.f1) && goB (pre ++ [e]) rest
def logB (l : List S44) : Bool := decide (l.length ≤ 40) && goB [] l
def wfL (l : List S44) : Prop := ∀ e ∈ l, wfE e
theorem log_go : ∀ (rest pre : List S44), wfL rest → Ev (fun n => impl_LogOk.go n pre rest) (goB pre rest)
 | [], _, _ => Ev.congr (f := fun _ => some true) (fun n => by unfold impl_LogOk.go; rfl) (evnow _)
 | e :: rest, pre, h => by
  unfold goB
  refine Ev.congr (f := fun k => (impl_EntryOk.f k e.f0 e.f1 e.f2.f0 e.f2.f1 e.f2.f2 e.f2.f3 e.f2.f4).bind fun t => if t = true then (if cntE pre e.f0 + 1 = e.f1 then impl_LogOk.go k (pre ++ [e]) rest else some false) else some false) (fun n => by rw [impl_LogOk.go]) ?_
  refine Ev.bind (ent_f e (h e (List.mem_cons_self))) ?_
  cases entB e with
  | false => simp only [Bool.false_eq_true, if_false, Bool.false_and]; exact evnow _
  | true =>
   simp only [if_true, Bool.true_and]
   by_cases hq : cntE pre e.f0 + 1 = e.f1
   ·simp only [hq, if_true, decide_true, Bool.true_and]; exact log_go rest _ (fun x hx => h x (List.mem_cons_of_mem _ hx))
   ·simp only [hq, if_false, decide_false, Bool.false_and]; exact evnow _
theorem log_f (l : List S44) (h : wfL l) : Ev (fun n => impl_LogOk.f n l) (logB l) := by
 unfold impl_LogOk.f logB
 by_cases h40 : (l.length : Int) > 40
 ·refine ev_pos h40 ?_
  have : decide (l.length ≤ 40) = false := decide_eq_false (by omega)
  rw [this, Bool.false_and]; exact evnow _
 ·refine ev_neg h40 ?_
  have : decide (l.length ≤ 40) = true := decide_eq_true (by omega)
  rw [this, Bool.true_and]; exact log_go l [] h
theorem rdE_get (l : List S44) (i : Nat) (h : i < l.length) : rd_T44 l i = l[i] := by
 unfold rd_T44
 rw [List.getD_eq_getElem?_getD, show ((i : Int)).toNat = i from rfl, List.getElem?_eq_getElem h]
 rfl
theorem seq_l0 (l : List S44) (who : Int) (hl : l.length ≤ 281474976710656) : ∀ (n : Nat) (i : Nat) (c : Int), i + n = l.length → 0 ≤ c → c ≤ i → Ev (fun k => spec_l12Seq.l0 k l who c i) (c + cntE (l.drop i) who)
 | 0, i, c, h, h0, h1 => by
  refine Ev.step (f := fun _ => some c) (fun k => ?_) ?_
  ·simp only [spec_l12Seq.l0]; rw [if_neg (by omega)]
  ·have : c + cntE (l.drop i) who = c := by rw [List.drop_eq_nil_of_le (by omega)]; unfold cntE; simp
   rw [this]; exact evnow _
 | n + 1, i, c, h, h0, h1 => by
  have hi : i < l.length := by omega
  have hd := List.drop_eq_getElem_cons hi
  have hc : cntE (l.drop i) who = cntE (l.drop (i + 1)) who + (if l[i].f0 = who then 1 else 0) := by
   rw [hd]
   unfold cntE
   rw [List.countP_cons]
   by_cases hq : l[i].f0 = who <;> simp [hq]
  rw [hc]
  by_cases hq : l[i].f0 = who
  ·rw [if_pos hq, show c + (cntE (l.drop (i + 1)) who + 1) = (c + 1) + cntE (l.drop (i + 1)) who by omega]
   refine Ev.step (fun k => ?_) (seq_l0 l who hl n (i + 1) (c + 1) (by omega) (by omega) (by omega))
   simp only [spec_l12Seq.l0]
   rw [if_pos (by omega), if_pos (by omega), rdE_get l i hi, if_pos hq, wrapS i (by omega) (by omega), wrapS c (by omega) (by omega)]
   rfl
  ·rw [if_neg hq, Int.add_zero]
   refine Ev.step (fun k => ?_) (seq_l0 l who hl n (i + 1) c (by omega) (by omega) (by omega))
   simp only [spec_l12Seq.l0]
   rw [if_pos (by omega), if_pos (by omega), rdE_get l i hi, if_neg hq, wrapS i (by omega) (by omega)]
   rfl
theorem seq_f (l : List S44) (who : Int) (hl : l.length ≤ 281474976710656) : Ev (fun k => spec_l12Seq.f k l who) (cntE l who) := by
 have := seq_l0 l who hl l.length 0 0 (by omega) (by omega) (by omega)
 rw [Int.zero_add] at this
 exact this
theorem slog_l0 (l : List S44) (h : wfL l) (hl : l.length ≤ 281474976710656) : ∀ (n : Nat) (i : Nat), i + n = l.length → Ev (fun k => spec_LogOk.l0 k l i) (goB (l.take i) (l.drop i) && decide (l.length ≤ 40))
 | 0, i, hn => by
  rw [List.drop_eq_nil_of_le (by omega)]
  refine Ev.step (f := fun _ => some (decide ((l.length : Int) ≤ 40))) (fun k => ?_) ?_
  ·simp only [spec_LogOk.l0]; rw [if_neg (by omega)]
  ·have : decide ((l.length : Int) ≤ 40) = (goB (l.take i) [] && decide (l.length ≤ 40)) := by unfold goB; simp; omega
   rw [this]; exact evnow _
 | n + 1, i, hn => by
  have hi : i < l.length := by omega
  rw [List.drop_eq_getElem_cons hi]
  unfold goB
  rw [← List.take_succ_eq_append_getElem hi]
  refine Ev.step (f := fun k => (spec_EntryOk.f k l[i].f0 l[i].f1 l[i].f2.f0 l[i].f2.f1 l[i].f2.f2 l[i].f2.f3 l[i].f2.f4).bind fun t127 => (if t127 = true then ((spec_l12Seq.f k (l.take i) l[i].f0).bind fun t134 => (if l[i].f1 = (wrap64 (t134 + 1)) then (spec_LogOk.l0 k l ((i + 1 : Nat) : Int)) else (some false))) else (some false))) (fun k => ?_) ?_
  ·simp only [spec_LogOk.l0]
   rw [if_pos (by omega), if_pos (by omega), rdE_get l i hi, if_pos (by omega), wrapS i (by omega) (by omega)]
   rfl
  ·refine Ev.bind (sent_f _ (h _ (List.getElem_mem hi))) ?_
   cases entB l[i] with
   | false => simp only [Bool.false_eq_true, if_false, Bool.false_and]; exact evnow _
   | true =>
    simp only [if_true, Bool.true_and]
    refine Ev.bind (seq_f (l.take i) l[i].f0 (by rw [List.length_take]; omega)) ?_
    have hcn := cntE_le (l.take i) l[i].f0
    have hw : wrap64 (cntE (l.take i) l[i].f0 + 1) = cntE (l.take i) l[i].f0 + 1 := wrapS _ hcn.1 (by have := hcn.2; rw [List.length_take] at this; omega)
    rw [hw]
    by_cases hq : cntE (l.take i) l[i].f0 + 1 = l[i].f1
    ·rw [decide_eq_true hq, Bool.true_and]
     refine ev_pos hq.symm ?_
     exact slog_l0 l h hl n (i + 1) (by omega)
    ·rw [decide_eq_false hq, Bool.false_and, Bool.false_and]
     refine ev_neg (fun e => hq e.symm) ?_
     exact evnow _
theorem slog_f (l : List S44) (h : wfL l) (hl : l.length ≤ 281474976710656) : Ev (fun k => spec_LogOk.f k l) (logB l) := by
 have := slog_l0 l h hl l.length 0 (by omega)
 unfold logB
 rw [Bool.and_comm]
 exact this
theorem logB_len {l : List S44} (h : logB l = true) : l.length ≤ 40 := by
 unfold logB at h
 simp only [Bool.and_eq_true, decide_eq_true_eq] at h
 exact h.1
theorem one_size (xs : List Int) : (strOfNums xs).size = xs.length := by simp [strOfNums, ByteArray.size]
theorem mtl_ex (m : Nat) : ∀ (x : Int) (s : ByteArray), x < 10 ^ m → x ≤ 9223372036854775807 → s.size + m + 1 ≤ 9223372036854775807 → ∃ r, Ev (fun k => laws_markText.l0 k x s) r := by
 induction m with
 | zero =>
  intro x s hx _ hs
  refine ⟨_, Ev.step (f := fun _ => some ((⟨#[109]⟩ : ByteArray) ++ s)) (fun k => ?_) (evnow _)⟩
  simp only [laws_markText.l0]
  rw [if_neg (by simp at hx; omega), if_pos (by omega)]
 | succ m ih =>
  intro x s hx hb hs
  by_cases h0 : x > 0
  ·have e : Int.tdiv x 10 = x / 10 := Int.tdiv_eq_ediv_of_nonneg (by omega)
   have e2 : wrap64 (Int.tdiv x 10) = x / 10 := by rw [e]; unfold wrap64; omega
   have e3 : (10 : Int) ^ (m + 1) = 10 ^ m * 10 := Int.pow_succ 10 m
   obtain ⟨r, hr⟩ := ih (wrap64 (Int.tdiv x 10)) ((strOfNums [(wrap64 (48 + (Int.tmod x 10))) % 256]) ++ s) (by rw [e2]; omega) (by rw [e2]; omega) (by rw [ByteArray.size_append, one_size]; simp; omega)
   refine ⟨r, Ev.step (fun k => ?_) hr⟩
   simp only [laws_markText.l0, Option.bind_some]
   rw [if_pos h0, if_pos (by rw [one_size]; simp; omega)]
  ·refine ⟨_, Ev.step (f := fun _ => some ((⟨#[109]⟩ : ByteArray) ++ s)) (fun k => ?_) (evnow _)⟩
   simp only [laws_markText.l0]
   rw [if_neg h0, if_pos (by omega)]
theorem mt_ex (x : Int) (h : x ≤ 4611686018427387904) : ∃ r, Ev (fun k => laws_markText.f k x) r := by
 by_cases h0 : x ≤ 0
 ·exact ⟨(⟨#[109, 48]⟩ : ByteArray), Ev.congr (f := fun _ => some (⟨#[109, 48]⟩ : ByteArray)) (fun k => by simp only [laws_markText.f]; rw [if_pos h0]) (evnow _)⟩
 ·obtain ⟨r, hr⟩ := mtl_ex 19 x ⟨#[]⟩ (by omega) (by omega) (by decide)
  exact ⟨r, Ev.congr (fun k => by simp only [laws_markText.f]; rw [if_neg h0]) hr⟩
open Classical in
noncomputable def mt (x : Int) : ByteArray := if h : x ≤ 4611686018427387904 then (mt_ex x h).choose else ⟨#[]⟩
theorem mt_ev (x : Int) (h : x ≤ 4611686018427387904) : Ev (fun k => laws_markText.f k x) (mt x) := by
 unfold mt
 rw [dif_pos h]
 exact (mt_ex x h).choose_spec

theorem take_set_next {α : Type} (x : List α) (i : Int) (v : α) (h0 : 0 ≤ i) (h : i < x.length) : (x.set i.toNat v).take (i + 1).toNat = x.take i.toNat ++ [v] := by
 have e : (i + 1).toNat = i.toNat + 1 := by omega
 have hl : i.toNat < (x.set i.toNat v).length := by rw [List.length_set]; omega
 rw [e, List.take_succ_eq_append_getElem hl, List.getElem_set_self]
 congr 1
 rw [List.take_set_of_le (Nat.le_refl _)]
theorem set_set_ {α : Type} (x : List α) (i : Nat) (v u : α) : (x.set i v).set i u = x.set i u := by rw [List.set_set]
noncomputable def mkE (a : Int) : S44 := ⟨a, a + 1, ⟨a + 2, a + 3, a + 4, a + 5, mt (a + 6)⟩⟩
noncomputable def marksE : Int → Nat → List S44
 | _, 0 => []
 | a, n + 1 => mkE a :: marksE (a + 7) n
theorem rdE_set (x : List S44) (i : Int) (v : S44) (h0 : 0 ≤ i) (h : i < x.length) : rd_T44 (x.set i.toNat v) i = v := by
 unfold rd_T44
 rw [List.getD_eq_getElem?_getD, List.getElem?_set_self (by omega)]
 rfl
theorem markE_ev (d : Nat) : ∀ (x : List S44) (a i : Int), 0 ≤ i → (x.length : Int) - i = d → x.length ≤ 1099511627776 → 0 ≤ a → a + 7 * d ≤ 1152921504606846976 →
  Ev (fun k => laws_markEntryS.l0 k x a i) (a + 7 * d, x.take i.toNat ++ marksE a d) := by
 induction d with
 | zero =>
  intro x a i h0 hd hl ha hb
  refine Ev.step (f := fun _ => some (a, x)) (fun k => ?_) ?_
  ·simp only [laws_markEntryS.l0]; rw [if_neg (by omega)]
  ·rw [List.take_of_length_le (by omega)]; simp only [marksE, List.append_nil]
   rw [show a + 7 * ((0 : Nat) : Int) = a by omega]; exact evnow _
 | succ d ih =>
  intro x a i h0 hd hl ha hb
  have hi : i < (x.length : Int) := by omega
  have e1 : wrap64 (a + 1) = a + 1 := wrapS a ha (by omega)
  have e2 : wrap64 (a + 1 + 1) = a + 2 := by rw [wrapS _ (by omega) (by omega)]; omega
  have e3 : wrap64 (a + 2 + 1) = a + 3 := by rw [wrapS _ (by omega) (by omega)]; omega
  have e4 : wrap64 (a + 3 + 1) = a + 4 := by rw [wrapS _ (by omega) (by omega)]; omega
  have e5 : wrap64 (a + 4 + 1) = a + 5 := by rw [wrapS _ (by omega) (by omega)]; omega
  have e6 : wrap64 (a + 5 + 1) = a + 6 := by rw [wrapS _ (by omega) (by omega)]; omega
  have e7 : wrap64 (a + 6 + 1) = a + 7 := by rw [wrapS _ (by omega) (by omega)]; omega
  have ei : wrap64 (i + 1) = i + 1 := wrapS i h0 (by omega)
  have H := ih (x.set i.toNat (mkE a)) (a + 7) (i + 1) (by omega) (by rw [List.length_set]; omega) (by rw [List.length_set]; omega) (by omega) (by omega)
  rw [take_set_next x i _ h0 hi, show a + 7 + 7 * (d : Int) = a + 7 * ((d + 1 : Nat) : Int) by omega, List.append_assoc] at H
  refine Ev.step (f := fun k => (laws_markText.f k (a + 6)).bind fun t => laws_markEntryS.l0 k (x.set i.toNat ⟨a, a + 1, ⟨a + 2, a + 3, a + 4, a + 5, t⟩⟩) (a + 7) (i + 1)) (fun k => ?_) (Ev.bind (mt_ev _ (by omega)) H)
  simp only [laws_markEntryS.l0, if_pos hi, if_pos h0, Option.bind_some, set_set_, rdE_set _ _ _ h0 hi, e1, e2, e3, e4, e5, e6, e7, ei]
theorem markE_f (x : List S44) (a : Int) (hl : x.length ≤ 1099511627776) (ha : 0 ≤ a) (hb : a ≤ 1125899906842624) :
  Ev (fun k => laws_markEntryS.f k x a) (a + 7 * x.length, marksE a x.length) := by
 have h := markE_ev x.length x a 0 (by omega) (by omega) hl ha (by omega)
 simp only [Int.toNat_zero, List.take_zero, List.nil_append] at h
 exact h
theorem eqOp_refl (a b c d : Int) (e : ByteArray) : laws_eqOp.f a b c d e a b c d e = some true := by simp [laws_eqOp.f]
theorem eqEntry_refl (x y a b c d : Int) (e : ByteArray) : laws_eqEntry.f x y a b c d e x y a b c d e = some true := by simp [laws_eqEntry.f, eqOp_refl]
theorem eqE_ev (d : Nat) : ∀ (x : List S44) (i : Int), 0 ≤ i → (x.length : Int) - i = d → x.length ≤ 1099511627776 → Ev (fun k => laws_eqEntryS.l0 k x x i) true := by
 induction d with
 | zero =>
  intro x i h0 hd hl
  refine Ev.step (f := fun _ => some true) (fun k => ?_) (evnow _)
  simp only [laws_eqEntryS.l0]; rw [if_neg (by omega)]
 | succ d ih =>
  intro x i h0 hd hl
  have hi : i < (x.length : Int) := by omega
  refine Ev.step (fun k => ?_) (ih x (i + 1) (by omega) (by omega) hl)
  simp only [laws_eqEntryS.l0, if_pos hi, if_pos h0, eqEntry_refl, Option.bind_some, if_true, wrapS i h0 (by omega)]
theorem eqE (x : List S44) (hl : x.length ≤ 1099511627776) : Ev (fun k => laws_eqEntryS.f k x x) true :=
 Ev.congr (fun k => by simp only [laws_eqEntryS.f, if_true]) (eqE_ev x.length x 0 (by omega) (by omega) hl)
def conv (e : S36) : S44 := ⟨e.f0, e.f1, ⟨e.f2.f0, e.f2.f1, e.f2.f2, e.f2.f3, e.f2.f4⟩⟩
def wfX (e : S36) : Prop := I64 e.f0 ∧ I64 e.f1 ∧ I64 e.f2.f0 ∧ I64 e.f2.f1 ∧ I64 e.f2.f2 ∧ I64 e.f2.f3 ∧ e.f2.f4.size ≤ 9223372036854775807
theorem rdX_get (l : List S36) (i : Nat) (h : i < l.length) : rd_T36 l i = l[i] := by
 unfold rd_T36
 rw [List.getD_eq_getElem?_getD, show ((i : Int)).toNat = i from rfl, List.getElem?_eq_getElem h]
 rfl
theorem wf_conv {l : List S36} (h : ∀ e ∈ l, wfX e) : wfL (l.map conv) := by
 intro e he
 obtain ⟨x, hx, rfl⟩ := List.mem_map.1 he
 exact h x hx
theorem sz_l0 (l : List S36) (hw : ∀ e ∈ l, wfX e) (hl : l.length ≤ 1099511627776) : ∀ (n : Nat) (i : Nat) (b : Int), i + n = l.length → 0 ≤ b → b ≤ 1048576 → ∃ r : Int, Ev (fun k => laws_szEntryS.l0 k l b i) r
 | 0, i, b, h, h0, h1 => ⟨b, Ev.step (f := fun _ => some b) (fun k => by simp only [laws_szEntryS.l0]; rw [if_neg (by omega)]) (evnow _)⟩
 | n + 1, i, b, h, h0, h1 => by
  have hi : i < l.length := by omega
  obtain ⟨_, _, _, _, _, _, hs⟩ := hw _ (List.getElem_mem hi)
  have hww : wrap64 (b - (l[i].f2.f4.size : Int)) = b - l[i].f2.f4.size := by unfold wrap64; omega
  by_cases hb : b - (l[i].f2.f4.size : Int) < 0
  ·refine ⟨-1, Ev.step (f := fun _ => some (-1)) (fun k => ?_) (evnow _)⟩
   simp only [laws_szEntryS.l0]
   rw [if_pos (by omega), if_pos (by omega), rdX_get l i hi]
   simp only [laws_szEntry.f, laws_szOp.f, hww]
   rw [if_pos hb]
   rfl
  ·obtain ⟨r, hr⟩ := sz_l0 l hw hl n (i + 1) (b - l[i].f2.f4.size) (by omega) (by omega) (by omega)
   refine ⟨r, Ev.step (fun k => ?_) hr⟩
   simp only [laws_szEntryS.l0]
   rw [if_pos (by omega), if_pos (by omega), rdX_get l i hi]
   simp only [laws_szEntry.f, laws_szOp.f, hww]
   rw [if_neg hb]
   simp only [Option.bind_some]
   rw [if_neg hb]
   simp only [Option.bind_some]
   rw [if_neg hb, wrapS i (by omega) (by omega)]
   rfl
theorem szE_g (l : List S36) (b : Int) (hw : ∀ e ∈ l, wfX e) (hl : l.length ≤ 9223372036854775807) (h0 : 0 ≤ b) (h1 : b ≤ 1048576) : ∃ r : Int, Ev (fun k => laws_szEntryS.f k l b) r ∧ (¬ r < 0 → l.length ≤ 1048576) := by
 unfold laws_szEntryS.f
 have hww : wrap64 (b - (l.length : Int)) = b - l.length := by unfold wrap64; omega
 rw [hww]
 by_cases hb : b - (l.length : Int) < 0
 ·exact ⟨-1, ev_pos hb (evnow _), fun h => absurd (by decide) h⟩
 ·obtain ⟨r, hr⟩ := sz_l0 l hw (by omega) l.length 0 (b - l.length) (by omega) (by omega) (by omega)
  exact ⟨r, ev_neg hb hr, fun _ => by omega⟩
theorem szE_f (l : List S36) (hw : ∀ e ∈ l, wfX e) (hl : l.length ≤ 9223372036854775807) : ∃ r : Int, Ev (fun k => laws_szEntryS.f k l 1048576) r ∧ (¬ r < 0 → l.length ≤ 1048576) := szE_g l _ hw hl (by omega) (by omega)
theorem to_l0 (l : List S36) (hl : l.length ≤ 1099511627776) : ∀ (n : Nat) (i : Nat) (x : List S44), i + n = l.length → x.length = l.length → x.take i = (l.take i).map conv → Ev (fun k => laws_toEntryS.l0 k l x i) (l.map conv)
 | 0, i, x, h, hx, ht => by
  refine Ev.step (f := fun _ => some x) (fun k => ?_) ?_
  ·simp only [laws_toEntryS.l0]; rw [if_neg (by omega)]
  ·rw [List.take_of_length_le (by omega), List.take_of_length_le (by omega)] at ht
   rw [ht]; exact evnow _
 | n + 1, i, x, h, hx, ht => by
  have hi : i < l.length := by omega
  refine Ev.step (fun k => ?_) (to_l0 l hl n (i + 1) (x.set i (conv l[i])) (by omega) (by rw [List.length_set]; exact hx) ?_)
  ·simp only [laws_toEntryS.l0]
   rw [if_pos (by omega), if_pos (by omega), rdX_get l i hi]
   simp only [laws_toEntry.f, laws_toOp.f, Option.bind_some]
   rw [if_pos (by omega), wrapS i (by omega) (by omega)]
   rfl
  ·have := take_set_next x (i : Int) (conv l[i]) (by omega) (by omega)
   simp only [Int.toNat_natCast] at this
   rw [show ((i : Int) + 1).toNat = i + 1 by omega] at this
   rw [this, ht, List.take_succ_eq_append_getElem hi, List.map_append]
   rfl
theorem toE_f (l : List S36) (hl : l.length ≤ 1048576) : Ev (fun k => laws_toEntryS.f k l) (l.map conv) := by
 unfold laws_toEntryS.f
 refine ev_pos (by omega) (ev_pos (by omega) ?_)
 exact to_l0 l (by omega) l.length 0 _ (by omega) (by simp) (by simp)
end Go.Proofs.YtdpklbomhdpimaaDoor.PL
namespace Go.Proofs.YtdpklbomhdpimaaDoor.FP
open Go.Proofs.YtdpklbomhdpimaaDoor.P
def dep (x : Nat) (d : Nat) : Fo → Nat
 | .nil => d
 | .nd j _ k n => if j = x then d else if x ∈ k.ids then dep x (d + 1) k else dep x d n
theorem setF_id (x : Nat) (t : ByteArray) : ∀ {F : Fo}, x ∉ F.ids → setF x t F = F
 | .nil, _ => rfl
 | .nd j u k n, h => by
  simp only [Fo.ids, List.mem_cons, List.mem_append, not_or] at h
  rw [setF, if_neg (fun e => h.1 e.symm), setF_id x t h.2.1, setF_id x t h.2.2]
theorem fl_ids : ∀ (F : Fo) (d : Nat) {r : S69}, r ∈ F.fl d → ∃ i ∈ F.ids, r.f0 = (i : Int)
 | .nil, d, r, h => by simp [Fo.fl] at h
 | .nd j t k n, d, r, h => by
  simp only [Fo.fl, List.mem_cons, List.mem_append] at h
  rcases h with rfl | h | h
  ·exact ⟨j, by simp [Fo.ids], rfl⟩
  ·obtain ⟨i, hi, e⟩ := fl_ids k (d + 1) h; exact ⟨i, by simp [Fo.ids, hi], e⟩
  ·obtain ⟨i, hi, e⟩ := fl_ids n d h; exact ⟨i, by simp [Fo.ids, hi], e⟩
theorem fl_map : ∀ (F : Fo) (d : Nat), (F.fl d).map (·.f0) = F.ids.map Int.ofNat
 | .nil, d => rfl
 | .nd j t k n, d => by simp [Fo.fl, Fo.ids, fl_map k, fl_map n]
theorem fl_len (F : Fo) (d : Nat) : (F.fl d).length = F.ids.length := by
 have := congrArg List.length (fl_map F d)
 simpa using this
structure Spot (x d : Nat) (G : Fo) (pre post : List S69) : Prop where
 all : G.fl d = pre ++ (⟨(x : Int), (dep x d G : Int), txtF x G⟩ :: ((sub x G).fl (dep x d G + 1) ++ post))
 out : ∀ r ∈ pre, r.f0 ≠ (x : Int)
 high : post = [] ∨ ∃ r rest, post = r :: rest ∧ r.f1 ≤ (dep x d G : Int)
 ge : d ≤ dep x d G
 del : (del x G).fl d = pre ++ post
 first : ∀ i t s, (insFirst x i t s G).fl d = pre ++ (⟨(x : Int), (dep x d G : Int), txtF x G⟩ :: (⟨(i : Int), ((dep x d G + 1 : Nat) : Int), t⟩ :: (s.fl (dep x d G + 2) ++ ((sub x G).fl (dep x d G + 1) ++ post))))
 after : ∀ i t s, (insAfter x i t s G).fl d = pre ++ (⟨(x : Int), (dep x d G : Int), txtF x G⟩ :: ((sub x G).fl (dep x d G + 1) ++ (⟨(i : Int), (dep x d G : Int), t⟩ :: (s.fl (dep x d G + 1) ++ post))))
 text : ∀ t', (setF x t' G).fl d = pre ++ (⟨(x : Int), (dep x d G : Int), t'⟩ :: ((sub x G).fl (dep x d G + 1) ++ post))
theorem spot (x : Nat) : ∀ (G : Fo) (d : Nat), G.ids.Nodup → x ∈ G.ids → ∃ pre post, Spot x d G pre post
 | .nil, d, _, hx => by simp [Fo.ids] at hx
 | .nd j u k n, d, hn, hx => by
  obtain ⟨n1, n2, n3, n4, n5⟩ := nodup_nd hn
  simp only [Fo.ids, List.mem_cons, List.mem_append] at hx
  by_cases e : j = x
  ·subst e
   refine ⟨[], n.fl d, ?_, by simp, ?_, ?_, ?_, fun i t s => ?_, fun i t s => ?_, fun t' => ?_⟩
   ·simp [Fo.fl, dep, txtF, sub]
   ·rcases fl_head n d with h | ⟨r, rest, h, h2⟩
    ·exact Or.inl h
    ·refine Or.inr ⟨r, rest, h, ?_⟩; simp [dep, h2]
   ·simp [dep]
   ·simp [FP.del]
   ·simp [insFirst, Fo.fl, dep, txtF, sub]
   ·simp [insAfter, Fo.fl, dep, txtF, sub]
   ·simp [setF, Fo.fl, dep, sub, setF_id j t' n1, setF_id j t' n2]
  ·have e' : x ≠ j := fun g => e g.symm
   by_cases hk : x ∈ k.ids
   ·have hxn : x ∉ n.ids := n5 x hk
    obtain ⟨pre, post, s⟩ := spot x k (d + 1) n3 hk
    have hd : dep x d (.nd j u k n) = dep x (d + 1) k := by rw [dep, if_neg e, if_pos hk]
    have ht : txtF x (.nd j u k n) = txtF x k := by rw [txtF, if_neg e, if_pos hk]
    have hs : sub x (.nd j u k n) = sub x k := by rw [sub, if_neg e, if_pos hk]
    refine ⟨⟨(j : Int), (d : Int), u⟩ :: pre, post ++ n.fl d, ?_, ?_, ?_, ?_, ?_, fun i t s' => ?_, fun i t s' => ?_, fun t' => ?_⟩
    ·rw [hd, ht, hs, Fo.fl, s.all]; simp
    ·intro r hr
     rcases List.mem_cons.1 hr with rfl | hr
     ·show (j : Int) ≠ (x : Int); omega
     ·exact s.out r hr
    ·rw [hd]
     have hge := s.ge
     rcases s.high with h | ⟨r, rest, h, h2⟩
     ·rw [h, List.nil_append]
      rcases fl_head n d with h | ⟨r, rest, h, h2⟩
      ·exact Or.inl h
      ·exact Or.inr ⟨r, rest, h, by omega⟩
     ·exact Or.inr ⟨r, rest ++ n.fl d, by rw [h]; rfl, h2⟩
    ·rw [hd]; have := s.ge; omega
    ·rw [FP.del, if_neg e, Fo.fl, s.del, del_id x hxn]; simp
    ·rw [hd, ht, hs, insFirst, if_neg e, Fo.fl, s.first, insFirst_id x i t s' hxn]; simp
    ·rw [hd, ht, hs, insAfter, if_neg e, Fo.fl, s.after, insAfter_id x i t s' hxn]; simp
    ·rw [hd, hs, setF, if_neg e, Fo.fl, s.text, setF_id x t' hxn]; simp
   ·have hxn : x ∈ n.ids := by rcases hx with g | g | g; exact absurd g e'; exact absurd g hk; exact g
    obtain ⟨pre, post, s⟩ := spot x n d n4 hxn
    have hd : dep x d (.nd j u k n) = dep x d n := by rw [dep, if_neg e, if_neg hk]
    have ht : txtF x (.nd j u k n) = txtF x n := by rw [txtF, if_neg e, if_neg hk]
    have hs : sub x (.nd j u k n) = sub x n := by rw [sub, if_neg e, if_neg hk]
    refine ⟨⟨(j : Int), (d : Int), u⟩ :: (k.fl (d + 1) ++ pre), post, ?_, ?_, ?_, ?_, ?_, fun i t s' => ?_, fun i t s' => ?_, fun t' => ?_⟩
    ·rw [hd, ht, hs, Fo.fl, s.all]; simp
    ·intro r hr
     rcases List.mem_cons.1 hr with rfl | hr
     ·show (j : Int) ≠ (x : Int); omega
     ·rcases List.mem_append.1 hr with hr | hr
      ·obtain ⟨i, hi, e2⟩ := fl_ids k (d + 1) hr
       rw [e2]
       intro e3
       exact hk ((show i = x by omega) ▸ hi)
      ·exact s.out r hr
    ·rw [hd]; exact s.high
    ·rw [hd]; exact s.ge
    ·rw [FP.del, if_neg e, Fo.fl, s.del, del_id x hk]; simp
    ·rw [hd, ht, hs, insFirst, if_neg e, Fo.fl, s.first, insFirst_id x i t s' hk]; simp
    ·rw [hd, ht, hs, insAfter, if_neg e, Fo.fl, s.after, insAfter_id x i t s' hk]; simp
    ·rw [hd, hs, setF, if_neg e, Fo.fl, s.text, setF_id x t' hk]; simp
theorem dep_par (x : Nat) : ∀ (G : Fo) (d up : Nat), G.ids.Nodup → x ∈ G.ids → (x ∈ G.tops ∧ dep x d G = d ∧ par x up G = up) ∨ (par x up G ∈ G.ids ∧ dep x d G = dep (par x up G) d G + 1)
 | .nil, d, up, _, hx => by simp [Fo.ids] at hx
 | .nd j u k n, d, up, hn, hx => by
  obtain ⟨n1, n2, n3, n4, n5⟩ := nodup_nd hn
  simp only [Fo.ids, List.mem_cons, List.mem_append] at hx
  by_cases e : j = x
  ·left
   exact ⟨by simp [Fo.tops, e], by rw [dep, if_pos e], by rw [par, if_pos e]⟩
  ·by_cases hk : x ∈ k.ids
   ·right
    have hp : par x up (.nd j u k n) = par x j k := by rw [par, if_neg e, if_pos hk]
    have hd : dep x d (.nd j u k n) = dep x (d + 1) k := by rw [dep, if_neg e, if_pos hk]
    rw [hp, hd]
    rcases dep_par x k (d + 1) j n3 hk with ⟨_, h2, h3⟩ | ⟨h2, h3⟩
    ·rw [h3, h2]
     refine ⟨by simp [Fo.ids], ?_⟩
     rw [dep, if_pos rfl]
    ·refine ⟨by simp [Fo.ids, h2], ?_⟩
     rw [h3, dep, if_neg (fun (g : j = par x j k) => n1 (by rw [g]; exact h2)), if_pos h2]
   ·have hxn : x ∈ n.ids := by rcases hx with g | g | g; exact absurd g.symm e; exact absurd g hk; exact g
    have hp : par x up (.nd j u k n) = par x up n := by rw [par, if_neg e, if_neg hk]
    have hd : dep x d (.nd j u k n) = dep x d n := by rw [dep, if_neg e, if_neg hk]
    rw [hp, hd]
    rcases dep_par x n d up n4 hxn with ⟨h1, h2, h3⟩ | ⟨h2, h3⟩
    ·exact Or.inl ⟨by simp [Fo.tops, h1], h2, h3⟩
    ·refine Or.inr ⟨by simp [Fo.ids, h2], ?_⟩
     rw [h3, dep, if_neg (fun (g : j = par x up n) => n2 (by rw [g]; exact h2)), if_neg (fun g => n5 _ g h2)]
theorem del_ids_sub (i : Nat) : ∀ {F : Fo} {y : Nat}, y ∈ (del i F).ids → y ∈ F.ids
 | .nil, y, h => h
 | .nd j t k n, y, h => by
  rw [FP.del] at h
  split at h
  ·simp [Fo.ids, h]
  ·simp only [Fo.ids, List.mem_cons, List.mem_append] at h ⊢
   exact h.imp id (Or.imp (del_ids_sub i) (del_ids_sub i))
theorem par_del (i a : Nat) : ∀ (G : Fo) (up : Nat), G.ids.Nodup → a ∈ (del i G).ids → par a up (del i G) = par a up G
 | .nil, up, _, h => rfl
 | .nd j u k n, up, hn, h => by
  obtain ⟨n1, n2, n3, n4, n5⟩ := nodup_nd hn
  rw [FP.del] at h ⊢
  by_cases e : j = i
  ·rw [if_pos e] at h ⊢
   rw [par, if_neg (fun (g : j = a) => n2 (by rw [g]; exact h)), if_neg (fun g => n5 a g h)]
  ·rw [if_neg e] at h ⊢
   simp only [Fo.ids, List.mem_cons, List.mem_append] at h
   rw [par, par]
   by_cases e2 : j = a
   ·rw [if_pos e2, if_pos e2]
   ·rw [if_neg e2, if_neg e2]
    by_cases hk : a ∈ (FP.del i k).ids
    ·rw [if_pos hk, if_pos (del_ids_sub i hk)]; exact par_del i a k j n3 hk
    ·have hn' : a ∈ (FP.del i n).ids := by rcases h with g | g | g; exact absurd g.symm e2; exact absurd g hk; exact g
     rw [if_neg hk, if_neg (fun g => n5 a g (del_ids_sub i hn'))]; exact par_del i a n up n4 hn'
theorem rep_ex : ∀ (G : Fo) (up : Nat), G.ids.Nodup → (∀ x ∈ G.ids, x ≠ 0) → ∃ h, Rep h up G
 | .nil, up, _, _ => ⟨fun _ => ⟨ByteArray.empty, 0, 0, 0⟩, trivial⟩
 | .nd j u k n, up, hn, h0 => by
  obtain ⟨n1, n2, n3, n4, n5⟩ := nodup_nd hn
  obtain ⟨hk, rk⟩ := rep_ex k j n3 fun x hx => h0 x (by simp [Fo.ids, hx])
  obtain ⟨hm, rm⟩ := rep_ex n up n4 fun x hx => h0 x (by simp [Fo.ids, hx])
  refine ⟨fun x => if x = j then ⟨u, up, k.hd, n.hd⟩ else if x ∈ k.ids then hk x else hm x, h0 j (by simp [Fo.ids]), if_pos rfl, rk.ext fun x hx => ?_, rm.ext fun x hx => ?_⟩
  ·rw [if_neg (fun (e : x = j) => n1 (e ▸ hx)), if_pos hx]
  ·rw [if_neg (fun (e : x = j) => n2 (e ▸ hx)), if_neg (fun g => n5 x g hx)]
theorem reptop_ex : ∀ (G : Fo), G.ids.Nodup → (∀ x ∈ G.ids, x ≠ 0) → ∃ h, RepTop h G
 | .nil, _, _ => ⟨fun _ => ⟨ByteArray.empty, 0, 0, 0⟩, trivial⟩
 | .nd j u k n, hn, h0 => by
  obtain ⟨n1, n2, n3, n4, n5⟩ := nodup_nd hn
  obtain ⟨hk, rk⟩ := rep_ex k j n3 fun x hx => h0 x (by simp [Fo.ids, hx])
  obtain ⟨hm, rm⟩ := reptop_ex n n4 fun x hx => h0 x (by simp [Fo.ids, hx])
  refine ⟨fun x => if x = j then ⟨u, 0, k.hd, 0⟩ else if x ∈ k.ids then hk x else hm x, h0 j (by simp [Fo.ids]), if_pos rfl, rk.ext fun x hx => ?_, rm.ext fun x hx => ?_⟩
  ·rw [if_neg (fun (e : x = j) => n1 (e ▸ hx)), if_pos hx]
  ·rw [if_neg (fun (e : x = j) => n2 (e ▸ hx)), if_neg (fun g => n5 x g hx)]
theorem kids_par {G : Fo} (hn : G.ids.Nodup) (h0 : ∀ x ∈ G.ids, x ≠ 0) {u x : Nat} (hu : u ∈ G.ids) : x ∈ (sub u G).tops ↔ x ∈ G.ids ∧ par x 0 G = u := by
 obtain ⟨h, hr⟩ := reptop_ex G hn h0
 obtain ⟨r1, _⟩ := reptop_sub hr hn hu
 constructor
 ·intro hx
  have hxs := tops_ids hx
  have hxG := sub_ids u hxs
  refine ⟨hxG, ?_⟩
  rw [← reptop_par hr hn hxG]
  rcases rep_at r1 (sub_nodup u hn) hxs with ⟨_, g⟩ | ⟨g, _⟩
  ·exact g
  ·exact absurd hx g
 ·rintro ⟨hxG, hp⟩
  have ht := par_top h hr hn hxG (by rw [hp]; exact h0 u hu)
  have := (sibT_pv hr hn hxG ht).2
  rwa [reptop_par hr hn hxG, hp] at this
theorem mem_insFirst (p i : Nat) (t : ByteArray) (s : Fo) (y : Nat) : ∀ (F : Fo), y ∈ (insFirst p i t s F).ids ↔ y ∈ F.ids ∨ (p ∈ F.ids ∧ (y = i ∨ y ∈ s.ids))
 | .nil => by simp [insFirst, Fo.ids]
 | .nd j u k n => by
  rw [insFirst]
  have h1 := mem_insFirst p i t s y k
  have h2 := mem_insFirst p i t s y n
  by_cases e : j = p
  ·rw [if_pos e]
   simp only [Fo.ids, List.mem_cons, List.mem_append, e]
   grind
  ·rw [if_neg e]
   simp only [Fo.ids, List.mem_cons, List.mem_append, h1, h2]
   grind
theorem mem_insAfter (a i : Nat) (t : ByteArray) (s : Fo) (y : Nat) : ∀ (F : Fo), y ∈ (insAfter a i t s F).ids ↔ y ∈ F.ids ∨ (a ∈ F.ids ∧ (y = i ∨ y ∈ s.ids))
 | .nil => by simp [insAfter, Fo.ids]
 | .nd j u k n => by
  rw [insAfter]
  have h1 := mem_insAfter a i t s y k
  have h2 := mem_insAfter a i t s y n
  by_cases e : j = a
  ·rw [if_pos e]
   simp only [Fo.ids, List.mem_cons, List.mem_append, e]
   grind
  ·rw [if_neg e]
   simp only [Fo.ids, List.mem_cons, List.mem_append, h1, h2]
   grind
theorem del_insFirst (p i : Nat) (t : ByteArray) (s : Fo) : ∀ {F : Fo}, i ∉ F.ids → del i (insFirst p i t s F) = F
 | .nil, _ => rfl
 | .nd j u k n, h => by
  simp only [Fo.ids, List.mem_cons, List.mem_append, not_or] at h
  have hj : ¬ j = i := fun e => h.1 e.symm
  rw [insFirst]
  by_cases e : j = p
  ·rw [if_pos e, del, if_neg hj, del, if_pos rfl, del_id i h.2.2]
  ·rw [if_neg e, del, if_neg hj, del_insFirst p i t s h.2.1, del_insFirst p i t s h.2.2]
theorem del_insAfter (a i : Nat) (t : ByteArray) (s : Fo) : ∀ {F : Fo}, i ∉ F.ids → del i (insAfter a i t s F) = F
 | .nil, _ => rfl
 | .nd j u k n, h => by
  simp only [Fo.ids, List.mem_cons, List.mem_append, not_or] at h
  have hj : ¬ j = i := fun e => h.1 e.symm
  rw [insAfter]
  by_cases e : j = a
  ·rw [if_pos e, del, if_neg hj, del, if_pos rfl, del_id i h.2.1]
  ·rw [if_neg e, del, if_neg hj, del_insAfter a i t s h.2.1, del_insAfter a i t s h.2.2]
theorem sub_insFirst_new (p i : Nat) (t : ByteArray) (s : Fo) : ∀ {F : Fo}, i ∉ F.ids → p ∈ F.ids → sub i (insFirst p i t s F) = s
 | .nil, _, h => by simp [Fo.ids] at h
 | .nd j u k n, h, hp => by
  simp only [Fo.ids, List.mem_cons, List.mem_append, not_or] at h hp
  have hj : ¬ j = i := fun e => h.1 e.symm
  rw [insFirst]
  by_cases e : j = p
  ·rw [if_pos e, sub, if_neg hj, if_pos (by simp [Fo.ids]), sub, if_pos rfl]
  ·rw [if_neg e, sub, if_neg hj]
   by_cases hk : p ∈ k.ids
   ·rw [if_pos ((mem_insFirst p i t s i k).2 (Or.inr ⟨hk, Or.inl rfl⟩)), sub_insFirst_new p i t s h.2.1 hk]
   ·rw [if_neg (by rw [mem_insFirst]; grind), sub_insFirst_new p i t s h.2.2 (by grind)]
theorem sub_insAfter_new (a i : Nat) (t : ByteArray) (s : Fo) : ∀ {F : Fo}, i ∉ F.ids → a ∈ F.ids → sub i (insAfter a i t s F) = s
 | .nil, _, h => by simp [Fo.ids] at h
 | .nd j u k n, h, hp => by
  simp only [Fo.ids, List.mem_cons, List.mem_append, not_or] at h hp
  have hj : ¬ j = i := fun e => h.1 e.symm
  rw [insAfter]
  by_cases e : j = a
  ·rw [if_pos e, sub, if_neg hj, if_neg h.2.1, sub, if_pos rfl]
  ·rw [if_neg e, sub, if_neg hj]
   by_cases hk : a ∈ k.ids
   ·rw [if_pos ((mem_insAfter a i t s i k).2 (Or.inr ⟨hk, Or.inl rfl⟩)), sub_insAfter_new a i t s h.2.1 hk]
   ·rw [if_neg (by rw [mem_insAfter]; grind), sub_insAfter_new a i t s h.2.2 (by grind)]
theorem txt_insFirst_new (p i : Nat) (t : ByteArray) (s : Fo) : ∀ {F : Fo}, i ∉ F.ids → p ∈ F.ids → txtF i (insFirst p i t s F) = t
 | .nil, _, h => by simp [Fo.ids] at h
 | .nd j u k n, h, hp => by
  simp only [Fo.ids, List.mem_cons, List.mem_append, not_or] at h hp
  have hj : ¬ j = i := fun e => h.1 e.symm
  rw [insFirst]
  by_cases e : j = p
  ·rw [if_pos e, txtF, if_neg hj, if_pos (by simp [Fo.ids]), txtF, if_pos rfl]
  ·rw [if_neg e, txtF, if_neg hj]
   by_cases hk : p ∈ k.ids
   ·rw [if_pos ((mem_insFirst p i t s i k).2 (Or.inr ⟨hk, Or.inl rfl⟩)), txt_insFirst_new p i t s h.2.1 hk]
   ·rw [if_neg (by rw [mem_insFirst]; grind), txt_insFirst_new p i t s h.2.2 (by grind)]
theorem txt_insAfter_new (a i : Nat) (t : ByteArray) (s : Fo) : ∀ {F : Fo}, i ∉ F.ids → a ∈ F.ids → txtF i (insAfter a i t s F) = t
 | .nil, _, h => by simp [Fo.ids] at h
 | .nd j u k n, h, hp => by
  simp only [Fo.ids, List.mem_cons, List.mem_append, not_or] at h hp
  have hj : ¬ j = i := fun e => h.1 e.symm
  rw [insAfter]
  by_cases e : j = a
  ·rw [if_pos e, txtF, if_neg hj, if_neg h.2.1, txtF, if_pos rfl]
  ·rw [if_neg e, txtF, if_neg hj]
   by_cases hk : a ∈ k.ids
   ·rw [if_pos ((mem_insAfter a i t s i k).2 (Or.inr ⟨hk, Or.inl rfl⟩)), txt_insAfter_new a i t s h.2.1 hk]
   ·rw [if_neg (by rw [mem_insAfter]; grind), txt_insAfter_new a i t s h.2.2 (by grind)]
theorem par_insFirst_new (p i : Nat) (t : ByteArray) (s : Fo) : ∀ {F : Fo} (up : Nat), i ∉ F.ids → p ∈ F.ids → par i up (insFirst p i t s F) = p
 | .nil, _, _, h => by simp [Fo.ids] at h
 | .nd j u k n, up, h, hp => by
  simp only [Fo.ids, List.mem_cons, List.mem_append, not_or] at h hp
  have hj : ¬ j = i := fun e => h.1 e.symm
  rw [insFirst]
  by_cases e : j = p
  ·rw [if_pos e, par, if_neg hj, if_pos (by simp [Fo.ids]), par, if_pos rfl, e]
  ·rw [if_neg e, par, if_neg hj]
   by_cases hk : p ∈ k.ids
   ·rw [if_pos ((mem_insFirst p i t s i k).2 (Or.inr ⟨hk, Or.inl rfl⟩)), par_insFirst_new p i t s j h.2.1 hk]
   ·rw [if_neg (by rw [mem_insFirst]; grind), par_insFirst_new p i t s up h.2.2 (by grind)]
theorem par_insAfter_new (a i : Nat) (t : ByteArray) (s : Fo) : ∀ {F : Fo} (up : Nat), i ∉ F.ids → a ∈ F.ids → par i up (insAfter a i t s F) = par a up F
 | .nil, _, _, h => by simp [Fo.ids] at h
 | .nd j u k n, up, h, hp => by
  simp only [Fo.ids, List.mem_cons, List.mem_append, not_or] at h hp
  have hj : ¬ j = i := fun e => h.1 e.symm
  rw [insAfter]
  by_cases e : j = a
  ·rw [if_pos e, par, if_neg hj, if_neg h.2.1, par, if_pos rfl, par, if_pos e]
  ·rw [if_neg e, par, if_neg hj, par, if_neg e]
   by_cases hk : a ∈ k.ids
   ·rw [if_pos ((mem_insAfter a i t s i k).2 (Or.inr ⟨hk, Or.inl rfl⟩)), if_pos hk, par_insAfter_new a i t s j h.2.1 hk]
   ·rw [if_neg (by rw [mem_insAfter]; grind), if_neg hk, par_insAfter_new a i t s up h.2.2 (by grind)]
theorem par_insFirst_in (p i : Nat) (t : ByteArray) (s : Fo) {x : Nat} (hx : x ∈ s.ids) (hxi : x ≠ i) : ∀ {F : Fo} (up : Nat), x ∉ F.ids → p ∈ F.ids → par x up (insFirst p i t s F) = par x i s
 | .nil, _, _, h => by simp [Fo.ids] at h
 | .nd j u k n, up, h, hp => by
  simp only [Fo.ids, List.mem_cons, List.mem_append, not_or] at h hp
  have hj : ¬ j = x := fun e => h.1 e.symm
  rw [insFirst]
  by_cases e : j = p
  ·rw [if_pos e, par, if_neg hj, if_pos (by simp [Fo.ids, hx]), par, if_neg (fun e => hxi e.symm), if_pos hx]
  ·rw [if_neg e, par, if_neg hj]
   by_cases hk : p ∈ k.ids
   ·rw [if_pos ((mem_insFirst p i t s x k).2 (Or.inr ⟨hk, Or.inr hx⟩)), par_insFirst_in p i t s hx hxi j h.2.1 hk]
   ·rw [if_neg (by rw [mem_insFirst]; grind), par_insFirst_in p i t s hx hxi up h.2.2 (by grind)]
theorem par_insAfter_in (a i : Nat) (t : ByteArray) (s : Fo) {x : Nat} (hx : x ∈ s.ids) (hxi : x ≠ i) : ∀ {F : Fo} (up : Nat), x ∉ F.ids → a ∈ F.ids → par x up (insAfter a i t s F) = par x i s
 | .nil, _, _, h => by simp [Fo.ids] at h
 | .nd j u k n, up, h, hp => by
  simp only [Fo.ids, List.mem_cons, List.mem_append, not_or] at h hp
  have hj : ¬ j = x := fun e => h.1 e.symm
  rw [insAfter]
  by_cases e : j = a
  ·rw [if_pos e, par, if_neg hj, if_neg h.2.1, par, if_neg (fun e => hxi e.symm), if_pos hx]
  ·rw [if_neg e, par, if_neg hj]
   by_cases hk : a ∈ k.ids
   ·rw [if_pos ((mem_insAfter a i t s x k).2 (Or.inr ⟨hk, Or.inr hx⟩)), par_insAfter_in a i t s hx hxi j h.2.1 hk]
   ·rw [if_neg (by rw [mem_insAfter]; grind), par_insAfter_in a i t s hx hxi up h.2.2 (by grind)]
theorem txt_insFirst_in (p i : Nat) (t : ByteArray) (s : Fo) {x : Nat} (hx : x ∈ s.ids) (hxi : x ≠ i) : ∀ {F : Fo}, x ∉ F.ids → p ∈ F.ids → txtF x (insFirst p i t s F) = txtF x s
 | .nil, _, h => by simp [Fo.ids] at h
 | .nd j u k n, h, hp => by
  simp only [Fo.ids, List.mem_cons, List.mem_append, not_or] at h hp
  have hj : ¬ j = x := fun e => h.1 e.symm
  rw [insFirst]
  by_cases e : j = p
  ·rw [if_pos e, txtF, if_neg hj, if_pos (by simp [Fo.ids, hx]), txtF, if_neg (fun e => hxi e.symm), if_pos hx]
  ·rw [if_neg e, txtF, if_neg hj]
   by_cases hk : p ∈ k.ids
   ·rw [if_pos ((mem_insFirst p i t s x k).2 (Or.inr ⟨hk, Or.inr hx⟩)), txt_insFirst_in p i t s hx hxi h.2.1 hk]
   ·rw [if_neg (by rw [mem_insFirst]; grind), txt_insFirst_in p i t s hx hxi h.2.2 (by grind)]
theorem txt_insAfter_in (a i : Nat) (t : ByteArray) (s : Fo) {x : Nat} (hx : x ∈ s.ids) (hxi : x ≠ i) : ∀ {F : Fo}, x ∉ F.ids → a ∈ F.ids → txtF x (insAfter a i t s F) = txtF x s
 | .nil, _, h => by simp [Fo.ids] at h
 | .nd j u k n, h, hp => by
  simp only [Fo.ids, List.mem_cons, List.mem_append, not_or] at h hp
  have hj : ¬ j = x := fun e => h.1 e.symm
  rw [insAfter]
  by_cases e : j = a
  ·rw [if_pos e, txtF, if_neg hj, if_neg h.2.1, txtF, if_neg (fun e => hxi e.symm), if_pos hx]
  ·rw [if_neg e, txtF, if_neg hj]
   by_cases hk : a ∈ k.ids
   ·rw [if_pos ((mem_insAfter a i t s x k).2 (Or.inr ⟨hk, Or.inr hx⟩)), txt_insAfter_in a i t s hx hxi h.2.1 hk]
   ·rw [if_neg (by rw [mem_insAfter]; grind), txt_insAfter_in a i t s hx hxi h.2.2 (by grind)]
theorem par_insFirst_old (p i : Nat) (t : ByteArray) (s : Fo) {x : Nat} (hx : x ∉ s.ids) (hxi : x ≠ i) : ∀ (F : Fo) (up : Nat), par x up (insFirst p i t s F) = par x up F
 | .nil, _ => rfl
 | .nd j u k n, up => by
  have m1 : x ∈ (insFirst p i t s k).ids ↔ x ∈ k.ids := by rw [mem_insFirst]; grind
  have m2 : x ∈ (Fo.nd i t s k).ids ↔ x ∈ k.ids := by simp only [Fo.ids, List.mem_cons, List.mem_append]; grind
  rw [insFirst]
  by_cases e : j = p
  ·rw [if_pos e]
   simp only [par, m2, if_neg (fun e : i = x => hxi e.symm), if_neg hx]
  ·rw [if_neg e]
   simp only [par, m1, par_insFirst_old p i t s hx hxi k, par_insFirst_old p i t s hx hxi n]
theorem par_insAfter_old (a i : Nat) (t : ByteArray) (s : Fo) {x : Nat} (hx : x ∉ s.ids) (hxi : x ≠ i) : ∀ (F : Fo) (up : Nat), par x up (insAfter a i t s F) = par x up F
 | .nil, _ => rfl
 | .nd j u k n, up => by
  have m1 : x ∈ (insAfter a i t s k).ids ↔ x ∈ k.ids := by rw [mem_insAfter]; grind
  rw [insAfter]
  by_cases e : j = a
  ·rw [if_pos e]
   simp only [par, if_neg (fun e : i = x => hxi e.symm), if_neg hx]
  ·rw [if_neg e]
   simp only [par, m1, par_insAfter_old a i t s hx hxi k, par_insAfter_old a i t s hx hxi n]
theorem txt_insFirst_old (p i : Nat) (t : ByteArray) (s : Fo) {x : Nat} (hx : x ∉ s.ids) (hxi : x ≠ i) : ∀ (F : Fo), txtF x (insFirst p i t s F) = txtF x F
 | .nil => rfl
 | .nd j u k n => by
  have m1 : x ∈ (insFirst p i t s k).ids ↔ x ∈ k.ids := by rw [mem_insFirst]; grind
  have m2 : x ∈ (Fo.nd i t s k).ids ↔ x ∈ k.ids := by simp only [Fo.ids, List.mem_cons, List.mem_append]; grind
  rw [insFirst]
  by_cases e : j = p
  ·rw [if_pos e]
   simp only [txtF, m2, if_neg (fun e : i = x => hxi e.symm), if_neg hx]
  ·rw [if_neg e]
   simp only [txtF, m1, txt_insFirst_old p i t s hx hxi k, txt_insFirst_old p i t s hx hxi n]
theorem txt_insAfter_old (a i : Nat) (t : ByteArray) (s : Fo) {x : Nat} (hx : x ∉ s.ids) (hxi : x ≠ i) : ∀ (F : Fo), txtF x (insAfter a i t s F) = txtF x F
 | .nil => rfl
 | .nd j u k n => by
  have m1 : x ∈ (insAfter a i t s k).ids ↔ x ∈ k.ids := by rw [mem_insAfter]; grind
  rw [insAfter]
  by_cases e : j = a
  ·rw [if_pos e]
   simp only [txtF, if_neg (fun e : i = x => hxi e.symm), if_neg hx]
  ·rw [if_neg e]
   simp only [txtF, m1, txt_insAfter_old a i t s hx hxi k, txt_insAfter_old a i t s hx hxi n]
theorem txt_del (i a : Nat) : ∀ (G : Fo), G.ids.Nodup → a ∈ (del i G).ids → txtF a (del i G) = txtF a G
 | .nil, _, h => rfl
 | .nd j u k n, hn, h => by
  obtain ⟨n1, n2, n3, n4, n5⟩ := nodup_nd hn
  rw [FP.del] at h ⊢
  by_cases e : j = i
  ·rw [if_pos e] at h ⊢
   rw [txtF, if_neg (fun (g : j = a) => n2 (by rw [g]; exact h)), if_neg (fun g => n5 a g h)]
  ·rw [if_neg e] at h ⊢
   simp only [Fo.ids, List.mem_cons, List.mem_append] at h
   rw [txtF, txtF]
   by_cases e2 : j = a
   ·rw [if_pos e2, if_pos e2]
   ·rw [if_neg e2, if_neg e2]
    by_cases hk : a ∈ (FP.del i k).ids
    ·rw [if_pos hk, if_pos (del_ids_sub i hk)]; exact txt_del i a k n3 hk
    ·have hn' : a ∈ (FP.del i n).ids := by rcases h with g | g | g; exact absurd g.symm e2; exact absurd g hk; exact g
     rw [if_neg hk, if_neg (fun g => n5 a g (del_ids_sub i hn'))]; exact txt_del i a n n4 hn'
theorem par_sub (i a : Nat) : ∀ (G : Fo) (up : Nat), G.ids.Nodup → a ∈ (sub i G).ids → par a up G = par a i (sub i G)
 | .nil, up, _, h => by simp [sub, Fo.ids] at h
 | .nd j u k n, up, hn, h => by
  obtain ⟨n1, n2, n3, n4, n5⟩ := nodup_nd hn
  rw [sub] at h ⊢
  by_cases e : j = i
  ·rw [if_pos e] at h ⊢
   rw [par, if_neg (fun (g : j = a) => n1 (by rw [g]; exact h)), if_pos h, e]
  ·rw [if_neg e] at h ⊢
   by_cases hk : i ∈ k.ids
   ·rw [if_pos hk] at h ⊢
    have ha := sub_ids i h
    rw [par, if_neg (fun (g : j = a) => n1 (by rw [g]; exact ha)), if_pos ha]
    exact par_sub i a k j n3 h
   ·rw [if_neg hk] at h ⊢
    have ha := sub_ids i h
    rw [par, if_neg (fun (g : j = a) => n2 (by rw [g]; exact ha)), if_neg (fun g => n5 a g ha)]
    exact par_sub i a n up n4 h
theorem txt_sub (i a : Nat) : ∀ (G : Fo), G.ids.Nodup → a ∈ (sub i G).ids → txtF a G = txtF a (sub i G)
 | .nil, _, h => by simp [sub, Fo.ids] at h
 | .nd j u k n, hn, h => by
  obtain ⟨n1, n2, n3, n4, n5⟩ := nodup_nd hn
  rw [sub] at h ⊢
  by_cases e : j = i
  ·rw [if_pos e] at h ⊢
   rw [txtF, if_neg (fun (g : j = a) => n1 (by rw [g]; exact h)), if_pos h]
  ·rw [if_neg e] at h ⊢
   by_cases hk : i ∈ k.ids
   ·rw [if_pos hk] at h ⊢
    have ha := sub_ids i h
    rw [txtF, if_neg (fun (g : j = a) => n1 (by rw [g]; exact ha)), if_pos ha]
    exact txt_sub i a k n3 h
   ·rw [if_neg hk] at h ⊢
    have ha := sub_ids i h
    rw [txtF, if_neg (fun (g : j = a) => n2 (by rw [g]; exact ha)), if_neg (fun g => n5 a g ha)]
    exact txt_sub i a n n4 h
theorem set_txt_ne (x : Nat) (t' : ByteArray) {i : Nat} (h : i ≠ x) : ∀ (F : Fo), txtF i (setF x t' F) = txtF i F
 | .nil => rfl
 | .nd j u k n => by
  rw [setF, txtF, txtF, setF_ids, set_txt_ne x t' h k, set_txt_ne x t' h n]
  by_cases e : j = i
  ·rw [if_pos e, if_pos e, if_neg (fun g => h (e ▸ g))]
  ·rw [if_neg e, if_neg e]
theorem set_txt_eq (x : Nat) (t' : ByteArray) : ∀ {F : Fo}, x ∈ F.ids → txtF x (setF x t' F) = t'
 | .nil, h => by simp [Fo.ids] at h
 | .nd j u k n, h => by
  simp only [Fo.ids, List.mem_cons, List.mem_append] at h
  rw [setF, txtF, setF_ids]
  by_cases e : j = x
  ·rw [if_pos e, if_pos e]
  ·rw [if_neg e]
   by_cases hk : x ∈ k.ids
   ·rw [if_pos hk]; exact set_txt_eq x t' hk
   ·rw [if_neg hk]; exact set_txt_eq x t' (by grind)
theorem set_set (x : Nat) (t t' : ByteArray) : ∀ (F : Fo), setF x t' (setF x t F) = setF x t' F
 | .nil => rfl
 | .nd j u k n => by
  simp only [setF, set_set x t t' k, set_set x t t' n]
  congr 1
  split <;> rfl
end Go.Proofs.YtdpklbomhdpimaaDoor.FP
namespace Go.Proofs.YtdpklbomhdpimaaDoor.FP
open Go.Proofs.YtdpklbomhdpimaaDoor.P
structure PutOk (H : Fo) (q : Nat × Nat) (i : Nat) (s : Fo) : Prop where
 nd : H.ids.Nodup
 snd : s.ids.Nodup
 iH : i ∉ H.ids
 is : i ∉ s.ids
 dis : ∀ x ∈ s.ids, x ∉ H.ids
 up : q.1 ∈ H.ids
 at_ : q.2 = 0 ∨ (q.2 ∈ H.ids ∧ par q.2 0 H = q.1)
section
variable {H : Fo} {q : Nat × Nat} {i : Nat} {s : Fo} {t : ByteArray}
theorem PutOk.del (o : PutOk H q i s) : del i (putF H q i t s) = H := by
 unfold putF
 split
 ·exact del_insFirst _ _ _ _ o.iH
 ·exact del_insAfter _ _ _ _ o.iH
theorem PutOk.sub (o : PutOk H q i s) : sub i (putF H q i t s) = s := by
 unfold putF
 split
 ·exact sub_insFirst_new _ _ _ _ o.iH o.up
 ·rename_i h; exact sub_insAfter_new _ _ _ _ o.iH (o.at_.resolve_left h).1
theorem PutOk.txt (o : PutOk H q i s) : txtF i (putF H q i t s) = t := by
 unfold putF
 split
 ·exact txt_insFirst_new _ _ _ _ o.iH o.up
 ·rename_i h; exact txt_insAfter_new _ _ _ _ o.iH (o.at_.resolve_left h).1
theorem PutOk.par (o : PutOk H q i s) : par i 0 (putF H q i t s) = q.1 := by
 unfold putF
 split
 ·exact par_insFirst_new _ _ _ _ _ o.iH o.up
 ·rename_i h
  rw [par_insAfter_new _ _ _ _ _ o.iH (o.at_.resolve_left h).1]; exact (o.at_.resolve_left h).2
theorem PutOk.mem (o : PutOk H q i s) (y : Nat) : y ∈ (putF H q i t s).ids ↔ y = i ∨ y ∈ s.ids ∨ y ∈ H.ids := by
 unfold putF
 split
 ·rw [mem_insFirst]; have := o.up; grind
 ·rename_i h; rw [mem_insAfter]; have := (o.at_.resolve_left h).1; grind
theorem PutOk.perm (o : PutOk H q i s) : (putF H q i t s).ids.Perm (i :: (s.ids ++ H.ids)) := putF_ids o.nd o.up (o.at_.imp id And.left)
theorem PutOk.nodup (o : PutOk H q i s) : (putF H q i t s).ids.Nodup := by
 refine o.perm.nodup_iff.2 (List.nodup_cons.2 ⟨?_, List.nodup_append.2 ⟨o.snd, o.nd, fun a ha b hb e => o.dis a ha (e ▸ hb)⟩⟩)
 rw [List.mem_append]
 exact fun h => h.elim o.is o.iH
theorem PutOk.ne {x : Nat} (o : PutOk H q i s) (hx : x ∈ H.ids) : x ≠ i ∧ x ∉ s.ids := ⟨fun e => o.iH (e ▸ hx), fun g => o.dis x g hx⟩
theorem PutOk.par_old (o : PutOk H q i s) {x : Nat} (hx : x ∈ H.ids) : FP.par x 0 (putF H q i t s) = FP.par x 0 H := by
 obtain ⟨h1, h2⟩ := o.ne hx
 unfold putF
 split
 ·exact par_insFirst_old _ _ _ _ h2 h1 _ _
 ·exact par_insAfter_old _ _ _ _ h2 h1 _ _
theorem PutOk.txt_old (o : PutOk H q i s) {x : Nat} (hx : x ∈ H.ids) : txtF x (putF H q i t s) = txtF x H := by
 obtain ⟨h1, h2⟩ := o.ne hx
 unfold putF
 split
 ·exact txt_insFirst_old _ _ _ _ h2 h1 _
 ·exact txt_insAfter_old _ _ _ _ h2 h1 _
theorem PutOk.par_in (o : PutOk H q i s) {x : Nat} (hx : x ∈ s.ids) : FP.par x 0 (putF H q i t s) = FP.par x i s := by
 have h1 : x ≠ i := fun e => o.is (e ▸ hx)
 unfold putF
 split
 ·exact par_insFirst_in _ _ _ _ hx h1 _ (o.dis x hx) o.up
 ·rename_i h; exact par_insAfter_in _ _ _ _ hx h1 _ (o.dis x hx) (o.at_.resolve_left h).1
theorem PutOk.txt_in (o : PutOk H q i s) {x : Nat} (hx : x ∈ s.ids) : txtF x (putF H q i t s) = txtF x s := by
 have h1 : x ≠ i := fun e => o.is (e ▸ hx)
 unfold putF
 split
 ·exact txt_insFirst_in _ _ _ _ hx h1 (o.dis x hx) o.up
 ·rename_i h; exact txt_insAfter_in _ _ _ _ hx h1 (o.dis x hx) (o.at_.resolve_left h).1
end
theorem fnd_congr {G G' : Fo} (h : ∀ y, y ∈ G'.ids ↔ y ∈ G.ids) (x : Int) : fndF G' x = fndF G x := by
 unfold fndF; simp only [h]
theorem mem_del {i y : Nat} {G : Fo} (hn : G.ids.Nodup) (hi : i ∈ G.ids) : y ∈ (del i G).ids ↔ y ∈ G.ids ∧ y ≠ i ∧ y ∉ (sub i G).ids := by
 have hp := ids_del i G hn hi
 obtain ⟨m1, m2⟩ := List.nodup_cons.1 (hp.nodup_iff.1 hn)
 have m3 := (List.nodup_append.1 m2).2.2
 have m4 := hp.mem_iff (a := y)
 simp only [List.mem_cons, List.mem_append] at m4 m1
 constructor
 ·intro h
  exact ⟨m4.2 (Or.inr (Or.inr h)), fun e => m1 (Or.inr (e ▸ h)), fun g => m3 y g y h rfl⟩
 ·rintro ⟨h1, h2, h3⟩
  rcases m4.1 h1 with g | g | g
  ·exact absurd g h2
  ·exact absurd g h3
  ·exact g
structure MvOk (G : Fo) (i : Nat) (q : Nat × Nat) : Prop where
 nd : G.ids.Nodup
 mem : i ∈ G.ids
 put : PutOk (del i G) q i (sub i G)
def mvF (G : Fo) (q : Nat × Nat) (i : Nat) : Fo := putF (del i G) q i (txtF i G) (sub i G)
section
variable {G : Fo} {i : Nat} {q : Nat × Nat}
theorem MvOk.ids (o : MvOk G i q) (y : Nat) : y ∈ (mvF G q i).ids ↔ y ∈ G.ids := by
 unfold mvF
 rw [o.put.mem, mem_del o.nd o.mem]
 have := o.mem
 have h2 : y ∈ (sub i G).ids → y ∈ G.ids := sub_ids i
 grind
theorem MvOk.perm (o : MvOk G i q) : (mvF G q i).ids.Perm G.ids := by
 unfold mvF
 exact o.put.perm.trans (ids_del i G o.nd o.mem).symm
theorem MvOk.nodup (o : MvOk G i q) : (mvF G q i).ids.Nodup := o.put.nodup
theorem MvOk.par_ne (o : MvOk G i q) {x : Nat} (hx : x ∈ G.ids) (hne : x ≠ i) : par x 0 (mvF G q i) = par x 0 G := by
 unfold mvF
 by_cases hs : x ∈ (sub i G).ids
 ·rw [o.put.par_in hs, par_sub i x G 0 o.nd hs]
 ·have hd := (mem_del o.nd o.mem).2 ⟨hx, hne, hs⟩
  rw [o.put.par_old hd, par_del i x G 0 o.nd hd]
theorem MvOk.txt (o : MvOk G i q) {x : Nat} (hx : x ∈ G.ids) : txtF x (mvF G q i) = txtF x G := by
 unfold mvF
 by_cases hne : x = i
 ·subst hne; exact o.put.txt
 ·by_cases hs : x ∈ (sub i G).ids
  ·rw [o.put.txt_in hs, txt_sub i x G o.nd hs]
  ·have hd := (mem_del o.nd o.mem).2 ⟨hx, hne, hs⟩
   rw [o.put.txt_old hd, txt_del i x G o.nd hd]
theorem MvOk.sub_self (o : MvOk G i q) : sub i (mvF G q i) = sub i G := o.put.sub
theorem MvOk.del (o : MvOk G i q) : del i (mvF G q i) = del i G := o.put.del
theorem MvOk.under (o : MvOk G i q) (x : Nat) : under i x (mvF G q i) ↔ under i x G := by
 unfold FP.under
 rw [o.sub_self, o.ids]
theorem MvOk.fnd (o : MvOk G i q) (x : Int) : fndF (mvF G q i) x = fndF G x := fnd_congr o.ids x
theorem MvOk.near (o : MvOk G i q) (up at_ : Int) : nearF (mvF G q i) (i : Int) up at_ = nearF G (i : Int) up at_ := by
 unfold nearF
 rw [o.fnd, o.fnd]
 by_cases h1 : fndF G up = 0
 ·rw [if_pos h1, if_pos h1]
 ·rw [if_neg h1, if_neg h1]
  by_cases h2 : fndF G at_ = 0
  ·rw [if_pos h2, if_pos h2]
  ·rw [if_neg h2, if_neg h2]
   by_cases h3 : at_ = (i : Int)
   ·simp only [h3, if_true, ite_self]
   ·obtain ⟨m1, m2⟩ := fndF_mem h2
    rw [o.par_ne m1 (fun e => h3 (by rw [← m2, e]))]
end
theorem move_ok {G : Fo} (hn : G.ids.Nodup) (h0 : ∀ x ∈ G.ids, x ≠ 0) (h3 : 3 ∈ G.tops) {i : Nat} (hi : i ∈ G.ids) (hit : i ∉ G.tops) {up at_ : Int} (hw : ¬ under i (fndF G up) G) : MvOk G i (nearF G (i : Int) up at_) := by
 obtain ⟨h, hr⟩ := reptop_ex G hn h0
 have hp := near_del hr hn h3 hi hit (id := (i : Int)) (up := up) (at_ := at_) rfl hw
 have hperm := ids_del i G hn hi
 obtain ⟨m1, m2⟩ := List.nodup_cons.1 (hperm.nodup_iff.1 hn)
 obtain ⟨m3, m4, m5⟩ := List.nodup_append.1 m2
 rw [List.mem_append, not_or] at m1
 refine ⟨hn, hi, ⟨m4, m3, m1.2, m1.1, fun x hx g => m5 x hx x g rfl, hp.1, hp.2.imp id fun ⟨a1, a2, _⟩ => ⟨a1, ?_⟩⟩⟩
 rw [par_del i _ G 0 hn a1, ← reptop_par hr hn (del_ids_sub i a1)]; exact a2
theorem make_ok {G : Fo} (hn : G.ids.Nodup) (h3 : 3 ∈ G.tops) {i : Nat} (hi : i ∉ G.ids) {up at_ : Int} : PutOk G (nearF G (i : Int) up at_) i .nil := by
 have hp := near_ok (G := G) (tops_ids h3) (i : Int) up at_
 exact ⟨hn, by simp [Fo.ids], hi, by simp [Fo.ids], by simp [Fo.ids], hp.up, hp.at_.imp id fun ⟨a1, a2, _⟩ => ⟨a1, a2⟩⟩
inductive Does (G : Fo) (kd : Int) (i : Nat) (up at_ : Int) (s : ByteArray) : Fo → Prop
 | text (h : kd = 2) (hi : i ∈ G.ids) : Does G kd i up at_ s (setF i s G)
 | make (h : kd = 1) (hi : i ∉ G.ids) (o : PutOk G (nearF G (i : Int) up at_) i .nil) : Does G kd i up at_ s (putF G (nearF G (i : Int) up at_) i s .nil)
 | move (h : kd = 3) (hi : i ∈ G.ids) (hw : ¬ under i (fndF G up) G) (o : MvOk G i (nearF G (i : Int) up at_)) : Does G kd i up at_ s (mvF G (nearF G (i : Int) up at_) i)
 | none (h : (kd = 2 ∧ i ∉ G.ids) ∨ (kd = 1 ∧ i ∈ G.ids) ∨ (kd = 3 ∧ i ∉ G.ids) ∨ (kd = 3 ∧ i ∈ G.ids ∧ under i (fndF G up) G)) : Does G kd i up at_ s G
theorem fnd_nat {G : Fo} {y : Nat} (hy : y ∈ G.ids) : fndF G (y : Int) = y := by unfold fndF; rw [if_pos ⟨by omega, by simpa using hy⟩]; rfl
theorem fnd_not {G : Fo} {y : Nat} (hy : y ∉ G.ids) : fndF G (y : Int) = 0 := by unfold fndF; rw [if_neg (by simpa using hy)]
theorem does {G : Fo} (hn : G.ids.Nodup) (h0 : ∀ x ∈ G.ids, x ≠ 0) (h3 : 3 ∈ G.tops) (kd : Int) (i : Nat) (hit : i ∉ G.tops) (up at_ : Int) (s : ByteArray) (hk : kd = 1 ∨ kd = 2 ∨ kd = 3) : Does G kd i up at_ s (doF G kd (i : Int) up at_ s) := by
 unfold doF
 by_cases hi : i ∈ G.ids
 ·have hi0 := h0 i hi
  rw [fnd_nat hi, if_neg hi0, if_neg hi0, if_neg hi0]
  rcases hk with rfl | rfl | rfl
  ·rw [if_neg (by decide), if_pos rfl]; exact .none (Or.inr (Or.inl ⟨rfl, hi⟩))
  ·rw [if_pos rfl]; exact .text rfl hi
  ·rw [if_neg (by decide), if_neg (by decide)]
   by_cases hu : under i (fndF G up) G
   ·rw [if_pos hu]; exact .none (Or.inr (Or.inr (Or.inr ⟨rfl, hi, hu⟩)))
   ·rw [if_neg hu]; exact .move rfl hi hu (move_ok hn h0 h3 hi hit hu)
 ·rw [fnd_not hi, if_pos rfl, if_pos rfl, if_pos rfl]
  rcases hk with rfl | rfl | rfl
  ·rw [if_neg (by decide), if_pos rfl]; exact .make rfl hi (make_ok hn h3 hi)
  ·rw [if_pos rfl]; exact .none (Or.inl ⟨rfl, hi⟩)
  ·rw [if_neg (by decide), if_neg (by decide)]; exact .none (Or.inr (Or.inr (Or.inl ⟨rfl, hi⟩)))
section
variable {G : Fo} (hn : G.ids.Nodup) (h0 : ∀ x ∈ G.ids, x ≠ 0) (h3 : 3 ∈ G.tops) {kd : Int} {i : Nat} (hi0 : i ≠ 0) (hit : i ∉ G.tops) {up at_ : Int} {s : ByteArray} (hk : kd = 1 ∨ kd = 2 ∨ kd = 3)
end
theorem par_top0 {G : Fo} {x : Nat} : ∀ {F : Fo}, F.ids.Nodup → x ∈ F.tops → par x 0 F = 0
 | .nil, _, h => by simp [Fo.tops] at h
 | .nd j u k n, hn, h => by
  obtain ⟨n1, n2, n3, n4, n5⟩ := nodup_nd hn
  simp only [Fo.tops, List.mem_cons] at h
  rw [par]
  by_cases e : j = x
  ·rw [if_pos e]
  ·have hx : x ∈ n.tops := by grind
   rw [if_neg e, if_neg (fun g => n5 x g (tops_ids hx)), par_top0 (G := G) n4 hx]
theorem near_at_top {G : Fo} (hn : G.ids.Nodup) (h0 : ∀ x ∈ G.ids, x ≠ 0) {H : Fo} {q : Nat × Nat} {i : Nat} {s : Fo} (o : PutOk H q i s) (hH : ∀ x ∈ H.ids, x ≠ 0) : q.2 = 0 ∨ q.2 ∉ H.tops := by
 refine o.at_.imp id fun ⟨h1, h2⟩ ht => ?_
 have := par_top0 (G := G) o.nd ht
 rw [h2] at this
 exact hH _ o.up this
theorem do_tops {G : Fo} (hn : G.ids.Nodup) (h0 : ∀ x ∈ G.ids, x ≠ 0) {kd : Int} {i : Nat} (hi0 : i ≠ 0) (hit : i ∉ G.tops) {up at_ : Int} {s : ByteArray} {G' : Fo} (hd : Does G kd i up at_ s G') : G'.tops = G.tops ∧ G'.ids.Nodup ∧ (∀ x, x ∈ G'.ids ↔ x ∈ G.ids ∨ (kd = 1 ∧ x = i)) := by
 cases hd with
 | text h hi => exact ⟨setF_tops _ _ _, by rw [setF_ids]; exact hn, fun x => by rw [setF_ids, h]; simp⟩
 | make h hi o =>
  refine ⟨putF_tops (near_at_top hn h0 o h0), o.nodup, fun x => ?_⟩
  rw [o.mem]; simp [Fo.ids, h, or_comm]
 | move h hi hw o =>
  refine ⟨?_, o.nodup, fun x => by rw [o.ids, h]; simp⟩
  unfold mvF
  rw [putF_tops (near_at_top hn h0 o.put fun x hx => h0 x (del_ids_sub i hx)), tops_del i G hit]
 | none h => exact ⟨rfl, hn, fun x => ⟨Or.inl, fun g => g.elim id fun ⟨g1, g2⟩ => by rcases h with h | h | h | h <;> first | omega | exact g2 ▸ h.2⟩⟩
end Go.Proofs.YtdpklbomhdpimaaDoor.FP
namespace Go.Proofs.YtdpklbomhdpimaaDoor.PL
open Go.RowKit Go.Proofs.YtdpklbomhdpimaaDoor.P Go.Proofs.YtdpklbomhdpimaaDoorW.PrintWords Go.Proofs.YtdpklbomhdpimaaDoorW.PrintLast
theorem wrap_id (x : Int) (h0 : -9223372036854775808 ≤ x) (h1 : x ≤ 9223372036854775807) : wrap64 x = x := by unfold wrap64; omega
theorem rdR_get (t : List S69) (i : Nat) (h : i < t.length) : rd_T69 t i = t[i] := by
 unfold rd_T69
 rw [List.getD_eq_getElem?_getD, show ((i : Int)).toNat = i from rfl, List.getElem?_eq_getElem h]
 rfl
def atFrom (id : Int) : List S69 → Nat → Int
 | [], _ => -1
 | r :: rest, i => if r.f0 = id then (i : Int) else atFrom id rest (i + 1)
def atI (t : List S69) (id : Int) : Int := atFrom id t 0
theorem at_l0 (t : List S69) (id : Int) (hl : t.length ≤ 1099511627776) : ∀ (n i : Nat), i + n = t.length → Ev (fun k => spec_l2At.l0 k t id i) (atFrom id (t.drop i) i)
 | 0, i, h => by
  rw [List.drop_eq_nil_of_le (by omega)]
  refine Ev.step (f := fun _ => some (-1)) (fun k => ?_) (evnow _)
  simp only [spec_l2At.l0]; rw [if_neg (by omega)]
 | n + 1, i, h => by
  have hi : i < t.length := by omega
  rw [List.drop_eq_getElem_cons hi]
  unfold atFrom
  by_cases hq : t[i].f0 = id
  ·rw [if_pos hq]
   refine Ev.step (f := fun _ => some (i : Int)) (fun k => ?_) (evnow _)
   simp only [spec_l2At.l0]
   rw [if_pos (by omega), if_pos (by omega), rdR_get t i hi, if_pos hq]
  ·rw [if_neg hq]
   refine Ev.step (fun k => ?_) (at_l0 t id hl n (i + 1) (by omega))
   simp only [spec_l2At.l0]
   rw [if_pos (by omega), if_pos (by omega), rdR_get t i hi, if_neg hq, wrapS i (by omega) (by omega)]
   rfl
theorem at_f (t : List S69) (id : Int) (hl : t.length ≤ 1099511627776) : Ev (fun k => spec_l2At.f k t id) (atI t id) := at_l0 t id hl t.length 0 (by omega)
theorem atFrom_spec (id : Int) : ∀ (t : List S69) (i : Nat), (atFrom id t i = -1 ∧ ∀ x ∈ t, x.f0 ≠ id) ∨ ∃ (j : Nat) (h : j < t.length), atFrom id t i = ((i + j : Nat) : Int) ∧ t[j].f0 = id
 | [], i => Or.inl ⟨rfl, fun x hx => by cases hx⟩
 | r :: rest, i => by
  unfold atFrom
  by_cases hq : r.f0 = id
  ·rw [if_pos hq]
   exact Or.inr ⟨0, by simp, by simp, hq⟩
  ·rw [if_neg hq]
   rcases atFrom_spec id rest (i + 1) with ⟨h1, h2⟩ | ⟨j, h, h1, h2⟩
   ·refine Or.inl ⟨h1, fun x hx => ?_⟩
    rcases List.mem_cons.1 hx with rfl | hx
    ·exact hq
    ·exact h2 x hx
   ·exact Or.inr ⟨j + 1, by simp; omega, by rw [h1]; congr 1; omega, by simpa using h2⟩
theorem atI_spec (t : List S69) (id : Int) : (atI t id = -1 ∧ ∀ x ∈ t, x.f0 ≠ id) ∨ ∃ (j : Nat) (h : j < t.length), atI t id = (j : Int) ∧ t[j].f0 = id := by
 rcases atFrom_spec id t 0 with h | ⟨j, h, h1, h2⟩
 ·exact Or.inl h
 ·exact Or.inr ⟨j, h, by rw [atI, h1]; congr 1; omega, h2⟩
def endFrom (d : Int) : List S69 → Nat → Nat
 | [], e => e
 | r :: rest, e => if r.f1 > d then endFrom d rest (e + 1) else e
def endI (t : List S69) (i : Nat) : Nat := endFrom (t.getD i z69).f1 (t.drop (i + 1)) (i + 1)
theorem getD_get (t : List S69) (i : Nat) (h : i < t.length) : t.getD i z69 = t[i] := by
 rw [List.getD_eq_getElem?_getD, List.getElem?_eq_getElem h]
 rfl
theorem end_l0 (t : List S69) (a : Nat) (ha : a < t.length) (hl : t.length ≤ 1099511627776) : ∀ (n i : Nat), i + n = t.length → Ev (fun k => spec_l2End.l0 k t a i) (endFrom t[a].f1 (t.drop i) i : Int)
 | 0, i, h => by
  rw [List.drop_eq_nil_of_le (by omega)]
  refine Ev.step (f := fun _ => some (i : Int)) (fun k => ?_) (evnow _)
  simp only [spec_l2End.l0]; rw [if_neg (by omega)]
 | n + 1, i, h => by
  have hi : i < t.length := by omega
  rw [List.drop_eq_getElem_cons hi]
  unfold endFrom
  by_cases hq : t[i].f1 > t[a].f1
  ·rw [if_pos hq]
   refine Ev.step (fun k => ?_) (end_l0 t a ha hl n (i + 1) (by omega))
   simp only [spec_l2End.l0]
   rw [if_pos (by omega), if_pos (by omega), if_pos (by omega), if_pos (by omega), rdR_get t i hi, rdR_get t a ha, if_pos hq, wrapS i (by omega) (by omega)]
   rfl
  ·rw [if_neg hq]
   refine Ev.step (f := fun _ => some (i : Int)) (fun k => ?_) (evnow _)
   simp only [spec_l2End.l0]
   rw [if_pos (by omega), if_pos (by omega), if_pos (by omega), if_pos (by omega), rdR_get t i hi, rdR_get t a ha, if_neg hq]
theorem end_f (t : List S69) (a : Nat) (ha : a < t.length) (hl : t.length ≤ 1099511627776) : Ev (fun k => spec_l2End.f k t a) (endI t a : Int) := by
 have := end_l0 t a ha hl (t.length - (a + 1)) (a + 1) (by omega)
 unfold endI
 rw [getD_get t a ha]
 refine Ev.congr (fun k => ?_) this
 unfold spec_l2End.f
 rw [wrapS a (by omega) (by omega)]
 rfl
theorem endFrom_spec (d : Int) : ∀ (t : List S69) (e : Nat), e ≤ endFrom d t e ∧ endFrom d t e ≤ e + t.length ∧ (∀ (j : Nat) (hj : j < t.length), e + j < endFrom d t e → d < t[j].f1) ∧ (∀ (hj : endFrom d t e - e < t.length), t[endFrom d t e - e].f1 ≤ d)
 | [], e => ⟨Nat.le_refl _, by simp [endFrom], fun j hj => by simp at hj, fun hj => by simp at hj⟩
 | r :: rest, e => by
  by_cases hq : r.f1 > d
  ·have he : endFrom d (r :: rest) e = endFrom d rest (e + 1) := if_pos hq
   obtain ⟨h1, h2, h3, h4⟩ := endFrom_spec d rest (e + 1)
   refine ⟨by rw [he]; omega, by rw [he]; simp; omega, fun j hj hlt => ?_, fun hj => ?_⟩
   ·rw [he] at hlt
    cases j with
    | zero => exact hq
    | succ j => exact h3 j (by simpa using hj) (by omega)
   ·have e1 : endFrom d (r :: rest) e - e = (endFrom d rest (e + 1) - (e + 1)) + 1 := by rw [he]; omega
    have hj' : endFrom d rest (e + 1) - (e + 1) < rest.length := by rw [e1] at hj; simpa using hj
    have := h4 hj'
    simp only [e1, List.getElem_cons_succ]
    exact this
  ·have he : endFrom d (r :: rest) e = e := if_neg hq
   refine ⟨by rw [he]; exact Nat.le_refl _, by rw [he]; omega, fun j hj hlt => by rw [he] at hlt; omega, fun hj => ?_⟩
   have e1 : endFrom d (r :: rest) e - e = 0 := by rw [he]; omega
   simp only [e1, List.getElem_cons_zero]
   omega
theorem endI_spec (t : List S69) (a : Nat) (ha : a < t.length) : a < endI t a ∧ endI t a ≤ t.length ∧ (∀ (j : Nat) (hj : j < t.length), a < j → j < endI t a → t[a].f1 < t[j].f1) ∧ (∀ (hj : endI t a < t.length), t[endI t a].f1 ≤ t[a].f1) := by
 unfold endI
 rw [getD_get t a ha]
 obtain ⟨h1, h2, h3, h4⟩ := endFrom_spec t[a].f1 (t.drop (a + 1)) (a + 1)
 rw [List.length_drop] at h2
 refine ⟨by omega, by omega, fun j hj h5 h6 => ?_, fun hj => ?_⟩
 ·have := h3 (j - (a + 1)) (by rw [List.length_drop]; omega) (by omega)
  rw [List.getElem_drop] at this
  simpa [show a + 1 + (j - (a + 1)) = j by omega] using this
 ·have := h4 (by rw [List.length_drop]; omega)
  rw [List.getElem_drop] at this
  simpa [show a + 1 + (endFrom t[a].f1 (t.drop (a + 1)) (a + 1) - (a + 1)) = endFrom t[a].f1 (t.drop (a + 1)) (a + 1) by omega] using this
def shift (d : Int) (r : S69) : S69 := ⟨r.f0, wrap64 (r.f1 + d), r.f2⟩
theorem put_l0 (t rows : List S69) (d : Int) (p : Nat) (hp : p ≤ t.length) (hl : t.length ≤ 1000000) (hr : rows.length ≤ 1000000) : ∀ (n i : Nat) (acc : List S69), i + n = rows.length → acc.length + n ≤ 3000000 →
  Ev (fun k => spec_l3Put.l0 k t rows d p acc i) (acc ++ (rows.drop i).map (shift d) ++ t.drop p)
 | 0, i, acc, h, ha => by
  rw [List.drop_eq_nil_of_le (show rows.length ≤ i by omega), List.map_nil, List.append_nil]
  refine Ev.step (fun k => by simp only [spec_l3Put.l0]; rfl) ?_
  refine ev_neg (by omega) (ev_pos (by omega) (ev_pos (by omega) ?_))
  simp only [Option.bind_some]
  refine ev_pos (by rw [List.length_drop]; omega) ?_
  exact evnow _
 | n + 1, i, acc, h, ha => by
  have hi : i < rows.length := by omega
  rw [List.drop_eq_getElem_cons hi, List.map_cons]
  have ih := put_l0 t rows d p hp hl hr n (i + 1) (acc ++ [shift d rows[i]]) (by omega) (by simp; omega)
  rw [List.append_assoc acc] at ih
  refine Ev.step (fun k => by simp only [spec_l3Put.l0]; rfl) ?_
  refine ev_pos (by omega) (ev_pos (by omega) (ev_pos (by omega) ?_))
  rw [rdR_get rows i hi, wrapS i (by omega) (by omega)]
  exact ih
theorem under_f (t : List S69) (u id : Int) (k : Nat) (hk : k < t.length) (hi : atI t id = (k : Int)) (hl : t.length ≤ 1000000) :
  Ev (fun n => spec_l2Under.f n t u id) (decide (0 ≤ atI t u) && (decide ((k : Int) ≤ atI t u) && decide (atI t u ≤ (endI t k : Int) - 1))) := by
 obtain ⟨e1, e2, _, _⟩ := endI_spec t k hk
 unfold spec_l2Under.f
 refine Ev.bind (at_f t u (by omega)) ?_
 refine Ev.bind (at_f t id (by omega)) ?_
 rw [hi]
 by_cases h : atI t u ≥ 0
 ·refine ev_pos h (ev_pos (by omega) ?_)
  refine Ev.bind (end_f t k hk (by omega)) ?_
  have hw : wrap64 ((endI t k : Int) - 1) = (endI t k : Int) - 1 := by unfold wrap64; omega
  rw [hw, in_f, decide_eq_true (show 0 ≤ atI t u from h), Bool.true_and]
  simp only [Option.bind_some]
  exact evnow _
 ·rw [decide_eq_false (show ¬ 0 ≤ atI t u from h), Bool.false_and]
  exact ev_neg h (evnow _)
end Go.Proofs.YtdpklbomhdpimaaDoor.PL
namespace Go.Proofs.YtdpklbomhdpimaaDoor.PL
open Go.RowKit Go.Proofs.YtdpklbomhdpimaaDoor.P Go.Proofs.YtdpklbomhdpimaaDoorW.PrintWords Go.Proofs.YtdpklbomhdpimaaDoorW.PrintLast Go.Proofs.YtdpklbomhdpimaaDoor.FP
theorem tops_few : ∀ (F : Fo), F.tops.length ≤ F.ids.length
 | .nil => Nat.le_refl _
 | .nd i t k n => by have := tops_few n; simp only [Fo.tops, Fo.ids, List.length_cons, List.length_append]; omega
structure Good (G : Fo) : Prop where
 nd : G.ids.Nodup
 ne0 : ∀ x ∈ G.ids, x ≠ 0
 tops : G.tops = [1, 2, 3]
 len : G.ids.length ≤ 1000
theorem Good.three {G : Fo} (g : Good G) : 3 ∈ G.tops := by rw [g.tops]; simp
theorem fl_le : ∀ (F : Fo) (d : Nat) {r : S69}, r ∈ F.fl d → r.f1 < (d : Int) + F.ids.length
 | .nil, d, r, h => by simp [Fo.fl] at h
 | .nd j t k n, d, r, h => by
  simp only [Fo.fl, List.mem_cons, List.mem_append] at h
  simp only [Fo.ids, List.length_cons, List.length_append]
  rcases h with rfl | h | h
  ·show (d : Int) < _; omega
  ·have := fl_le k (d + 1) h; omega
  ·have := fl_le n d h; omega
theorem dep_le (x : Nat) (F : Fo) (d : Nat) (hn : F.ids.Nodup) (hx : x ∈ F.ids) : dep x d F < d + F.ids.length := by
 obtain ⟨pre, post, s⟩ := spot x F d hn hx
 have := fl_le F d (r := ⟨(x : Int), (dep x d F : Int), txtF x F⟩) (by rw [s.all]; simp)
 simp only at this
 omega
theorem atFrom_pre {r : S69} {rest : List S69} {id : Int} (hr : r.f0 = id) : ∀ (pre : List S69) (i : Nat), (∀ q ∈ pre, q.f0 ≠ id) → atFrom id (pre ++ r :: rest) i = ((i + pre.length : Nat) : Int)
 | [], i, _ => by simp [atFrom, hr]
 | q :: pre, i, h => by
  rw [List.cons_append, atFrom, if_neg (h q List.mem_cons_self), atFrom_pre hr pre (i + 1) fun x hx => h x (List.mem_cons_of_mem _ hx), List.length_cons]
  congr 1; omega
theorem at_pre {r : S69} {pre rest : List S69} {id : Int} (hr : r.f0 = id) (h : ∀ q ∈ pre, q.f0 ≠ id) : atI (pre ++ r :: rest) id = (pre.length : Int) := by
 rw [atI, atFrom_pre hr pre 0 h, Nat.zero_add]
theorem at_none {t : List S69} {id : Int} (h : ∀ q ∈ t, q.f0 ≠ id) : atI t id = -1 := by
 rcases atI_spec t id with ⟨e, _⟩ | ⟨j, hj, _, e⟩
 ·exact e
 ·exact absurd e (h _ (List.getElem_mem hj))
theorem endFrom_mid {d : Int} {post : List S69} (hp : post = [] ∨ ∃ q rest, post = q :: rest ∧ q.f1 ≤ d) : ∀ (mid : List S69) (e : Nat), (∀ q ∈ mid, d < q.f1) → endFrom d (mid ++ post) e = e + mid.length
 | [], e, _ => by
  rcases hp with rfl | ⟨q, rest, rfl, h⟩
  ·rfl
  ·rw [List.nil_append, endFrom, if_neg (by omega)]; rfl
 | q :: mid, e, h => by
  rw [List.cons_append, endFrom, if_pos (h q List.mem_cons_self), endFrom_mid hp mid (e + 1) fun x hx => h x (List.mem_cons_of_mem _ hx), List.length_cons]
  omega
theorem end_mid {pre mid post : List S69} {r : S69} (hm : ∀ q ∈ mid, r.f1 < q.f1) (hp : post = [] ∨ ∃ q rest, post = q :: rest ∧ q.f1 ≤ r.f1) : endI (pre ++ r :: (mid ++ post)) pre.length = pre.length + 1 + mid.length := by
 have e1 : (pre ++ r :: (mid ++ post)).getD pre.length z69 = r := by simp
 have e2 : (pre ++ r :: (mid ++ post)).drop (pre.length + 1) = mid ++ post := by
  rw [List.drop_append]; simp
 rw [endI, e1, e2, endFrom_mid hp mid _ hm]
theorem spot_end {x d : Nat} {G : Fo} {pre post : List S69} (s : Spot x d G pre post) : endI (G.fl d) pre.length = pre.length + 1 + (sub x G).ids.length := by
 rw [s.all, end_mid (fun q hq => by have := fl_deep _ _ hq; show (dep x d G : Int) < q.f1; omega) s.high, fl_len]
theorem spot_at {x d : Nat} {G : Fo} {pre post : List S69} (s : Spot x d G pre post) : atI (G.fl d) (x : Int) = (pre.length : Int) := by
 rw [s.all]; exact at_pre rfl s.out
theorem spot_len {x d : Nat} {G : Fo} {pre post : List S69} (s : Spot x d G pre post) : (G.fl d).length = pre.length + 1 + (sub x G).ids.length + post.length := by
 have := congrArg List.length s.all
 simp only [List.length_append, List.length_cons, fl_len] at this ⊢
 omega
theorem spot_get {x d : Nat} {G : Fo} {pre post : List S69} (s : Spot x d G pre post) (h : pre.length < (G.fl d).length) : (G.fl d)[pre.length] = ⟨(x : Int), (dep x d G : Int), txtF x G⟩ := by
 simp [s.all]
theorem at_fnd0 {G : Fo} {x : Int} (h : fndF G x = 0) (h0 : ∀ y ∈ G.ids, y ≠ 0) : atI (G.fl 0) x = -1 := at_none fun q hq e => by
 obtain ⟨i, hi, e2⟩ := fl_ids G 0 hq
 have hx : x = (i : Int) := by rw [← e, e2]
 unfold fndF at h
 rw [if_pos ⟨by omega, by rw [hx]; exact hi⟩, hx] at h
 exact h0 i hi h
theorem kids_fl : ∀ (F : Fo) (d : Nat), ((F.fl d).filter fun r => decide (r.f1 = (d : Int))).map (·.f0) = F.tops.map Int.ofNat
 | .nil, d => rfl
 | .nd j t k n, d => by
  have hk : (k.fl (d + 1)).filter (fun r => decide (r.f1 = (d : Int))) = [] := List.filter_eq_nil_iff.2 fun r hr => by
   have := fl_deep k (d + 1) hr
   simp only [decide_eq_true_eq]
   omega
  have ih := kids_fl n d
  simp only [Fo.fl, List.filter_cons, decide_true, if_true, List.map_cons, List.filter_append, hk, List.nil_append, Fo.tops]
  rw [ih]; rfl
theorem kids_l0x (t : List S69) (a : Nat) (ha : a < t.length) (hl : t.length ≤ 1099511627776) : ∀ (n i : Nat) (acc : List Int), i + n = endI t a → acc.length + n ≤ 1099511627776 →
  Ev (fun k => spec_l2Kids.l0 k t acc a i) (acc ++ (((t.drop i).take n).filter fun r => decide (r.f1 = wrap64 (t[a].f1 + 1))).map (·.f0))
 | 0, i, acc, h, hacc => by
  simp only [List.take_zero, List.filter_nil, List.map_nil, List.append_nil]
  refine Ev.step (fun k => by simp only [spec_l2Kids.l0]; rfl) ?_
  refine Ev.bind (end_f t a ha hl) ?_
  refine ev_neg (by omega) ?_
  exact evnow _
 | n + 1, i, acc, h, hacc => by
  obtain ⟨e1, e2, _, _⟩ := endI_spec t a ha
  have hi : i < t.length := by omega
  rw [List.drop_eq_getElem_cons hi, List.take_succ_cons, List.filter_cons]
  refine Ev.step (fun k => by simp only [spec_l2Kids.l0]; rfl) ?_
  refine Ev.bind (end_f t a ha hl) ?_
  refine ev_pos (by omega) (ev_pos (by omega) (ev_pos (by omega) (ev_pos (by omega) (ev_pos (by omega) ?_))))
  rw [rdR_get t i hi, rdR_get t a ha, wrapS i (by omega) (by omega)]
  by_cases hq : t[i].f1 = wrap64 (t[a].f1 + 1)
  ·refine ev_pos hq (ev_pos (by omega) ?_)
   have ih := kids_l0x t a ha hl n (i + 1) (acc ++ [t[i].f0]) (by omega) (by simp; omega)
   rw [if_pos (by simpa using hq), List.map_cons]
   simpa using ih
  ·refine ev_neg hq ?_
   have ih := kids_l0x t a ha hl n (i + 1) acc (by omega) (by omega)
   rw [if_neg (by simpa using hq)]
   exact ih
theorem kids_x {G : Fo} (g : Good G) {u : Nat} (hu : u ∈ G.ids) : Ev (fun k => spec_l2Kids.f k (G.fl 0) (u : Int)) ((sub u G).tops.map Int.ofNat) := by
 obtain ⟨pre, post, s⟩ := spot u G 0 g.nd hu
 have hl := (spot_len s)
 have hll := fl_len G 0
 have hg := g.len
 have ha : pre.length < (G.fl 0).length := by omega
 unfold spec_l2Kids.f
 simp only [Option.bind_some]
 refine Ev.bind (at_f (G.fl 0) u (by omega)) ?_
 rw [(spot_at s)]
 refine ev_neg (by omega) ?_
 rw [wrapS pre.length (by omega) (by omega)]
 have := kids_l0x (G.fl 0) pre.length ha (by omega) (sub u G).ids.length (pre.length + 1) [] (by rw [(spot_end s)]) (by simp; omega)
 rw [(spot_get s ha)] at this
 have e2 : (G.fl 0).drop (pre.length + 1) = (sub u G).fl (dep u 0 G + 1) ++ post := by
  rw [s.all, List.drop_append]; simp
 have hd := dep_le u G 0 g.nd hu
 have e3 : wrap64 ((dep u 0 G : Int) + 1) = ((dep u 0 G + 1 : Nat) : Int) := by rw [wrap_id _ (by omega) (by omega)]; omega
 rw [e2, show (sub u G).ids.length = ((sub u G).fl (dep u 0 G + 1)).length from (fl_len _ _).symm, List.take_left' rfl, e3, kids_fl, List.nil_append] at this
 exact this
theorem where_l0x (u : Int) (ks : List Int) (kd id up at_ : Int) (s : ByteArray) (hl : ks.length ≤ 1000000) : ∀ (n i : Nat) (a : Int), i + n = ks.length → Ev (fun k => spec_l3Where.l0 k u a ks i kd id up at_ s) (u, if at_ ∈ ks.drop i ∧ at_ ≠ id then at_ else a, true)
 | 0, i, a, h => by
  rw [List.drop_eq_nil_of_le (by omega), if_neg (by simp)]
  refine Ev.step (fun k => by simp only [spec_l3Where.l0]; rfl) ?_
  exact ev_neg (by omega) (evnow _)
 | n + 1, i, a, h => by
  have hi : i < ks.length := by omega
  have hrd : rd ks i = ks[i] := by
   unfold rd
   rw [List.getD_eq_getElem?_getD, show ((i : Int)).toNat = i from rfl, List.getElem?_eq_getElem hi]
   rfl
  have e1 : (at_ ∈ ks.drop i ∧ at_ ≠ id) ↔ ((at_ = ks[i] ∨ at_ ∈ ks.drop (i + 1)) ∧ at_ ≠ id) := by rw [List.drop_eq_getElem_cons hi, List.mem_cons]
  refine Ev.step (fun k => by simp only [spec_l3Where.l0]; rfl) ?_
  rw [hrd, wrapS i (by omega) (by omega)]
  refine ev_pos (by omega) (ev_pos (by omega) ?_)
  by_cases h3 : ks[i] = at_
  ·refine ev_pos h3 ?_
   by_cases h4 : at_ = id
   ·refine ev_pos h4 ?_
    rw [if_neg (fun q => q.2 h4)]
    have := where_l0x u ks kd id up at_ s hl n (i + 1) a (by omega)
    rwa [if_neg (fun q => q.2 h4)] at this
   ·refine ev_neg h4 ?_
    rw [if_pos (e1.2 ⟨Or.inl h3.symm, h4⟩)]
    have := where_l0x u ks kd id up at_ s hl n (i + 1) at_ (by omega)
    rwa [ite_self] at this
  ·refine ev_neg h3 ?_
   have := where_l0x u ks kd id up at_ s hl n (i + 1) a (by omega)
   have e2 : (at_ ∈ ks.drop i ∧ at_ ≠ id) ↔ (at_ ∈ ks.drop (i + 1) ∧ at_ ≠ id) := by
    rw [e1]
    exact ⟨fun ⟨q1, q2⟩ => ⟨q1.resolve_left (fun q => h3 q.symm), q2⟩, fun ⟨q1, q2⟩ => ⟨Or.inr q1, q2⟩⟩
   rw [show (if at_ ∈ ks.drop i ∧ at_ ≠ id then at_ else a) = (if at_ ∈ ks.drop (i + 1) ∧ at_ ≠ id then at_ else a) by simp only [e2]]
   exact this
theorem fndF_zero {G : Fo} (h0 : ∀ y ∈ G.ids, y ≠ 0) {x : Int} : fndF G x = 0 ↔ ∀ y ∈ G.ids, (y : Int) ≠ x := by
 constructor
 ·intro h y hy e
  unfold fndF at h
  rw [if_pos ⟨by omega, by rw [← e]; exact hy⟩, ← e] at h
  exact h0 y hy h
 ·intro h
  unfold fndF
  rw [if_neg]
  rintro ⟨h1, h2⟩
  exact h _ h2 (by omega)
theorem fndF_nat {G : Fo} {y : Nat} (hy : y ∈ G.ids) : fndF G (y : Int) = y := by
 unfold fndF
 rw [if_pos ⟨by omega, show (y : Int).toNat ∈ G.ids from hy⟩]; rfl
theorem near_x {G : Fo} (g : Good G) (kd id up at_ : Int) (s : ByteArray) : Ev (fun n => spec_l3Where.j0 n (G.fl 0) false kd id up at_ s) (((nearF G id up at_).1 : Int), ((nearF G id up at_).2 : Int), true) := by
 have hll := fl_len G 0
 have hg := g.len
 refine Ev.step (fun n => by simp only [spec_l3Where.j0]; rfl) ?_
 refine ev_neg (by decide) ?_
 refine Ev.bind (at_f (G.fl 0) up (by omega)) ?_
 by_cases h1 : fndF G up = 0
 ·rw [at_fnd0 h1 g.ne0]
  have : nearF G id up at_ = (3, 0) := by unfold nearF; rw [if_pos h1]
  rw [this]
  exact ev_pos (by omega) (evnow _)
 ·obtain ⟨hu, hue⟩ := fndF_mem h1
  obtain ⟨u, rfl⟩ : ∃ u : Nat, up = (u : Int) := ⟨fndF G up, hue.symm⟩
  rw [fndF_nat (by have := hu; rw [show fndF G (u : Int) = u by omega] at this; exact this)] at h1 hu
  obtain ⟨pre, post, sp⟩ := spot u G 0 g.nd hu
  rw [(spot_at sp)]
  refine ev_neg (by omega) ?_
  refine Ev.bind (kids_x g hu) ?_
  have hlen : ((sub u G).tops.map Int.ofNat).length ≤ 1000000 := by
   have := tops_few (sub u G)
   have := (spot_len sp)
   rw [List.length_map]
   omega
  have := where_l0x (u : Int) ((sub u G).tops.map Int.ofNat) kd id u at_ s hlen _ 0 0 (by rw [Nat.zero_add])
  rw [List.drop_zero] at this
  refine Ev.congr (fun k => rfl) ?_
  have e : nearF G id (u : Int) at_ = (u, (if at_ ∈ (sub u G).tops.map Int.ofNat ∧ at_ ≠ id then at_ else 0).toNat) := by
   unfold nearF
   rw [fndF_nat hu, if_neg h1]
   by_cases h2 : fndF G at_ = 0
   ·rw [if_pos h2, if_neg]
    ·rfl
    ·rintro ⟨q1, q2⟩
     obtain ⟨y, hy, rfl⟩ := List.mem_map.1 q1
     exact (fndF_zero g.ne0).1 h2 y (sub_ids u (tops_ids hy)) rfl
   ·rw [if_neg h2]
    obtain ⟨ha, hae⟩ := fndF_mem h2
    obtain ⟨a, rfl⟩ : ∃ a : Nat, at_ = (a : Int) := ⟨fndF G at_, hae.symm⟩
    have ha' : a ∈ G.ids := by have := ha; rw [show fndF G (a : Int) = a by omega] at this; exact this
    rw [fndF_nat ha']
    have hk := kids_par g.nd g.ne0 hu (x := a)
    have hm : ((a : Int) ∈ (sub u G).tops.map Int.ofNat) ↔ par a 0 G = u := by
     rw [List.mem_map]
     constructor
     ·rintro ⟨y, hy, e⟩
      have e' : y = a := Int.ofNat.inj e
      exact (hk.1 (e' ▸ hy)).2
     ·intro h; exact ⟨a, hk.2 ⟨ha', h⟩, rfl⟩
    by_cases h4 : par a 0 G ≠ u
    ·rw [if_pos h4, if_neg (fun q => h4 (hm.1 q.1))]; rfl
    ·have h4' : par a 0 G = u := Decidable.of_not_not h4
     rw [if_neg h4]
     by_cases h5 : (a : Int) = id
     ·rw [if_pos h5, if_neg (fun q => q.2 h5)]; rfl
     ·rw [if_neg h5, if_pos ⟨hm.2 h4', h5⟩]; rfl
  rw [e]
  have e2 : (((if at_ ∈ (sub u G).tops.map Int.ofNat ∧ at_ ≠ id then at_ else 0).toNat : Nat) : Int) = (if at_ ∈ (sub u G).tops.map Int.ofNat ∧ at_ ≠ id then at_ else 0) := by
   split
   ·rename_i q
    obtain ⟨y, hy, rfl⟩ := List.mem_map.1 q.1
    rfl
   ·rfl
  show Ev _ ((u : Int), ((_ : Nat) : Int), true)
  rw [e2]
  exact this
theorem at_skip {id : Int} {b : List S69} : ∀ (a : List S69) (i : Nat), (∀ q ∈ a, q.f0 ≠ id) → atFrom id (a ++ b) i = atFrom id b (i + a.length)
 | [], i, _ => rfl
 | q :: a, i, h => by
  rw [List.cons_append, atFrom, if_neg (h q List.mem_cons_self), at_skip a (i + 1) fun x hx => h x (List.mem_cons_of_mem _ hx), List.length_cons]
  congr 1; omega
theorem at_in {id : Int} {b : List S69} : ∀ (a : List S69) (i : Nat), (∃ q ∈ a, q.f0 = id) → ∃ j, j < a.length ∧ atFrom id (a ++ b) i = ((i + j : Nat) : Int)
 | [], i, h => by obtain ⟨q, hq, _⟩ := h; cases hq
 | q :: a, i, h => by
  by_cases hq : q.f0 = id
  ·exact ⟨0, by simp, by rw [List.cons_append, atFrom, if_pos hq]; rfl⟩
  ·obtain ⟨j, hj, e⟩ := at_in (id := id) (b := b) a (i + 1) (by
    obtain ⟨q', hq', e⟩ := h
    rcases List.mem_cons.1 hq' with rfl | hq'
    ·exact absurd e hq
    ·exact ⟨q', hq', e⟩)
   exact ⟨j + 1, by simp; omega, by rw [List.cons_append, atFrom, if_neg hq, e]; congr 1; omega⟩
theorem id_fl (F : Fo) (d : Nat) {y : Nat} (hy : y ∈ F.ids) : ∃ q ∈ F.fl d, q.f0 = (y : Int) := by
 have h1 : (y : Int) ∈ (F.fl d).map (·.f0) := by rw [fl_map]; exact List.mem_map.2 ⟨y, hy, rfl⟩
 obtain ⟨q, hq, e⟩ := List.mem_map.1 h1
 exact ⟨q, hq, e⟩
theorem not_fl (F : Fo) (d : Nat) {y : Nat} (hy : y ∉ F.ids) : ∀ q ∈ F.fl d, q.f0 ≠ (y : Int) := fun q hq e => by
 obtain ⟨i, hi, e2⟩ := fl_ids F d hq
 rw [e2] at e
 exact hy ((show i = y by omega) ▸ hi)
theorem under_x {G : Fo} (g : Good G) {i : Nat} (hi : i ∈ G.ids) (up : Int) : Ev (fun n => spec_l2Under.f n (G.fl 0) up (i : Int)) (decide (under i (fndF G up) G)) := by
 obtain ⟨pre, post, s⟩ := spot i G 0 g.nd hi
 have hl := spot_len s
 have hll := fl_len G 0
 have hg := g.len
 have hk : pre.length < (G.fl 0).length := by omega
 have := under_f (G.fl 0) up (i : Int) pre.length hk (spot_at s) (by omega)
 rw [spot_end s] at this
 suffices e : decide (under i (fndF G up) G) = (decide (0 ≤ atI (G.fl 0) up) && (decide ((pre.length : Int) ≤ atI (G.fl 0) up) && decide (atI (G.fl 0) up ≤ ((pre.length + 1 + (sub i G).ids.length : Nat) : Int) - 1))) by
  rw [e]; exact this
 clear this
 by_cases h0 : fndF G up = 0
 ·have hu : ¬ under i (fndF G up) G := by
   rw [h0]
   rintro ⟨_, h | h⟩
   ·exact g.ne0 i hi h.symm
   ·exact g.ne0 0 (sub_ids i h) rfl
  rw [decide_eq_false hu, at_fnd0 h0 g.ne0]
  simp
 ·obtain ⟨hu, hue⟩ := fndF_mem h0
  obtain ⟨y, rfl⟩ : ∃ y : Nat, up = (y : Int) := ⟨fndF G up, hue.symm⟩
  have hy : y ∈ G.ids := by have := hu; rw [show fndF G (y : Int) = y by omega] at this; exact this
  rw [fndF_nat hy]
  have hperm := ids_del i G g.nd hi
  have hnd := hperm.nodup_iff.1 g.nd
  obtain ⟨n1, n2⟩ := List.nodup_cons.1 hnd
  obtain ⟨n3, n4, n5⟩ := List.nodup_append.1 n2
  have hal : atI (G.fl 0) (y : Int) = atFrom (y : Int) (pre ++ (⟨(i : Int), (dep i 0 G : Int), txtF i G⟩ :: ((sub i G).fl (dep i 0 G + 1) ++ post))) 0 := by rw [← s.all]; rfl
  by_cases hyi : y = i
  ·rw [decide_eq_true (show under i y G from ⟨hi, Or.inl hyi⟩), hyi, spot_at s]
   have : ((pre.length : Int) ≤ ((pre.length + 1 + (sub i G).ids.length : Nat) : Int) - 1) := by omega
   simp only [Int.natCast_nonneg, decide_true, Int.le_refl, this, Bool.and_self]
  ·by_cases hys : y ∈ (sub i G).ids
   ·rw [decide_eq_true (show under i y G from ⟨hi, Or.inr hys⟩)]
    have hyd : y ∉ (del i G).ids := fun q => n5 y hys y q rfl
    have hout : ∀ q ∈ pre ++ post, q.f0 ≠ (y : Int) := by rw [← s.del]; exact not_fl _ _ hyd
    obtain ⟨j, hj, e⟩ := at_in (id := (y : Int)) (b := post) ((sub i G).fl (dep i 0 G + 1)) (0 + pre.length + 1) (id_fl _ _ hys)
    rw [fl_len] at hj
    rw [hal, at_skip pre 0 (fun q hq => hout q (List.mem_append_left _ hq)), atFrom, if_neg (show (i : Int) ≠ (y : Int) by omega), e]
    have a1 : (0 : Int) ≤ ((0 + pre.length + 1 + j : Nat) : Int) := by omega
    have a2 : (pre.length : Int) ≤ ((0 + pre.length + 1 + j : Nat) : Int) := by omega
    have a3 : ((0 + pre.length + 1 + j : Nat) : Int) ≤ ((pre.length + 1 + (sub i G).ids.length : Nat) : Int) - 1 := by omega
    rw [decide_eq_true a1, decide_eq_true a2, decide_eq_true a3]; rfl
   ·have hnu : ¬ under i y G := by
     rintro ⟨_, h | h⟩
     ·exact hyi h
     ·exact hys h
    rw [decide_eq_false hnu]
    have hyd : y ∈ (del i G).ids := by
     have := hperm.mem_iff.1 hy
     simp only [List.mem_cons, List.mem_append] at this
     rcases this with q | q | q
     ·exact absurd q hyi
     ·exact absurd q hys
     ·exact q
    obtain ⟨q, hq, hqe⟩ := id_fl (del i G) 0 hyd
    rw [s.del] at hq
    by_cases hpre : ∃ q ∈ pre, q.f0 = (y : Int)
    ·obtain ⟨j, hj, e⟩ := at_in (id := (y : Int)) (b := (⟨(i : Int), (dep i 0 G : Int), txtF i G⟩ : S69) :: ((sub i G).fl (dep i 0 G + 1) ++ post)) pre 0 hpre
     rw [hal, e, decide_eq_false (show ¬ (pre.length : Int) ≤ ((0 + j : Nat) : Int) by omega)]
     simp
    ·have hpre' : ∀ q ∈ pre, q.f0 ≠ (y : Int) := fun q hq e => hpre ⟨q, hq, e⟩
     have hpost : ∃ q ∈ post, q.f0 = (y : Int) := by
      rcases List.mem_append.1 hq with h | h
      ·exact absurd hqe (hpre' q h)
      ·exact ⟨q, h, hqe⟩
     obtain ⟨j, hj, e⟩ := at_in (id := (y : Int)) (b := []) post (0 + pre.length + 1 + ((sub i G).fl (dep i 0 G + 1)).length) hpost
     rw [List.append_nil] at e
     rw [hal, at_skip pre 0 hpre', atFrom, if_neg (show (i : Int) ≠ (y : Int) by omega), at_skip _ _ (not_fl _ _ hys), e, fl_len]
     rw [decide_eq_false (show ¬ ((0 + pre.length + 1 + (sub i G).ids.length + j : Nat) : Int) ≤ ((pre.length + 1 + (sub i G).ids.length : Nat) : Int) - 1 by omega)]
     simp
theorem fl_shift : ∀ (F : Fo) (d d' : Nat) (δ : Int), (d' : Int) = d + δ → d' + F.ids.length ≤ 1000000 → (F.fl d).map (shift δ) = F.fl d'
 | .nil, _, _, _, _, _ => rfl
 | .nd i t k n, d, d', δ, h, hl => by
  simp only [Fo.ids, List.length_cons, List.length_append] at hl
  simp only [Fo.fl, List.map_cons, List.map_append]
  rw [fl_shift k (d + 1) (d' + 1) δ (by omega) (by omega), fl_shift n d d' δ h (by omega)]
  congr 1
  show (⟨(i : Int), wrap64 ((d : Int) + δ), t⟩ : S69) = _
  rw [wrap_id _ (by omega) (by omega), h]
theorem put_x (t rows : List S69) (u a : Int) (hl : t.length ≤ 1000000) (hr : rows.length ≤ 1000000) (h0 : 0 < rows.length) (j : Nat) (hj : j < t.length) (e1 : atI t u = (j : Int)) (p : Nat)
  (hc : (a > 0 ∧ ∃ i : Nat, i < t.length ∧ atI t a = (i : Int) ∧ p = endI t i) ∨ (¬ a > 0 ∧ p = j + 1)) :
  Ev (fun k => spec_l3Put.f k t rows u a) (t.take p ++ rows.map (shift (wrap64 (wrap64 (t[j].f1 + 1) - rows[0].f1))) ++ t.drop p) := by
 have fin : ∀ (p : Nat), p ≤ t.length → Ev (fun k => spec_l3Put.j0 k t rows (wrap64 (wrap64 (t[j].f1 + 1) - rows[0].f1)) p) (t.take p ++ rows.map (shift (wrap64 (wrap64 (t[j].f1 + 1) - rows[0].f1))) ++ t.drop p) := fun p hp => by
  refine Ev.step (fun k => by simp only [spec_l3Put.j0]; rfl) ?_
  simp only [Option.bind_some]
  refine ev_pos (by omega) (ev_pos (by omega) ?_)
  refine ev_pos (by simp; omega) ?_
  simp only [List.nil_append, Int.toNat_natCast]
  have := put_l0 t rows (wrap64 (wrap64 (t[j].f1 + 1) - rows[0].f1)) p hp hl hr rows.length 0 (t.take p) (by omega) (by rw [List.length_take]; omega)
  simpa using this
 have r0 : rd_T69 rows 0 = rows[0] := rdR_get rows 0 h0
 rcases hc with ⟨h, i, hi, e3, rfl⟩ | ⟨h, rfl⟩
 ·obtain ⟨_, e5, _, _⟩ := endI_spec t i hi
  unfold spec_l3Put.f
  refine Ev.bind (at_f t u (by omega)) ?_
  rw [e1]
  refine ev_pos (by omega) (ev_pos (by omega) (ev_pos (by omega) (ev_pos h ?_)))
  refine Ev.bind (at_f t a (by omega)) ?_
  rw [e3]
  refine Ev.bind (end_f t i hi (by omega)) ?_
  rw [rdR_get t j hj, r0]
  exact fin _ e5
 ·unfold spec_l3Put.f
  refine Ev.bind (at_f t u (by omega)) ?_
  rw [e1]
  refine ev_pos (by omega) (ev_pos (by omega) (ev_pos (by omega) (ev_neg h ?_)))
  rw [rdR_get t j hj, r0, wrapS j (by omega) (by omega)]
  exact fin (j + 1) (by omega)
theorem put_F {G : Fo} (hn : G.ids.Nodup) (h0 : ∀ x ∈ G.ids, x ≠ 0) (hlen : G.ids.length ≤ 1000) (p : Nat × Nat) (hu : p.1 ∈ G.ids) (ha : p.2 = 0 ∨ (p.2 ∈ G.ids ∧ par p.2 0 G = p.1)) (i di : Nat) (t : ByteArray) (s : Fo) (hd : di ≤ 1000) (hs : s.ids.length ≤ 1000) :
  Ev (fun k => spec_l3Put.f k (G.fl 0) (⟨(i : Int), (di : Int), t⟩ :: s.fl (di + 1)) (p.1 : Int) (p.2 : Int)) ((putF G p i t s).fl 0) := by
 obtain ⟨u, a⟩ := p
 simp only at hu ha ⊢
 obtain ⟨pre, post, sp⟩ := spot u G 0 hn hu
 have hl := spot_len sp
 have hll := fl_len G 0
 have hj : pre.length < (G.fl 0).length := by omega
 have hdu := dep_le u G 0 hn hu
 have hrl : ((⟨(i : Int), (di : Int), t⟩ : S69) :: s.fl (di + 1)).length ≤ 1000000 := by rw [List.length_cons, fl_len]; omega
 have hδ : wrap64 (wrap64 (((G.fl 0)[pre.length]'hj).f1 + 1) - (((⟨(i : Int), (di : Int), t⟩ : S69) :: s.fl (di + 1))[0]'(by simp)).f1) = (dep u 0 G : Int) + 1 - di := by
  rw [spot_get sp hj]
  show wrap64 (wrap64 ((dep u 0 G : Int) + 1) - (di : Int)) = _
  rw [wrap_id ((dep u 0 G : Int) + 1) (by omega) (by omega), wrap_id _ (by omega) (by omega)]
 have hrows : ((⟨(i : Int), (di : Int), t⟩ : S69) :: s.fl (di + 1)).map (shift ((dep u 0 G : Int) + 1 - di)) = ⟨(i : Int), ((dep u 0 G + 1 : Nat) : Int), t⟩ :: s.fl (dep u 0 G + 2) := by
  rw [List.map_cons, fl_shift s (di + 1) (dep u 0 G + 2) _ (by omega) (by omega)]
  congr 1
  show (⟨(i : Int), wrap64 ((di : Int) + ((dep u 0 G : Int) + 1 - di)), t⟩ : S69) = _
  rw [wrap_id _ (by omega) (by omega)]
  congr 1; omega
 unfold putF
 by_cases ha0 : a = 0
 ·subst ha0
  rw [if_pos rfl]
  have := put_x (G.fl 0) (⟨(i : Int), (di : Int), t⟩ :: s.fl (di + 1)) (u : Int) ((0 : Nat) : Int) (by omega) hrl (by simp) pre.length hj (spot_at sp) (pre.length + 1) (Or.inr ⟨by omega, rfl⟩)
  rw [hδ, hrows] at this
  have e1 : (G.fl 0).take (pre.length + 1) = pre ++ [⟨(u : Int), (dep u 0 G : Int), txtF u G⟩] := by
   rw [sp.all, show pre ++ (⟨(u : Int), (dep u 0 G : Int), txtF u G⟩ :: ((sub u G).fl (dep u 0 G + 1) ++ post)) = (pre ++ [⟨(u : Int), (dep u 0 G : Int), txtF u G⟩]) ++ ((sub u G).fl (dep u 0 G + 1) ++ post) by simp]
   exact List.take_left' (by simp)
  have e2 : (G.fl 0).drop (pre.length + 1) = (sub u G).fl (dep u 0 G + 1) ++ post := by
   rw [sp.all, List.drop_append]; simp
  rw [e1, e2] at this
  rw [sp.first]
  simpa using this
 ·rw [if_neg ha0]
  obtain ⟨haG, hap⟩ := ha.resolve_left ha0
  obtain ⟨pre', post', sa⟩ := spot a G 0 hn haG
  have hl' := spot_len sa
  have hda : dep a 0 G = dep u 0 G + 1 := by
   rcases dep_par a G 0 0 hn haG with ⟨_, _, h⟩ | ⟨_, h⟩
   ·rw [hap] at h; exact absurd h (h0 u hu)
   ·rw [h, hap]
  have := put_x (G.fl 0) (⟨(i : Int), (di : Int), t⟩ :: s.fl (di + 1)) (u : Int) (a : Int) (by omega) hrl (by simp) pre.length hj (spot_at sp) (pre'.length + 1 + (sub a G).ids.length) (Or.inl ⟨by omega, pre'.length, by omega, spot_at sa, (spot_end sa).symm⟩)
  rw [hδ, hrows] at this
  have e0 : (sub a G).ids.length = ((sub a G).fl (dep a 0 G + 1)).length := (fl_len _ _).symm
  have e1 : (G.fl 0).take (pre'.length + 1 + (sub a G).ids.length) = pre' ++ ⟨(a : Int), (dep a 0 G : Int), txtF a G⟩ :: (sub a G).fl (dep a 0 G + 1) := by
   rw [sa.all, e0, show pre' ++ (⟨(a : Int), (dep a 0 G : Int), txtF a G⟩ :: ((sub a G).fl (dep a 0 G + 1) ++ post')) = (pre' ++ ⟨(a : Int), (dep a 0 G : Int), txtF a G⟩ :: (sub a G).fl (dep a 0 G + 1)) ++ post' by simp]
   exact List.take_left' (by simp; omega)
  have e2 : (G.fl 0).drop (pre'.length + 1 + (sub a G).ids.length) = post' := by
   rw [sa.all, e0, show pre' ++ (⟨(a : Int), (dep a 0 G : Int), txtF a G⟩ :: ((sub a G).fl (dep a 0 G + 1) ++ post')) = (pre' ++ ⟨(a : Int), (dep a 0 G : Int), txtF a G⟩ :: (sub a G).fl (dep a 0 G + 1)) ++ post' by simp]
   exact List.drop_left' (by simp; omega)
  rw [e1, e2] at this
  rw [sa.after, hda, show dep u 0 G + 1 + 1 = dep u 0 G + 2 by omega]
  rw [hda] at this
  simpa using this
theorem set_mid {pre rest : List S69} {r r' : S69} : (pre ++ r :: rest).set pre.length r' = pre ++ r' :: rest := by
 rw [List.set_append_right _ _ (Nat.le_refl _), Nat.sub_self, List.set_cons_zero]
theorem where_x {G : Fo} (g : Good G) (kd : Int) (i : Nat) (hi0 : i ≠ 0) (up at_ : Int) (s : ByteArray) (hk : kd = 1 ∨ kd = 3) :
  Ev (fun n => spec_l3Where.f n (G.fl 0) kd (i : Int) up at_ s) (if (kd = 1 ∧ i ∉ G.ids) ∨ (kd = 3 ∧ i ∈ G.ids ∧ ¬ under i (fndF G up) G) then (((nearF G (i : Int) up at_).1 : Int), ((nearF G (i : Int) up at_).2 : Int), true) else (0, 0, false)) := by
 have none_ : ∀ f : Nat → Option (Int × Int × Bool), (∀ n, f n = spec_l3Where.j0 n (G.fl 0) true kd (i : Int) up at_ s) → Ev f (0, 0, false) := fun f hf =>
  Ev.congr hf (Ev.step (f := fun _ => some (0, 0, false)) (fun n => by simp only [spec_l3Where.j0, if_true]) (evnow _))
 have hll := fl_len G 0
 have hg := g.len
 have h2 : kd ≠ 2 := by rcases hk with rfl | rfl <;> decide
 unfold spec_l3Where.f
 refine Ev.bind (at_f (G.fl 0) i (by omega)) (ev_neg h2 ?_)
 by_cases hi : i ∈ G.ids
 ·obtain ⟨pre, post, sp⟩ := spot i G 0 g.nd hi
  rw [spot_at sp]
  have hd : decide ((pre.length : Int) ≥ 0) = true := decide_eq_true (by omega)
  rw [hd]
  rcases hk with rfl | rfl
  ·rw [if_neg (show ¬ ((1 : Int) = 1 ∧ i ∉ G.ids ∨ (1 : Int) = 3 ∧ i ∈ G.ids ∧ ¬ under i (fndF G up) G) by simp [hi])]
   exact ev_pos (by decide) (none_ _ fun n => rfl)
  ·refine ev_neg (by decide) (ev_pos (by omega) ?_)
   refine Ev.bind (under_x g hi up) ?_
   by_cases hu : under i (fndF G up) G
   ·rw [if_neg (by simp [hu])]
    exact none_ _ fun n => by simp only [decide_eq_true hu]
   ·rw [if_pos (Or.inr ⟨rfl, hi, hu⟩)]
    exact Ev.congr (fun n => by simp only [decide_eq_false hu]) (near_x g 3 (i : Int) up at_ s)
 ·have hf : fndF G (i : Int) = 0 := (fndF_zero g.ne0).2 fun y hy e => hi ((show y = i by omega) ▸ hy)
  rw [at_fnd0 hf g.ne0]
  rcases hk with rfl | rfl
  ·rw [if_pos (Or.inl ⟨rfl, hi⟩)]
   refine ev_neg (by decide) (ev_neg (by decide) ?_)
   exact near_x g 1 (i : Int) up at_ s
  ·rw [if_neg (by simp [hi])]
   exact ev_pos (by decide) (none_ _ fun n => rfl)
theorem fndF_cases {G : Fo} (g : Good G) (i : Nat) : (i ∈ G.ids ∧ fndF G (i : Int) = i) ∨ (i ∉ G.ids ∧ fndF G (i : Int) = 0) := by
 by_cases hi : i ∈ G.ids
 ·exact Or.inl ⟨hi, fndF_nat hi⟩
 ·exact Or.inr ⟨hi, (fndF_zero g.ne0).2 fun y hy e => hi ((show y = i by omega) ▸ hy)⟩
theorem do_x {G : Fo} (g : Good G) (kd : Int) (i : Nat) (hi0 : i ≠ 0) (hit : i ∉ G.tops) (up at_ : Int) (s : ByteArray) (hk : kd = 1 ∨ kd = 2 ∨ kd = 3) :
  Ev (fun n => spec_l3Do.f n (G.fl 0) kd (i : Int) up at_ s) ((doF G kd (i : Int) up at_ s).fl 0) := by
 have hll := fl_len G 0
 have hg := g.len
 have same : ∀ f : Nat → Option (List S69), (∀ n, f n = ((some (([] : List S69) : List S69)).bind fun y => (if y.length + (G.fl 0).length < 4398046511104 then (some (y ++ G.fl 0)) else none))) → Ev f (G.fl 0) := fun f hf => Ev.congr hf (by
  simp only [Option.bind_some, List.nil_append]
  exact ev_pos (by simp; omega) (evnow _))
 unfold spec_l3Do.f doF
 rcases hk with rfl | rfl | rfl
 ·rw [if_neg (by decide), if_pos rfl]
  refine Ev.bind (at_f (G.fl 0) i (by omega)) (ev_neg (by decide) ?_)
  refine Ev.bind (where_x g 1 i hi0 up at_ s (Or.inl rfl)) ?_
  rcases fndF_cases g i with ⟨hi, hf⟩ | ⟨hi, hf⟩
  ·rw [hf, if_neg hi0, if_neg (by simp [hi])]
   exact ev_neg (by simp) (same _ fun n => rfl)
  ·rw [hf, if_pos rfl, if_pos (Or.inl ⟨rfl, hi⟩)]
   refine ev_pos rfl (ev_pos rfl ?_)
   have hp := near_ok (G := G) (tops_ids g.three) (i : Int) up at_
   have := put_F g.nd g.ne0 hg (nearF G (i : Int) up at_) hp.up (hp.at_.imp id fun ⟨a1, a2, _⟩ => ⟨a1, a2⟩) i 0 s .nil (by omega) (by simp [Fo.ids])
   exact Ev.bind this (evnow _)
 ·rw [if_pos rfl]
  refine Ev.bind (at_f (G.fl 0) i (by omega)) (ev_pos rfl ?_)
  simp only [Option.bind_some]
  refine ev_pos (by simp; omega) ?_
  rcases fndF_cases g i with ⟨hi, hf⟩ | ⟨hi, hf⟩
  ·rw [hf, if_neg hi0]
   obtain ⟨pre, post, sp⟩ := spot i G 0 g.nd hi
   have hl := spot_len sp
   have hj : pre.length < (G.fl 0).length := by omega
   rw [spot_at sp]
   simp only [List.nil_append, Int.toNat_natCast, rdR_get (G.fl 0) pre.length hj]
   refine ev_pos (by omega) (ev_pos (by omega) (ev_pos (by omega) ?_))
   have : (G.fl 0).set pre.length (⟨((G.fl 0)[pre.length]'hj).f0, ((G.fl 0)[pre.length]'hj).f1, s⟩ : S69) = (setF i s G).fl 0 := by
    rw [spot_get sp hj, sp.text, sp.all]
    exact set_mid
   rw [this]
   exact evnow _
  ·rw [hf, if_pos rfl, at_fnd0 hf g.ne0]
   simp only [List.nil_append]
   exact ev_neg (by omega) (evnow _)
 ·rw [if_neg (by decide), if_neg (by decide)]
  refine Ev.bind (at_f (G.fl 0) i (by omega)) (ev_neg (by decide) ?_)
  refine Ev.bind (where_x g 3 i hi0 up at_ s (Or.inr rfl)) ?_
  rcases fndF_cases g i with ⟨hi, hf⟩ | ⟨hi, hf⟩
  ·rw [hf, if_neg hi0]
   by_cases hu : under i (fndF G up) G
   ·rw [if_pos hu, if_neg (by simp [hu])]
    exact ev_neg (by simp) (same _ fun n => rfl)
   ·rw [if_neg hu, if_pos (Or.inr ⟨rfl, hi, hu⟩)]
    obtain ⟨pre, post, sp⟩ := spot i G 0 g.nd hi
    have hl := spot_len sp
    have hj : pre.length < (G.fl 0).length := by omega
    rw [spot_at sp]
    refine ev_pos rfl (ev_neg (by decide) ?_)
    refine Ev.bind (end_f (G.fl 0) pre.length hj (by omega)) ?_
    rw [spot_end sp]
    have e0 : (sub i G).ids.length = ((sub i G).fl (dep i 0 G + 1)).length := (fl_len _ _).symm
    have eall : G.fl 0 = (pre ++ ⟨(i : Int), (dep i 0 G : Int), txtF i G⟩ :: (sub i G).fl (dep i 0 G + 1)) ++ post := by rw [sp.all]; simp
    have eT : (G.fl 0).take (pre.length + 1 + (sub i G).ids.length) = pre ++ ⟨(i : Int), (dep i 0 G : Int), txtF i G⟩ :: (sub i G).fl (dep i 0 G + 1) := by
     rw [eall, e0]; exact List.take_left' (by simp; omega)
    have eD : (G.fl 0).drop (pre.length + 1 + (sub i G).ids.length) = post := by
     rw [eall, e0]; exact List.drop_left' (by simp; omega)
    have eP : (G.fl 0).take pre.length = pre := by rw [sp.all]; exact List.take_left' rfl
    have eM : (pre ++ (⟨(i : Int), (dep i 0 G : Int), txtF i G⟩ : S69) :: (sub i G).fl (dep i 0 G + 1)).drop pre.length = ⟨(i : Int), (dep i 0 G : Int), txtF i G⟩ :: (sub i G).fl (dep i 0 G + 1) := List.drop_left' rfl
    simp only [Option.bind_some, Int.toNat_natCast]
    refine ev_pos (by omega) (ev_pos (by omega) (ev_pos (by omega) ?_))
    refine ev_pos (by rw [List.length_drop, List.length_take]; simp; omega) ?_
    refine ev_pos (by omega) ?_
    refine ev_pos (by rw [List.length_take]; simp; omega) ?_
    refine ev_pos (by omega) ?_
    refine ev_pos (by rw [List.length_append, List.length_take, List.length_drop]; simp; omega) ?_
    simp only [List.nil_append]
    rw [eT, eM, eP, eD, ← sp.del]
    obtain ⟨h, hr⟩ := reptop_ex G g.nd g.ne0
    have hp := near_del hr g.nd g.three hi hit (id := (i : Int)) (up := up) (at_ := at_) rfl hu
    have hperm := ids_del i G g.nd hi
    obtain ⟨n1, n2⟩ := List.nodup_cons.1 (hperm.nodup_iff.1 g.nd)
    obtain ⟨n3, n4, n5⟩ := List.nodup_append.1 n2
    have hlens := hperm.length_eq
    simp only [List.length_cons, List.length_append] at hlens
    have hd := dep_le i G 0 g.nd hi
    have := put_F (G := FP.del i G) n4 (fun x hx => g.ne0 x (del_ids_sub i hx)) (by omega) (nearF G (i : Int) up at_) hp.1 (hp.2.imp id fun ⟨a1, a2, _⟩ => ⟨a1, by
     rw [par_del i _ G 0 g.nd a1, ← reptop_par hr g.nd (del_ids_sub i a1)]; exact a2⟩) i (dep i 0 G) (txtF i G) (sub i G) (by omega) (by omega)
    exact Ev.bind this (evnow _)
  ·rw [hf, if_pos rfl, if_neg (by simp [hi])]
   exact ev_neg (by simp) (same _ fun n => rfl)
theorem good_fold : ∀ (l : List S69) (G : Fo) (seen : List Int) (roots : Nat), treeGo seen (roots : Int) ((dpth G : Int) - 1) l = true → G.ids.Nodup → (∀ x ∈ G.ids, x ≠ 0 ∧ x < 37 ∧ (x : Int) ∈ seen) → G.tops = List.range' 1 roots →
  (l.foldl (fun G x => snoc x.f0.toNat x.f2 x.f1.toNat G) G).ids.Nodup ∧ (∀ x ∈ (l.foldl (fun G x => snoc x.f0.toNat x.f2 x.f1.toNat G) G).ids, x ≠ 0 ∧ x < 37) ∧ (l.foldl (fun G x => snoc x.f0.toNat x.f2 x.f1.toNat G) G).tops = [1, 2, 3]
 | [], G, seen, roots, h, hn, hs, ht => by
  unfold treeGo at h
  have h3 := of_decide_eq_true h
  refine ⟨hn, fun x hx => ⟨(hs x hx).1, (hs x hx).2.1⟩, ?_⟩
  show G.tops = _
  rw [ht, show roots = 3 by omega]; rfl
 | x :: l, G, seen, roots, h, hn, hs, ht => by
  unfold treeGo at h
  simp only [Bool.and_eq_true, decide_eq_true_eq] at h
  obtain ⟨hrow, hns, hdep, hrest⟩ := h
  obtain ⟨b0, b37, d0, d18⟩ := rowB_id hrow
  have he : x.f1.toNat ≤ dpth G := by omega
  have hd : ((dpth (snoc x.f0.toNat x.f2 x.f1.toNat G) : Int) - 1) = x.f1 := by rw [snoc_dpth _ _ G _ he]; omega
  have hx0 : x.f0.toNat ≠ 0 := by
   intro e
   have e2 : x.f0 = 0 := by omega
   unfold rowB at hrow
   rw [e2] at hrow
   have r0 : rootB (0 : Int) = false := by decide
   have m0 : madeB (0 : Int) = false := by decide
   simp [r0, m0] at hrow
  have hi : x.f0.toNat ∉ G.ids := fun hc => hns (by have := (hs _ hc).2.2; rwa [show ((x.f0.toNat : Nat) : Int) = x.f0 by omega] at this)
  have hn2 : (snoc x.f0.toNat x.f2 x.f1.toNat G).ids.Nodup := by
   rw [snoc_ids]
   exact List.nodup_append.2 ⟨hn, by simp, fun a ha b hb e => by rw [List.mem_singleton.1 hb] at e; exact hi (e ▸ ha)⟩
  have hs2 : ∀ y ∈ (snoc x.f0.toNat x.f2 x.f1.toNat G).ids, y ≠ 0 ∧ y < 37 ∧ (y : Int) ∈ x.f0 :: seen := fun y hy => by
   rw [snoc_ids] at hy
   rcases List.mem_append.1 hy with hy | hy
   ·obtain ⟨q1, q2, q3⟩ := hs y hy; exact ⟨q1, q2, List.mem_cons_of_mem _ q3⟩
   ·rw [List.mem_singleton.1 hy]
    exact ⟨hx0, by omega, by rw [show ((x.f0.toNat : Nat) : Int) = x.f0 by omega]; exact List.mem_cons_self⟩
  rw [List.foldl_cons]
  by_cases hroot : rootB x.f0 = true
  ·rw [if_pos hroot, Bool.and_eq_true, decide_eq_true_eq] at hrest
   have hd0 : x.f1 = 0 := by
    unfold rowB at hrow
    rw [if_pos hroot] at hrow
    simp only [Bool.and_eq_true, decide_eq_true_eq] at hrow
    exact hrow.1
   refine good_fold l _ (x.f0 :: seen) (roots + 1) ?_ hn2 hs2 ?_
   ·rw [hd]; exact hrest.2
   ·rw [snoc_tops _ _ G _ he, if_pos (by omega), ht, List.range'_concat]
    rw [show x.f0.toNat = 1 + 1 * roots by omega]
  ·rw [if_neg hroot] at hrest
   have hd1 : 1 ≤ x.f1 := by
    unfold rowB at hrow
    rw [if_neg hroot] at hrow
    simp only [Bool.and_eq_true, decide_eq_true_eq] at hrow
    exact hrow.2.1
   refine good_fold l _ (x.f0 :: seen) roots ?_ hn2 hs2 ?_
   ·rw [hd]; exact hrest
   ·rw [snoc_tops _ _ G _ he, if_neg (by omega), ht]
theorem good_of {l : List S69} (h : treeB l = true) : Good (toFo l) := by
 obtain ⟨h1, h2, h3⟩ := good_fold l .nil [] 0 h (by simp [Fo.ids]) (by simp [Fo.ids]) rfl
 exact ⟨h1, fun x hx => (h2 x hx).1, h3, by have := nodup_len 37 _ h1 (fun x hx => (h2 x hx).2); unfold toFo; omega⟩
theorem opB_kind {k i u a : Int} {s : ByteArray} (h : opB k i u a s = true) : k = 1 ∨ k = 2 ∨ k = 3 := by
 unfold opB at h
 by_cases h1 : k = 1
 ·exact Or.inl h1
 ·by_cases h2 : k = 2
  ·exact Or.inr (Or.inl h2)
  ·by_cases h3 : k = 3
   ·exact Or.inr (Or.inr h3)
   ·rw [if_neg h1, if_neg h2, if_neg h3] at h; simp at h
def opDoR (l : List S69) (k i u a : Int) (s : ByteArray) : List S69 := if opB k i u a s = true then (if treeB l = true then (doF (toFo l) k i u a s).fl 0 else []) else []
theorem iopDo_f (l : List S69) (k i u a : Int) (s : ByteArray) (hs : s.size ≤ 9223372036854775807) : Ev (fun n => impl_OpDo.f n l k i u a s) (opDoR l k i u a s) := by
 unfold impl_OpDo.f opDoR
 exact Ev.bind (opOk_f k i u a s hs) (evnow _)
def okT (x : Nat) (t : ByteArray) : Bool := if rootB (x : Int) then (t.toList == ([] : List UInt8)) else madeB (x : Int) && textB t
structure Val (G : Fo) : Prop where
 nd : G.ids.Nodup
 tops : G.tops = [1, 2, 3]
 ok : ∀ x ∈ G.ids, okT x (txtF x G) = true
theorem okT_ne {x : Nat} {t : ByteArray} (h : okT x t = true) : 1 ≤ x ∧ x < 37 := by
 unfold okT at h
 by_cases hr : rootB (x : Int) = true
 ·unfold rootB at hr; simp only [Bool.and_eq_true, decide_eq_true_eq] at hr; omega
 ·rw [if_neg hr, Bool.and_eq_true] at h
  have := made_small _ h.1
  obtain ⟨m, hm, h4, h37⟩ := made_num h.1
  omega
theorem Val.ne0 {G : Fo} (v : Val G) : ∀ x ∈ G.ids, x ≠ 0 := fun x hx => by have := okT_ne (v.ok x hx); omega
theorem Val.three {G : Fo} (v : Val G) : 3 ∈ G.tops := by rw [v.tops]; simp
theorem made_not_root {x : Int} (h : madeB x = true) : rootB x = false := by
 obtain ⟨m, rfl, h4, h37⟩ := made_num h
 unfold rootB; simp; omega
theorem Val.top {G : Fo} (v : Val G) {x : Nat} (hm : madeB (x : Int) = true) : x ∉ G.tops := by
 have := made_not_root hm
 rw [v.tops]
 intro h
 simp only [List.mem_cons, List.not_mem_nil, or_false] at h
 rcases h with rfl | rfl | rfl <;> exact absurd this (by decide)
theorem sub_len : ∀ (l m : List Nat), l.Nodup → (∀ x ∈ l, x ∈ m) → l.length ≤ m.length
 | [], m, _, _ => Nat.zero_le _
 | x :: l, m, hn, h => by
  obtain ⟨h1, h2⟩ := List.nodup_cons.1 hn
  have := sub_len l (m.erase x) h2 fun y hy => (List.mem_erase_of_ne (fun (e : y = x) => h1 (e ▸ hy))).2 (h y (List.mem_cons_of_mem _ hy))
  rw [List.length_erase_of_mem (h x List.mem_cons_self)] at this
  have := List.length_pos_of_mem (h x List.mem_cons_self)
  simp only [List.length_cons]; omega
theorem made_list : ∀ n : Nat, n < 37 → madeB (n : Int) = true → n ∈ [11, 12, 13, 14, 15, 16, 21, 22, 23, 24, 25, 26, 31, 32, 33, 34, 35, 36] := by decide
theorem all_list : ∀ n : Nat, n < 37 → (rootB (n : Int) || madeB (n : Int)) = true → n ∈ [1, 2, 3, 11, 12, 13, 14, 15, 16, 21, 22, 23, 24, 25, 26, 31, 32, 33, 34, 35, 36] := by decide
theorem Val.len {G : Fo} (v : Val G) : G.ids.length ≤ 21 := sub_len _ [1, 2, 3, 11, 12, 13, 14, 15, 16, 21, 22, 23, 24, 25, 26, 31, 32, 33, 34, 35, 36] v.nd fun x hx => by
 have h := v.ok x hx
 have h2 := okT_ne h
 refine all_list x h2.2 ?_
 unfold okT at h
 by_cases hr : rootB (x : Int) = true
 ·rw [hr]; rfl
 ·rw [if_neg hr, Bool.and_eq_true] at h
  rw [h.1, Bool.or_true]
theorem made_of_ok {x : Nat} {t : ByteArray} (h : okT x t = true) (h3 : 4 ≤ x) : madeB (x : Int) = true ∧ textB t = true := by
 unfold okT at h
 have hr : ¬ rootB (x : Int) = true := by unfold rootB; simp; omega
 rwa [if_neg hr, Bool.and_eq_true] at h
theorem treeGo_rows : ∀ (l : List S69) (seen : List Int) (roots d : Int), treeGo seen roots d l = true → ∀ r ∈ l, rowB r = true
 | [], _, _, _, _, r, hr => by cases hr
 | x :: l, seen, roots, d, h, r, hr => by
  unfold treeGo at h
  simp only [Bool.and_eq_true] at h
  obtain ⟨h1, _, _, h2⟩ := h
  rcases List.mem_cons.1 hr with rfl | hr
  ·exact h1
  ·split at h2
   ·simp only [Bool.and_eq_true] at h2; exact treeGo_rows l _ _ _ h2.2 r hr
   ·exact treeGo_rows l _ _ _ h2 r hr
theorem row_fl {G : Fo} (hn : G.ids.Nodup) {x d : Nat} (hx : x ∈ G.ids) : (⟨(x : Int), (dep x d G : Int), txtF x G⟩ : S69) ∈ G.fl d := by
 obtain ⟨pre, post, s⟩ := spot x G d hn hx
 rw [s.all]; simp
theorem val_of {l : List S69} (h : treeB l = true) : Val (toFo l) := by
 have g := good_of h
 refine ⟨g.nd, g.tops, fun x hx => ?_⟩
 have hr := row_fl g.nd (d := 0) hx
 rw [toFo_fl h] at hr
 have := treeGo_rows l _ _ _ h _ hr
 unfold rowB at this
 unfold okT
 simp only at this
 split
 ·rename_i e; rw [if_pos e, Bool.and_eq_true] at this; exact this.2
 ·rename_i e; rw [if_neg e] at this; simp only [Bool.and_eq_true] at this; rw [this.1, this.2.2.2]; rfl
theorem go_in : ∀ (F : Fo) (d : Nat) (seen : List Int) (roots prev : Int) (rest : List S69), 1 ≤ d → (d : Int) ≤ prev + 1 → F.ids.Nodup → (∀ x ∈ F.ids, (x : Int) ∉ seen) → (∀ r ∈ F.fl d, rowB r = true ∧ rootB r.f0 = false) →
  (∀ (seen' : List Int) (prev' : Int), (d : Int) ≤ prev' + 1 → (∀ y, y ∈ seen' ↔ y ∈ seen ∨ ∃ x ∈ F.ids, y = (x : Int)) → treeGo seen' roots prev' rest = true) → treeGo seen roots prev (F.fl d ++ rest) = true
 | .nil, d, seen, roots, prev, rest, h1, hd, hn, hs, hr, k => k seen prev hd fun y => by simp [Fo.ids]
 | .nd j t k n, d, seen, roots, prev, rest, h1, hd, hn, hs, hr, kk => by
  obtain ⟨n1, n2, n3, n4, n5⟩ := nodup_nd hn
  obtain ⟨q1, q2⟩ := hr ⟨(j : Int), (d : Int), t⟩ (by simp [Fo.fl])
  simp only at q2
  rw [Fo.fl, List.cons_append, List.append_assoc]
  unfold treeGo
  simp only [q1, q2, Bool.true_and, Bool.false_eq_true, if_false]
  rw [decide_eq_true (hs j (by simp [Fo.ids])), decide_eq_true hd, Bool.true_and, Bool.true_and]
  refine go_in k (d + 1) _ roots d _ (by omega) (by omega) n3 (fun x hx => ?_) (fun r hr' => hr r (by simp [Fo.fl, hr'])) fun seen1 prev1 hp1 hs1 => ?_
  ·rw [List.mem_cons, not_or]
   exact ⟨fun e => n1 (by rw [show j = x by omega]; exact hx), hs x (by simp [Fo.ids, hx])⟩
  ·refine go_in n d seen1 roots prev1 rest h1 (by omega) n4 (fun x hx => ?_) (fun r hr' => hr r (by simp [Fo.fl, hr'])) fun seen2 prev2 hp2 hs2 => ?_
   ·rw [hs1, List.mem_cons]
    rintro ((e | e) | ⟨z, hz, e⟩)
    ·exact n2 (by rw [show j = x by omega]; exact hx)
    ·exact hs x (by simp [Fo.ids, hx]) e
    ·exact n5 z hz (by rw [show z = x by omega]; exact hx)
   ·refine kk seen2 prev2 hp2 fun y => ?_
    rw [hs2, hs1]
    simp only [Fo.ids, List.mem_cons, List.mem_append]
    constructor
    ·rintro (((e | e) | ⟨x, hx, e⟩) | ⟨x, hx, e⟩)
     ·exact Or.inr ⟨j, Or.inl rfl, e⟩
     ·exact Or.inl e
     ·exact Or.inr ⟨x, Or.inr (Or.inl hx), e⟩
     ·exact Or.inr ⟨x, Or.inr (Or.inr hx), e⟩
    ·rintro (e | ⟨x, rfl | hx | hx, e⟩)
     ·exact Or.inl (Or.inl (Or.inr e))
     ·exact Or.inl (Or.inl (Or.inl e))
     ·exact Or.inl (Or.inr ⟨x, hx, e⟩)
     ·exact Or.inr ⟨x, hx, e⟩
theorem fl_get {F : Fo} {d : Nat} {r : S69} (hn : F.ids.Nodup) (h : r ∈ F.fl d) : ∃ x ∈ F.ids, r = ⟨(x : Int), (dep x d F : Int), txtF x F⟩ := by
 obtain ⟨x, hx, e⟩ := fl_ids F d h
 obtain ⟨pre, post, s⟩ := spot x F d hn hx
 refine ⟨x, hx, ?_⟩
 have hm := fl_map F d
 have hnd : ((F.fl d).map (·.f0)).Nodup := by
  rw [hm]
  exact (List.pairwise_map.2 (List.Pairwise.imp (fun {a b} (hne : a ≠ b) => (by intro e2; exact hne (Int.ofNat.inj e2) : Int.ofNat a ≠ Int.ofNat b)) hn))
 rw [s.all] at h hnd
 rw [List.map_append, List.map_cons, List.nodup_append] at hnd
 obtain ⟨_, h2, h3⟩ := hnd
 rcases List.mem_append.1 h with h | h
 ·exact absurd e (s.out r h)
 ·rcases List.mem_cons.1 h with h | h
  ·exact h
  ·exfalso
   refine (List.nodup_cons.1 h2).1 ?_
   rw [← e]
   exact List.mem_map.2 ⟨r, h, rfl⟩
theorem three_shape {G : Fo} (h : G.tops = [1, 2, 3]) : ∃ t1 k1 t2 k2 t3 k3, G = .nd 1 t1 k1 (.nd 2 t2 k2 (.nd 3 t3 k3 .nil)) := by
 match G, h with
 | .nd a t1 k1 (.nd b t2 k2 (.nd c t3 k3 .nil)), h =>
  simp only [Fo.tops, List.cons.injEq, and_true] at h
  obtain ⟨rfl, rfl, rfl⟩ := h
  exact ⟨t1, k1, t2, k2, t3, k3, rfl⟩
theorem treeB_fl {G : Fo} (v : Val G) : treeB (G.fl 0) = true := by
 have hok := v.ok
 have hnd := v.nd
 obtain ⟨t1, k1, t2, k2, t3, k3, rfl⟩ := three_shape v.tops
 obtain ⟨a1, a2, a3, a4, a5⟩ := nodup_nd hnd
 obtain ⟨b1, b2, b3, b4, b5⟩ := nodup_nd a4
 obtain ⟨c1, c2, c3, c4, c5⟩ := nodup_nd b4
 simp only [Fo.ids, List.mem_cons, List.mem_append, not_or, List.not_mem_nil, or_false, not_false_eq_true, and_true] at a2 a5 b2 b5
 replace a5 : ∀ x ∈ k1.ids, (x = 2 ∨ x ∈ k2.ids ∨ x = 3 ∨ x ∈ k3.ids) → False := fun x hx g => by have := a5 x hx; grind
 replace b5 : ∀ x ∈ k2.ids, (x = 3 ∨ x ∈ k3.ids) → False := fun x hx g => by have := b5 x hx; grind
 have big : ∀ k : Fo, k.ids.Nodup → (∀ x ∈ k.ids, x ≠ 1 ∧ x ≠ 2 ∧ x ≠ 3) → (∀ x ∈ k.ids, okT x (txtF x k) = true) → ∀ r ∈ k.fl 1, rowB r = true ∧ rootB r.f0 = false := by
  intro k hn hne hk r hr
  obtain ⟨x, hx, rfl⟩ := fl_get hn hr
  have h4 := hne x hx
  have h5 := okT_ne (hk x hx)
  obtain ⟨m1, m2⟩ := made_of_ok (hk x hx) (by omega)
  have mr := made_not_root m1
  have hd := fl_deep k 1 hr
  have hl := fl_le k 1 hr
  have hlen : k.ids.length ≤ 18 := sub_len _ [11, 12, 13, 14, 15, 16, 21, 22, 23, 24, 25, 26, 31, 32, 33, 34, 35, 36] hn fun y hy => by
   have g4 := hne y hy
   have g5 := okT_ne (hk y hy)
   exact made_list y g5.2 (made_of_ok (hk y hy) (by omega)).1
  simp only at hd hl
  refine ⟨?_, mr⟩
  unfold rowB
  simp only [mr, Bool.false_eq_true, if_false, m1, m2, Bool.true_and, Bool.and_true]
  rw [decide_eq_true (by omega), decide_eq_true (by omega)]; rfl
 have root : ∀ (x : Nat) (t : ByteArray), rootB (x : Int) = true → okT x t = true → rowB ⟨(x : Int), 0, t⟩ = true := by
  intro x t hr h
  unfold okT at h
  rw [if_pos hr] at h
  unfold rowB
  simp only [hr, if_true, h]; rfl
 have o1 : okT 1 t1 = true := by have := hok 1 (by simp [Fo.ids]); rwa [txtF, if_pos rfl] at this
 have o2 : okT 2 t2 = true := by have := hok 2 (by simp [Fo.ids]); rwa [txtF, if_neg (by decide), if_neg (fun g => a5 2 g (Or.inl rfl)), txtF, if_pos rfl] at this
 have o3 : okT 3 t3 = true := by have := hok 3 (by simp [Fo.ids]); rwa [txtF, if_neg (by decide), if_neg (fun g => a5 3 g (Or.inr (Or.inr (Or.inl rfl)))), txtF, if_neg (by decide), if_neg (fun g => b5 3 g (Or.inl rfl)), txtF, if_pos rfl] at this
 have i1 : ∀ x ∈ k1.ids, okT x (txtF x k1) = true := fun x hx => by
  have := hok x (by simp [Fo.ids, hx])
  rwa [txtF, if_neg (fun e => a1 (by rw [e]; exact hx)), if_pos hx] at this
 have i2 : ∀ x ∈ k2.ids, okT x (txtF x k2) = true := fun x hx => by
  have := hok x (by simp [Fo.ids, hx])
  rwa [txtF, if_neg (fun e => a2.2.1 (by rw [e]; exact hx)), if_neg (fun g => a5 x g (by grind)), txtF, if_neg (fun e => b1 (by rw [e]; exact hx)), if_pos hx] at this
 have i3 : ∀ x ∈ k3.ids, okT x (txtF x k3) = true := fun x hx => by
  have := hok x (by simp [Fo.ids, hx])
  rwa [txtF, if_neg (fun e => a2.2.2.2 (by rw [e]; exact hx)), if_neg (fun g => a5 x g (by grind)), txtF, if_neg (fun e => b2.2 (by rw [e]; exact hx)), if_neg (fun g => b5 x g (by grind)), txtF, if_neg (fun e => c1 (by rw [e]; exact hx)), if_pos hx] at this
 have e1 := big k1 a3 (fun x hx => ⟨fun e => a1 (e ▸ hx), fun e => a5 x hx (Or.inl e), fun e => a5 x hx (Or.inr (Or.inr (Or.inl e)))⟩) i1
 have e2 := big k2 b3 (fun x hx => ⟨fun e => a2.2.1 (e ▸ hx), fun e => b1 (e ▸ hx), fun e => b5 x hx (Or.inl e)⟩) i2
 have e3 := big k3 c3 (fun x hx => ⟨fun e => a2.2.2.2 (e ▸ hx), fun e => b2.2 (e ▸ hx), fun e => c1 (e ▸ hx)⟩) i3
 have r1 := root 1 t1 (by decide) o1
 have r2 := root 2 t2 (by decide) o2
 have r3 := root 3 t3 (by decide) o3
 simp only [Fo.fl, Nat.zero_add, List.append_nil]
 unfold treeB
 have q1 : rootB ((1 : Nat) : Int) = true := by decide
 have q2 : rootB ((2 : Nat) : Int) = true := by decide
 have q3 : rootB ((3 : Nat) : Int) = true := by decide
 unfold treeGo
 simp only [Int.natCast_zero] at r1 r2 r3 ⊢
 rw [r1, Bool.true_and, decide_eq_true (by simp), Bool.true_and, decide_eq_true (by omega), Bool.true_and, if_pos q1, decide_eq_true (by omega), Bool.true_and]
 refine go_in k1 1 _ _ _ _ (by omega) (by omega) a3 (fun x hx => ?_) e1 fun s1 p1 hp1 hs1 => ?_
 ·simp only [List.mem_cons, List.not_mem_nil, or_false]
  intro e; exact a1 (by rw [show 1 = x by omega]; exact hx)
 unfold treeGo
 have z2 : ((2 : Nat) : Int) ∉ s1 := by
  rw [hs1]; simp only [List.mem_cons, List.not_mem_nil, or_false]
  rintro (e | ⟨x, hx, e⟩)
  ·omega
  ·exact a5 x hx (Or.inl (by omega))
 simp only
 rw [r2, Bool.true_and, decide_eq_true z2, Bool.true_and, decide_eq_true (by omega), Bool.true_and, if_pos q2, decide_eq_true (by omega), Bool.true_and]
 refine go_in k2 1 _ _ _ _ (by omega) (by omega) b3 (fun x hx => ?_) e2 fun s2 p2 hp2 hs2 => ?_
 ·rw [List.mem_cons, hs1]; simp only [List.mem_cons, List.not_mem_nil, or_false]
  rintro (e | e | ⟨y, hy, e⟩)
  ·exact b1 (by rw [show 2 = x by omega]; exact hx)
  ·exact a2.2.1 (by rw [show 1 = x by omega]; exact hx)
  ·exact a5 y hy (by rw [show y = x by omega]; exact Or.inr (Or.inl hx))
 unfold treeGo
 have z3 : ((3 : Nat) : Int) ∉ s2 := by
  rw [hs2, List.mem_cons, hs1]; simp only [List.mem_cons, List.not_mem_nil, or_false]
  rintro ((e | e | ⟨x, hx, e⟩) | ⟨x, hx, e⟩)
  ·omega
  ·omega
  ·exact a5 x hx (Or.inr (Or.inr (Or.inl (by omega))))
  ·exact b5 x hx (Or.inl (by omega))
 simp only
 rw [r3, Bool.true_and, decide_eq_true z3, Bool.true_and, decide_eq_true (by omega), Bool.true_and, if_pos q3, decide_eq_true (by omega), Bool.true_and]
 rw [← List.append_nil (k3.fl 1)]
 refine go_in k3 1 _ _ _ _ (by omega) (by omega) c3 (fun x hx => ?_) e3 fun s3 p3 hp3 hs3 => ?_
 ·rw [List.mem_cons, hs2, List.mem_cons, hs1]; simp only [List.mem_cons, List.not_mem_nil, or_false]
  rintro (e | (e | e | ⟨y, hy, e⟩) | ⟨y, hy, e⟩)
  ·exact c1 (by rw [show 3 = x by omega]; exact hx)
  ·exact b2.2 (by rw [show 2 = x by omega]; exact hx)
  ·exact a2.2.2.2 (by rw [show 1 = x by omega]; exact hx)
  ·exact a5 y hy (by rw [show y = x by omega]; exact Or.inr (Or.inr (Or.inr hx)))
  ·exact b5 y hy (by rw [show y = x by omega]; exact Or.inr hx)
 unfold treeGo
 exact decide_eq_true (by omega)
theorem made_nat {k i u a : Int} {s : ByteArray} (h : opB k i u a s = true) : ∃ m : Nat, i = (m : Int) ∧ 4 ≤ m ∧ m < 37 ∧ madeB (m : Int) = true := by
 obtain ⟨m, rfl, h4, h37⟩ := made_num (opB_made k i u a s h)
 exact ⟨m, rfl, h4, h37, opB_made k _ u a s h⟩
theorem Val.does {G : Fo} (v : Val G) {k u a : Int} {i : Nat} {s : ByteArray} (h : opB k (i : Int) u a s = true) : Does G k i u a s (doF G k i u a s) :=
 FP.does v.nd v.ne0 v.three k i (v.top (opB_made _ _ _ _ _ h)) u a s (opB_kind h)
theorem opB_text {k i u a : Int} {s : ByteArray} (h : opB k i u a s = true) (hk : k = 1 ∨ k = 2) : textB s = true := by
 unfold opB at h
 simp only [Bool.and_eq_true] at h
 rcases hk with rfl | rfl
 ·rw [if_pos rfl, Bool.and_eq_true] at h; exact h.2.2
 ·rw [if_neg (by decide), if_pos rfl] at h; simp only [Bool.and_eq_true] at h; exact h.2.2
theorem okT_made {x : Nat} {t : ByteArray} (h : madeB (x : Int) = true) (ht : textB t = true) : okT x t = true := by
 unfold okT; rw [made_not_root h, h, ht]; rfl
theorem Val.done {G : Fo} (v : Val G) {k u a : Int} {i : Nat} {s : ByteArray} (h : opB k (i : Int) u a s = true) {G' : Fo} (hd : Does G k i u a s G') : Val G' := by
 have hm := opB_made _ _ _ _ _ h
 have hi0 : i ≠ 0 := by rintro rfl; exact absurd hm (by decide)
 obtain ⟨h1, h2, h3⟩ := do_tops v.nd v.ne0 hi0 (v.top hm) hd
 refine ⟨h2, h1.trans v.tops, fun x hx => ?_⟩
 cases hd with
 | text hk hi =>
  rw [setF_ids] at hx
  by_cases e : x = i
  ·subst e; rw [set_txt_eq _ _ hi]; exact okT_made hm (opB_text h (Or.inr hk))
  ·rw [set_txt_ne _ _ e]; exact v.ok x hx
 | make hk hi o =>
  rcases (o.mem x).1 hx with rfl | g | g
  ·rw [o.txt]; exact okT_made hm (opB_text h (Or.inl hk))
  ·simp [Fo.ids] at g
  ·rw [o.txt_old g]; exact v.ok x g
 | move hk hi hw o => rw [o.txt ((o.ids x).1 hx)]; exact v.ok x ((o.ids x).1 hx)
 | none hk => exact v.ok x hx
theorem Val.doF {G : Fo} (v : Val G) {k u a : Int} {i : Nat} {s : ByteArray} (h : opB k (i : Int) u a s = true) : Val (doF G k i u a s) := v.done h (v.does h)
theorem opDo_val {l : List S69} {k u a : Int} {i : Nat} {s : ByteArray} (ho : opB k (i : Int) u a s = true) (ht : treeB l = true) :
  opDoR l k i u a s = (FP.doF (toFo l) k i u a s).fl 0 ∧ treeB (opDoR l k i u a s) = true ∧ toFo (opDoR l k i u a s) = FP.doF (toFo l) k i u a s ∧ Val (FP.doF (toFo l) k i u a s) := by
 have e : opDoR l k i u a s = (FP.doF (toFo l) k i u a s).fl 0 := by unfold opDoR; rw [if_pos ho, if_pos ht]
 have v := (val_of ht).doF ho
 have ht2 : treeB (opDoR l k i u a s) = true := by rw [e]; exact treeB_fl v
 exact ⟨e, ht2, toFo_of ht2 e.symm, v⟩
def new3 : List S69 := [⟨1, 0, ⟨#[]⟩⟩, ⟨2, 0, ⟨#[]⟩⟩, ⟨3, 0, ⟨#[]⟩⟩]
def stepT (t : List S69) (e : S44) : List S69 := opDoR t e.f2.f0 e.f2.f1 e.f2.f2 e.f2.f3 e.f2.f4
def foldT (t : List S69) (l : List S44) : List S69 := l.foldl stepT t
def logT (l : List S44) : List S69 := if logB l = true then foldT new3 l else []
def opE (e : S44) : Bool := opB e.f2.f0 e.f2.f1 e.f2.f2 e.f2.f3 e.f2.f4
theorem new3_val : treeB new3 = true := by decide +kernel
theorem treeB_len {t : List S69} (ht : treeB t = true) : t.length ≤ 21 := by
 have h1 := (val_of ht).len
 have h2 := fl_len (toFo t) 0
 rw [toFo_fl ht] at h2
 omega
theorem entB_op {e : S44} (h : entB e = true) : opE e = true := by
 unfold entB at h
 simp only [Bool.and_eq_true] at h
 exact h.1.2
theorem goB_ent : ∀ (l pre : List S44), goB pre l = true → ∀ e ∈ l, entB e = true
 | [], _, _, e, he => by cases he
 | x :: l, pre, h, e, he => by
  unfold goB at h
  simp only [Bool.and_eq_true] at h
  rcases List.mem_cons.1 he with rfl | he
  ·exact h.1.1
  ·exact goB_ent l _ h.2 e he
theorem logB_ent {l : List S44} (h : logB l = true) : ∀ e ∈ l, entB e = true := by
 unfold logB at h
 rw [Bool.and_eq_true] at h
 exact goB_ent l [] h.2
theorem logB_op {l : List S44} (h : logB l = true) : ∀ e ∈ l, opE e = true := fun e he => entB_op (logB_ent h e he)
theorem sdo_f {t : List S69} {k i u a : Int} {s : ByteArray} (ho : opB k i u a s = true) (ht : treeB t = true) : Ev (fun n => spec_l3Do.f n t k i u a s) (opDoR t k i u a s) := by
 obtain ⟨m, rfl, h4, h37⟩ := made_num (opB_made k i u a s ho)
 have g := good_of ht
 have := do_x g k m (by omega) (by rw [g.tops]; simp; omega) u a s (opB_kind ho)
 rw [toFo_fl ht] at this
 rw [(opDo_val ho ht).1]
 exact this
theorem ilogT_l0 (l : List S44) (hw : wfL l) (hl : l.length ≤ 1099511627776) : ∀ (n i : Nat) (t : List S69), i + n = l.length → Ev (fun k => impl_LogTree.l0 k t l (l.length : Int) i) (foldT t (l.drop i))
 | 0, i, t, h => by
  rw [List.drop_eq_nil_of_le (by omega)]
  refine Ev.step (f := fun _ => some t) (fun k => ?_) (evnow _)
  simp only [impl_LogTree.l0]; rw [if_neg (by omega)]
 | n + 1, i, t, h => by
  have hi : i < l.length := by omega
  have hs := (hw _ (List.getElem_mem hi)).2.2.2.2.2.2
  rw [List.drop_eq_getElem_cons hi]
  refine Ev.step (f := fun k => (impl_OpDo.f k t l[i].f2.f0 l[i].f2.f1 l[i].f2.f2 l[i].f2.f3 l[i].f2.f4).bind fun t2 => impl_LogTree.l0 k t2 l (l.length : Int) ((i + 1 : Nat) : Int)) (fun k => ?_) (Ev.bind (iopDo_f _ _ _ _ _ _ hs) (ilogT_l0 l hw hl n (i + 1) _ (by omega)))
  simp only [impl_LogTree.l0]
  rw [if_pos (by omega), if_pos (by omega), if_pos (by omega), rdE_get l i hi, wrapS i (by omega) (by omega)]
  rfl
theorem ilogT_f (l : List S44) (hw : wfL l) : Ev (fun k => impl_LogTree.f k l) (logT l) := by
 unfold impl_LogTree.f logT
 refine Ev.bind (log_f l hw) ?_
 cases hb : logB l with
 | false => simp only [Bool.false_eq_true, if_false]; exact evnow _
 | true =>
  have h40 := logB_len hb
  simp only [if_true]
  unfold impl_TreeNew.f
  simp only [Option.bind_some]
  exact ilogT_l0 l hw (by omega) l.length 0 _ (by omega)
theorem l12_l0 (l : List S44) (hl : l.length ≤ 1099511627776) (ho : ∀ e ∈ l, opE e = true) : ∀ (n i : Nat) (t : List S69), i + n = l.length → treeB t = true → Ev (fun k => spec_l12Tree.l0 k t l i) (foldT t (l.drop i))
 | 0, i, t, h, ht => by
  have := treeB_len ht
  rw [List.drop_eq_nil_of_le (by omega)]
  refine Ev.step (f := fun _ => some t) (fun k => ?_) (evnow _)
  simp only [spec_l12Tree.l0, Option.bind_some, List.nil_append, List.length_nil]
  rw [if_neg (by omega), if_pos (by omega)]
 | n + 1, i, t, h, ht => by
  have hi : i < l.length := by omega
  have hoi : opB l[i].f2.f0 l[i].f2.f1 l[i].f2.f2 l[i].f2.f3 l[i].f2.f4 = true := ho _ (List.getElem_mem hi)
  rw [List.drop_eq_getElem_cons hi]
  have ht2 : treeB (stepT t l[i]) = true := by
   unfold stepT
   obtain ⟨m, hm, _, _, _⟩ := made_nat hoi
   rw [hm] at hoi ⊢
   exact (opDo_val hoi ht).2.1
  refine Ev.step (f := fun k => (spec_l3Do.f k t l[i].f2.f0 l[i].f2.f1 l[i].f2.f2 l[i].f2.f3 l[i].f2.f4).bind fun t2 => spec_l12Tree.l0 k t2 l ((i + 1 : Nat) : Int)) (fun k => ?_) (Ev.bind (sdo_f hoi ht) (l12_l0 l hl ho n (i + 1) _ (by omega) ht2))
  simp only [spec_l12Tree.l0]
  rw [if_pos (by omega), if_pos (by omega), rdE_get l i hi, wrapS i (by omega) (by omega)]
  rfl
theorem l12_f (t : List S69) (l : List S44) (hl : l.length ≤ 1099511627776) (ho : ∀ e ∈ l, opE e = true) (ht : treeB t = true) : Ev (fun k => spec_l12Tree.f k t l) (foldT t l) := by
 unfold spec_l12Tree.f
 exact l12_l0 l hl ho l.length 0 t (by omega) ht
theorem slogT_f (l : List S44) (hw : wfL l) (hl : l.length ≤ 281474976710656) : Ev (fun k => spec_LogTree.f k l) (logT l) := by
 unfold spec_LogTree.f logT
 refine Ev.bind (slog_f l hw hl) ?_
 cases hb : logB l with
 | false => simp only [Bool.false_eq_true, if_false]; exact evnow _
 | true =>
  have h40 := logB_len hb
  simp only [if_true]
  unfold spec_TreeNew.f
  simp only [Option.bind_some]
  exact Ev.bind (l12_f new3 l (by omega) (logB_op hb) new3_val) (evnow _)
theorem step_ids {t : List S69} {e : S44} (ho : opE e = true) (ht : treeB t = true) : treeB (stepT t e) = true ∧ ∀ x : Nat, x ∈ (toFo (stepT t e)).ids ↔ x ∈ (toFo t).ids ∨ (e.f2.f0 = 1 ∧ (x : Int) = e.f2.f1) := by
 have ho' : opB e.f2.f0 e.f2.f1 e.f2.f2 e.f2.f3 e.f2.f4 = true := ho
 obtain ⟨m, hm, h4, h37, hM⟩ := made_nat ho'
 rw [hm] at ho'
 obtain ⟨e1, h2, h3, v'⟩ := opDo_val ho' ht
 have v := val_of ht
 have hs : stepT t e = opDoR t e.f2.f0 (m : Int) e.f2.f2 e.f2.f3 e.f2.f4 := by unfold stepT; rw [hm]
 rw [hs, h3]
 refine ⟨h2, fun x => ?_⟩
 have q := (do_tops v.nd v.ne0 (i := m) (by omega) (v.top hM) (v.does ho')).2.2 x
 rw [q, hm]
 constructor
 ·rintro (h | ⟨h, rfl⟩)
  ·exact Or.inl h
  ·exact Or.inr ⟨h, rfl⟩
 ·rintro (h | ⟨h, h5⟩)
  ·exact Or.inl h
  ·exact Or.inr ⟨h, by omega⟩
theorem foldT_ids : ∀ (l : List S44) (t : List S69), (∀ e ∈ l, opE e = true) → treeB t = true → treeB (foldT t l) = true ∧ (∀ x ∈ (toFo t).ids, x ∈ (toFo (foldT t l)).ids) ∧ ∀ e ∈ l, e.f2.f0 = 1 → ∃ m : Nat, m ∈ (toFo (foldT t l)).ids ∧ (m : Int) = e.f2.f1
 | [], t, ho, ht => ⟨ht, fun x hx => hx, fun e he => by cases he⟩
 | y :: l, t, ho, ht => by
  obtain ⟨h1, h2⟩ := step_ids (ho y List.mem_cons_self) ht
  obtain ⟨g1, g2, g3⟩ := foldT_ids l (stepT t y) (fun e he => ho e (List.mem_cons_of_mem _ he)) h1
  refine ⟨g1, fun x hx => g2 x ((h2 x).2 (Or.inl hx)), fun e he hk => ?_⟩
  rcases List.mem_cons.1 he with rfl | he
  ·obtain ⟨m, hm, _, _, _⟩ := made_nat (show opB e.f2.f0 e.f2.f1 e.f2.f2 e.f2.f3 e.f2.f4 = true from ho e List.mem_cons_self)
   exact ⟨m, g2 m ((h2 m).2 (Or.inr ⟨hk, hm.symm⟩)), hm.symm⟩
  ·exact g3 e he hk
theorem logT_len (l : List S44) : (logT l).length ≤ 21 := by
 unfold logT
 split
 ·rename_i h
  exact treeB_len (foldT_ids l new3 (logB_op h) new3_val).1
 ·simp
theorem eqRow_refl (a b : Int) (e : ByteArray) : laws_eqRow.f a b e a b e = some true := by simp [laws_eqRow.f]
theorem eqR_ev (d : Nat) : ∀ (x : List S69) (i : Int), 0 ≤ i → (x.length : Int) - i = d → x.length ≤ 1099511627776 → Ev (fun k => laws_eqRowS.l0 k x x i) true := by
 induction d with
 | zero =>
  intro x i h0 hd hl
  refine Ev.step (f := fun _ => some true) (fun k => ?_) (evnow _)
  simp only [laws_eqRowS.l0]; rw [if_neg (by omega)]
 | succ d ih =>
  intro x i h0 hd hl
  have hi : i < (x.length : Int) := by omega
  refine Ev.step (fun k => ?_) (ih x (i + 1) (by omega) (by omega) hl)
  simp only [laws_eqRowS.l0, if_pos hi, if_pos h0, eqRow_refl, Option.bind_some, if_true, wrapS i h0 (by omega)]
theorem eqR (x : List S69) (hl : x.length ≤ 1099511627776) : Ev (fun k => laws_eqRowS.f k x x) true :=
 Ev.congr (fun k => by simp only [laws_eqRowS.f, if_true]) (eqR_ev x.length x 0 (by omega) (by omega) hl)
noncomputable def mkR (a : Int) : S69 := ⟨a, a + 1, mt (a + 2)⟩
noncomputable def marksR : Int → Nat → List S69
 | _, 0 => []
 | a, n + 1 => mkR a :: marksR (a + 3) n
theorem marksR_len : ∀ (n : Nat) (a : Int), (marksR a n).length = n
 | 0, _ => rfl
 | n + 1, a => by rw [marksR, List.length_cons, marksR_len n]
theorem rdRw_set (x : List S69) (i : Int) (v : S69) (h0 : 0 ≤ i) (h : i < x.length) : rd_T69 (x.set i.toNat v) i = v := by
 unfold rd_T69
 rw [List.getD_eq_getElem?_getD, List.getElem?_set_self (by omega)]
 rfl
theorem markR_ev (d : Nat) : ∀ (x : List S69) (a i : Int), 0 ≤ i → (x.length : Int) - i = d → x.length ≤ 1099511627776 → 0 ≤ a → a + 3 * d ≤ 1152921504606846976 →
  Ev (fun k => laws_markRowS.l0 k x a i) (a + 3 * d, x.take i.toNat ++ marksR a d) := by
 induction d with
 | zero =>
  intro x a i h0 hd hl ha hb
  refine Ev.step (f := fun _ => some (a, x)) (fun k => ?_) ?_
  ·simp only [laws_markRowS.l0]; rw [if_neg (by omega)]
  ·rw [List.take_of_length_le (by omega)]; simp only [marksR, List.append_nil]
   rw [show a + 3 * ((0 : Nat) : Int) = a by omega]; exact evnow _
 | succ d ih =>
  intro x a i h0 hd hl ha hb
  have hi : i < (x.length : Int) := by omega
  have e1 : wrap64 (a + 1) = a + 1 := wrapS a ha (by omega)
  have e2 : wrap64 (a + 1 + 1) = a + 2 := by rw [wrapS _ (by omega) (by omega)]; omega
  have e3 : wrap64 (a + 2 + 1) = a + 3 := by rw [wrapS _ (by omega) (by omega)]; omega
  have ei : wrap64 (i + 1) = i + 1 := wrapS i h0 (by omega)
  have H := ih (x.set i.toNat (mkR a)) (a + 3) (i + 1) (by omega) (by rw [List.length_set]; omega) (by rw [List.length_set]; omega) (by omega) (by omega)
  rw [take_set_next x i _ h0 hi, show a + 3 + 3 * (d : Int) = a + 3 * ((d + 1 : Nat) : Int) by omega, List.append_assoc] at H
  refine Ev.step (f := fun k => (laws_markText.f k (a + 2)).bind fun t => laws_markRowS.l0 k (x.set i.toNat ⟨a, a + 1, t⟩) (a + 3) (i + 1)) (fun k => ?_) (Ev.bind (mt_ev _ (by omega)) H)
  simp only [laws_markRowS.l0, if_pos hi, if_pos h0, Option.bind_some, set_set_, rdRw_set _ _ _ h0 hi, e1, e2, e3, ei]
theorem heldR_ev (d : Nat) : ∀ (x : List S69) (a i : Int), 0 ≤ i → (x.length : Int) - i = d → x.length ≤ 1099511627776 → 0 ≤ a → a + 3 * d ≤ 1152921504606846976 → x.drop i.toNat = marksR a d →
  Ev (fun k => laws_heldRowS.l0 k x a i) (a + 3 * d) := by
 induction d with
 | zero =>
  intro x a i h0 hd hl ha hb he
  refine Ev.step (f := fun _ => some a) (fun k => ?_) ?_
  ·simp only [laws_heldRowS.l0]; rw [if_neg (by omega)]
  ·rw [show a + 3 * ((0 : Nat) : Int) = a by omega]; exact evnow _
 | succ d ih =>
  intro x a i h0 hd hl ha hb he
  have hi : i < (x.length : Int) := by omega
  have e1 : wrap64 (a + 1) = a + 1 := wrapS a ha (by omega)
  have e2 : wrap64 (a + 1 + 1) = a + 2 := by rw [wrapS _ (by omega) (by omega)]; omega
  have e3 : wrap64 (a + 2 + 1) = a + 3 := by rw [wrapS _ (by omega) (by omega)]; omega
  have ei : wrap64 (i + 1) = i + 1 := wrapS i h0 (by omega)
  have hn : i.toNat < x.length := by omega
  have hc := List.drop_eq_getElem_cons hn
  rw [he, marksR] at hc
  have hx : rd_T69 x i = mkR a := by
   unfold rd_T69
   rw [List.getD_eq_getElem?_getD, List.getElem?_eq_getElem hn]
   exact (List.cons.inj hc).1.symm
  have H := ih x (a + 3) (i + 1) (by omega) (by omega) hl (by omega) (by omega) (by rw [show (i + 1).toNat = i.toNat + 1 by omega]; exact (List.cons.inj hc).2.symm)
  rw [show a + 3 + 3 * (d : Int) = a + 3 * ((d + 1 : Nat) : Int) by omega] at H
  refine Ev.step (f := fun k => (laws_markText.f k (a + 2)).bind fun t => if (mt (a + 2)).toList = t.toList then laws_heldRowS.l0 k x (a + 3) (i + 1) else some (-1)) (fun k => ?_) (Ev.bind (mt_ev _ (by omega)) (Ev.congr (fun k => if_pos rfl) H))
  simp only [laws_heldRowS.l0]
  rw [if_pos hi, if_pos h0, e1, e2, e3, ei, hx]
  simp only [mkR, if_true]
  rfl
theorem markR_f (x : List S69) (a : Int) (hl : x.length ≤ 1099511627776) (ha : 0 ≤ a) (hb : a ≤ 1125899906842624) :
  Ev (fun k => laws_markRowS.f k x a) (a + 3 * x.length, marksR a x.length) := by
 have h := markR_ev x.length x a 0 (by omega) (by omega) hl ha (by omega)
 simp only [Int.toNat_zero, List.take_zero, List.nil_append] at h
 exact h
theorem heldR_f (n : Nat) (a : Int) (hl : n ≤ 1099511627776) (ha : 0 ≤ a) (hb : a ≤ 1125899906842624) :
  Ev (fun k => laws_heldRowS.f k (marksR a n) a) (a + 3 * n) :=
 heldR_ev n (marksR a n) a 0 (by omega) (by rw [marksR_len]; omega) (by rw [marksR_len]; exact hl) ha (by omega) rfl
theorem FnExactLogTree (l : List S36) (hw : ∀ e ∈ l, wfX e) (hl : l.length ≤ 9223372036854775807) : ∃ k, laws_FnExactLogTree.f k l = some true := by
 suffices h : Ev (fun k => laws_FnExactLogTree.f k l) true by obtain ⟨K, h⟩ := h; exact ⟨K, h K (Nat.le_refl K)⟩
 obtain ⟨r, hr, hb⟩ := szE_f l hw hl
 unfold laws_FnExactLogTree.f
 refine Ev.bind hr ?_
 by_cases h0 : r < 0
 ·exact ev_pos h0 (evnow _)
 ·have hlen := hb h0
  have hT := toE_f l hlen
  have hW := wf_conv hw
  have hcl : (l.map conv).length ≤ 1099511627776 := by rw [List.length_map]; omega
  have hn := logT_len (l.map conv)
  have hS := slogT_f (l.map conv) hW (by omega)
  have hI := ilogT_f (l.map conv) hW
  have hn2 : ¬ ((1 : Int) + 3 * ((logT (l.map conv)).length : Int) < 0) := by omega
  have hn3 : ¬ ((1 : Int) + 7 * ((l.map conv).length : Int) < 0) := by omega
  refine ev_neg h0 (Ev.bind hT (Ev.bind hS (Ev.bind hT (Ev.bind hI (Ev.bind (eqR _ (by omega)) (ev_pos rfl ?_))))))
  refine Ev.bind hT (Ev.bind (eqE _ hcl) (ev_pos rfl ?_))
  refine Ev.bind (markE_f _ 1 hcl (by omega) (by omega)) (ev_neg hn3 ?_)
  refine Ev.bind (eqR _ (by omega)) (ev_pos rfl ?_)
  refine Ev.bind (markR_f _ 1 (by omega) (by omega) (by omega)) ?_
  refine Ev.bind (heldR_f _ 1 (by omega) (by omega) (by omega)) (ev_neg hn2 (ev_pos rfl ?_))
  refine Ev.bind hT (Ev.bind hI (Ev.bind (eqR _ (by omega)) (ev_pos rfl ?_)))
  refine Ev.bind (heldR_f _ 1 (by omega) (by omega) (by omega)) (ev_neg hn2 ?_)
  exact ev_pos rfl (evnow _)
end Go.Proofs.YtdpklbomhdpimaaDoor.PL
namespace Go.Proofs.YtdpklbomhdpimaaDoor.P
open Go.ChangeShapes Go.WideShapes Go.ChangeAt Go.RowKit
theorem tOwners : (Tryd.prog.globals[0]?).map (·.type) = some 126 := by kernel_rfl
theorem cOwners : Tryd.prog.cellsOf 126 = 37 := by kernel_rfl
theorem cInt : Tryd.prog.cellsOf 3 = 1 := by kernel_rfl
abbrev ownCells : Array Value := (owners.map fun z => Value.int .i64 z).toArray
theorem glob_of_laid {W : World} (h : laidMet Tryd.prog [("loop.example/plashet/impl.rowOwners", Rows.laid_loop_example_plashet_impl_rowOwners)] W) : Glob W :=
 Lib.tabIs_of_head gOwners tOwners Tryd.underlying126 Tryd.underlying3 cInt cOwners h
theorem door_met (os : Os) (args : Array Value) : laidMet Tryd.prog [("loop.example/plashet/impl.rowOwners", Rows.laid_loop_example_plashet_impl_rowOwners)] ((World.doorLaid Tryd.prog 400 os).forCall (fun _ _ => 0) ⟨#[], args, []⟩).memory :=
 laidMet_of_run' 8 (by kernel_rfl) (by kernel_rfl)
abbrev tableH {H : Type} : DataW H := .agg (owners.map fun z => .lit (.int .i64 z))
theorem reads_table {H : Type} (enc : TypeId × Value → H) (W : World) (sp : Nat → Bool) : DataW.trod enc Tryd.prog W 0 sp true 3 126 ownCells.toList = some (tableH, []) := by kernel_rfl
theorem tab_vars {H : Type} (enc : TypeId × Value → H) {W : World} (h : Glob W) {sp : Nat → Bool} : DataW.TrodVars enc Tryd.prog W sp ["loop.example/plashet/impl.rowOwners"] [tableH] (MemPlace.row ⟨0, 0, none⟩ ownCells.size ++ [] ++ []) :=
 ⟨0, 126, ownCells, 3, [], [], gOwners, tOwners, h, reads_table enc W sp, rfl, rfl⟩
end Go.Proofs.YtdpklbomhdpimaaDoor.P
namespace Go.Proofs.YtdpklbomhdpimaaDoor.PL
set_option maxRecDepth 100000
open Go.ChangeShapes Go.WideShapes Go.ChangeAt Go.RowKit Go.Deep Go.Joins Go.Proofs.YtdpklbomhdpimaaDoor.P Go.Proofs.YtdpklbomhdpimaaDoorW.PrintWords Go.Proofs.YtdpklbomhdpimaaDoorW.PrintLast
section
variable {H : Type} {enc : TypeId × Value → H} {w : World} {base : Nat} {sp : Nat → Bool} {held : Bool}
theorem cO : Tryd.prog.cellsOf 34 = 5 := by kernel_rfl
theorem cX : Tryd.prog.cellsOf 36 = 7 := by kernel_rfl
theorem cS : Tryd.prog.cellsOf 9 = 1 := by kernel_rfl
theorem i64_of {n : Int} (h : (Lit.int .i64 n).wf = true) : I64 n := by
 simp only [Lit.wf, Bool.and_eq_true, decide_eq_true_eq] at h
 obtain ⟨h1, h2⟩ := h
 exact ⟨h1, h2⟩
theorem fld_int {n o : Nat} {cs : List Value} {y : DataW H × List MemPlace} (h : DataW.trod enc Tryd.prog w base sp held n 3 ((cs.drop o).take (Tryd.prog.cellsOf 3)) = some y) : ∃ a : Int, cs[o]? = some (.int .i64 a) ∧ I64 a := by
 obtain ⟨a, e, _, hw⟩ := DataW.trod_int Tryd.underlying3 h
 refine ⟨a, ?_, i64_of hw⟩
 rw [cInt] at e
 have := congrArg (·[0]?) e
 simpa [List.getElem?_take, List.getElem?_drop] using this
theorem fld_str {n o : Nat} {cs : List Value} {y : DataW H × List MemPlace} (h : DataW.trod enc Tryd.prog w base sp held n 9 ((cs.drop o).take (Tryd.prog.cellsOf 9)) = some y) : ∃ s : ByteArray, cs[o]? = some (.string s) ∧ s.size ≤ 9223372036854775807 := by
 obtain ⟨s, e, _, hw⟩ := DataW.trod_string Tryd.underlying9 h
 refine ⟨s, ?_, hw⟩
 rw [cS] at e
 have := congrArg (·[0]?) e
 simpa [List.getElem?_take, List.getElem?_drop] using this
theorem open_op {fuel : Nat} {cs : List Value} {y : DataW H × List MemPlace} (h : DataW.trod enc Tryd.prog w base sp held fuel 34 cs = some y) :
  ∃ (a b c d : Int) (s : ByteArray), cs = [.int .i64 a, .int .i64 b, .int .i64 c, .int .i64 d, .string s] ∧ I64 a ∧ I64 b ∧ I64 c ∧ I64 d ∧ s.size ≤ 9223372036854775807 := by
 obtain ⟨xs, n, _, _, hl, hlen, hf⟩ := DataW.trod_struct Tryd.underlying34 h
 rw [cO] at hl
 match xs, hlen, hf with
 | [y0, y1, y2, y3, y4], _, hf =>
  obtain ⟨a, e0, w0⟩ := fld_int (o := 0) (hf 0 _ rfl)
  obtain ⟨b, e1, w1⟩ := fld_int (o := 1) (hf 1 _ rfl)
  obtain ⟨c, e2, w2⟩ := fld_int (o := 2) (hf 2 _ rfl)
  obtain ⟨d, e3, w3⟩ := fld_int (o := 3) (hf 3 _ rfl)
  obtain ⟨s, e4, w4⟩ := fld_str (o := 4) (hf 4 _ rfl)
  match cs, hl, e0, e1, e2, e3, e4 with
  | [c0, c1, c2, c3, c4], _, e0, e1, e2, e3, e4 =>
   simp only [List.getElem?_cons_zero, List.getElem?_cons_succ, Option.some.injEq] at e0 e1 e2 e3 e4
   subst e0 e1 e2 e3 e4
   exact ⟨a, b, c, d, s, rfl, w0, w1, w2, w3, w4⟩
theorem open_entry {fuel : Nat} {cs : List Value} {y : DataW H × List MemPlace} (h : DataW.trod enc Tryd.prog w base sp held fuel 36 cs = some y) :
  ∃ e : S36, cs = [.int .i64 e.f0, .int .i64 e.f1, .int .i64 e.f2.f0, .int .i64 e.f2.f1, .int .i64 e.f2.f2, .int .i64 e.f2.f3, .string e.f2.f4] ∧ wfX e := by
 obtain ⟨xs, n, _, _, hl, hlen, hf⟩ := DataW.trod_struct Tryd.underlying36 h
 rw [cX] at hl
 match xs, hlen, hf with
 | [y0, y1, y2], _, hf =>
  obtain ⟨a, e0, w0⟩ := fld_int (o := 0) (hf 0 _ rfl)
  obtain ⟨b, e1, w1⟩ := fld_int (o := 1) (hf 1 _ rfl)
  have h2 : DataW.trod enc Tryd.prog w base sp held n 34 ((cs.drop 2).take (Tryd.prog.cellsOf 34)) = some y2 := hf 2 _ rfl
  obtain ⟨o0, o1, o2, o3, s, e2, u0, u1, u2, u3, u4⟩ := open_op h2
  rw [cO] at e2
  match cs, hl, e0, e1, e2 with
  | [c0, c1, c2, c3, c4, c5, c6], _, e0, e1, e2 =>
   simp only [List.getElem?_cons_zero, List.getElem?_cons_succ, Option.some.injEq] at e0 e1
   subst e0 e1
   simp only [List.drop_succ_cons, List.drop_zero, List.take_succ_cons, List.take_zero, List.cons.injEq, and_true] at e2
   obtain ⟨rfl, rfl, rfl, rfl, rfl⟩ := e2
   exact ⟨⟨a, b, ⟨o0, o1, o2, o3, s⟩⟩, rfl, w0, w1, u0, u1, u2, u3, u4⟩
theorem list_of_all {α : Type} (P : Nat → α → Prop) : ∀ n : Nat, (∀ i, i < n → ∃ e, P i e) → ∃ l : List α, l.length = n ∧ ∀ i e, l[i]? = some e → P i e
 | 0, _ => ⟨[], rfl, fun i e h => by simp at h⟩
 | n + 1, h => by
  obtain ⟨l, hl, hp⟩ := list_of_all P n (fun i hi => h i (by omega))
  obtain ⟨e, he⟩ := h n (by omega)
  refine ⟨l ++ [e], by simp [hl], fun i x hx => ?_⟩
  rcases Nat.lt_or_ge i l.length with hi | hi
  ·rw [List.getElem?_append_left hi] at hx
   exact hp i x hx
  ·rw [List.getElem?_append_right hi] at hx
   have h0 : i - l.length = 0 := by
    rcases Nat.eq_zero_or_pos (i - l.length) with h0 | h0
    ·exact h0
    ·rw [List.getElem?_eq_none (by simp; omega)] at hx
     cases hx
   rw [h0] at hx
   simp only [List.getElem?_cons_zero, Option.some.injEq] at hx
   subst hx
   rw [show i = n by omega]
   exact he
theorem open_entries {fuel : Nat} {cs : List Value} {y : DataW H × List MemPlace} (h : DataW.trod enc Tryd.prog w base sp held fuel 30 cs = some y) :
  ∃ (A : Option Addr) (cap : Nat) (l : List S36), cs = [.slice A l.length cap] ∧ Kd.C k36 w A l.length l ∧ l.length ≤ cap ∧ l.length ≤ 9223372036854775807 ∧ ∀ e ∈ l, wfX e := by
 rcases open_slice Tryd.underlying30 h with ⟨rfl, _⟩ | ⟨a, len, cap, m, n, D, Pl, rfl, _, hl, hm, hmm, _, hel⟩
 ·exact ⟨none, 0, [], rfl, Kd.C_nil _ _, by simp, by simp, fun e he => by cases he⟩
 ·have hlm : len ≤ m := by rw [hmm]; split <;> omega
  obtain ⟨l, hlen, hp⟩ := list_of_all (fun i (e : S36) => wfX e ∧ w.cells? base (a.add (i * 7)) 7 = some [.int .i64 e.f0, .int .i64 e.f1, .int .i64 e.f2.f0, .int .i64 e.f2.f1, .int .i64 e.f2.f2, .int .i64 e.f2.f3, .string e.f2.f4]) len (fun i hi => by
   obtain ⟨cs', hc, hd⟩ := hel i (by omega)
   obtain ⟨e, rfl, hw⟩ := open_entry hd
   rw [cX] at hc
   exact ⟨e, hw, hc⟩)
  have hmx : cap ≤ 9223372036854775807 := hm
  refine ⟨some a, cap, l, by rw [hlen], ⟨rfl, by omega, fun _ => ⟨a, rfl, fun j p hj => ?_⟩⟩, by omega, by omega, fun e he => ?_⟩
  ·obtain ⟨_, hc⟩ := hp j p hj
   refine ⟨_, rfl, k36_mk w p, fun i u hu => ?_⟩
   obtain ⟨_, hlc, hc2⟩ := World.cells?_some hc
   have hi : i < 7 := by
    rcases Nat.lt_or_ge i 7 with hi | hi
    ·exact hi
    ·rw [List.getElem?_eq_none (by rw [hlc]; exact hi)] at hu
     cases hu
   have := hc2 i hi
   rw [hu] at this
   show w.cell? (a.add (j * 7 + i)) = some u
   rw [← this]
   congr 1
   generalize j * 7 = x
   unfold Addr.add
   by_cases h1 : x = 0 <;> by_cases h2 : i = 0 <;> simp [h1, h2, Nat.add_assoc]
  ·obtain ⟨i, hi, rfl⟩ := List.getElem_of_mem he
   exact (hp i _ (List.getElem?_eq_getElem hi)).1
theorem open_entriesV {v : Value} {d : DataW H} {p : List MemPlace} (hv : Value.okWide Tryd.prog w .any base 30 v) (h : DataW.Trod enc Tryd.prog w 0 sp held 30 v d p) :
  ∃ (A : Option Addr) (cap : Nat) (l : List S36), v = .slice A l.length cap ∧ Kd.C k36 w A l.length l ∧ l.length ≤ cap ∧ l.length ≤ 9223372036854775807 ∧ ∀ e ∈ l, wfX e := by
 obtain ⟨a, len, cap, rfl⟩ := okWide_slice Tryd.underlying30 hv
 obtain ⟨fuel, hf⟩ := h
 obtain ⟨A, c, l, e, hC, hc, hl, hw⟩ := open_entries hf
 have e' : [Value.slice a len cap] = [.slice A l.length c] := e
 exact ⟨A, c, l, (List.cons.inj e').1, hC, hc, hl, hw⟩
end
end Go.Proofs.YtdpklbomhdpimaaDoor.PL
namespace Go.Proofs.YtdpklbomhdpimaaDoor.fnExactLogTree
open Go.ChangeMaps (open_string shut_string)
open Go.ChangeShapes Go.WideShapes Go.ChangeAt Go.RowKit
theorem own : ownKnob Tryd.prog.godebug = none := by kernel_rfl
theorem laidOut : laidOutB Tryd.prog = true := by kernel_rfl
set_option maxRecDepth 100000 in
theorem lifted (os : Os) (started : os.Started) (H : Type) (enc : TypeId × Value → H) :
  ReturnsInHanded {} Tryd.checked os 11 .any (fun w args => (Rows.fnExactLogTreeSpec.pre enc Tryd.prog Tryd.f11 [] false w args ∧ laidMet Tryd.prog [("loop.example/plashet/impl.rowOwners", Rows.laid_loop_example_plashet_impl_rowOwners)] w) ∧ sizedMet enc Tryd.prog Tryd.f11 (OpenSpec.ofChange Rows.fnExactLogTreeSpec) false w args) (Rows.fnExactLogTreeSpec.post enc Tryd.prog Tryd.f11 false true false false) := by
 refine returnsInHanded_of_change_and (C := Tryd.checked) (X := fun w _ => laidMet Tryd.prog [("loop.example/plashet/impl.rowOwners", Rows.laid_loop_example_plashet_impl_rowOwners)] w) (fun _ _ _ hh h => h.of_heap hh) own started (by kernel_rfl) Tryd.func11
  (ChangeSpec.witness_shaped (enc := enc) (C := Tryd.checked) (os := os) (X := fun w _ => laidMet Tryd.prog [("loop.example/plashet/impl.rowOwners", Rows.laid_loop_example_plashet_impl_rowOwners)] w) false (World.doorLaid Tryd.prog 400 os) #[.slice none 0 0] 8 rfl (World.shaped_of_RefB (by kernel_rfl) (by kernel_rfl)) (by kernel_rfl) (by kernel_rfl) (by kernel_rfl) (P.door_met os _)) ?_
 intro W base args ds gs before hval0 hW _ _ hL _
 have hval : ∀ (j : Nat) t v, Tryd.f11.params[j]? = some t → args[j]? = some v → Value.okWide Tryd.prog W .any base t v := hval0
 have hW' := hW
 obtain ⟨p, q, hA0, hV, rfl, hfz, hnd⟩ := hW
 have hA : DataW.TrodAll enc Tryd.prog W 0 (fun _ => true) true Tryd.f11.params.toList args.toList ds p := hA0
 rw [Tryd.params11] at hA hval
 obtain ⟨v0, vs0, d0, ds0, p0, q0, hargs, rfl, rfl, h0, r0⟩ := trodAll_cons hA
 obtain ⟨rfl, rfl, rfl⟩ := trodAll_nil r0
 obtain rfl : args = #[v0] := by cases args; simp_all
 have hG : P.Glob W := P.glob_of_laid hL
 obtain ⟨gv, tv, csv, fuelv, dv, pv, rfl, hgv, htv, hvarv, hdv, rfl⟩ := trodVars_one hV
 obtain rfl : csv = P.ownCells := Option.some.inj (hvarv.symm.trans hG)
 obtain rfl := Option.some.inj (P.tOwners.symm.trans (by rw [Option.some.inj (P.gOwners.symm.trans hgv)]; exact htv))
 obtain ⟨rfl, rfl⟩ := DataW.Trod.unique (v := .agg P.ownCells) ⟨fuelv, hdv⟩ ⟨3, P.reads_table enc W _⟩
 have k0 := h0
 have lt0 : ∀ x ∈ p0, x.block < W.heap.size := by obtain ⟨m, hm⟩ := k0; exact DataW.trod_lt m _ _ _ hm
 obtain ⟨A0, c0, l0, rfl, hC0, hc0, hL0, hw0⟩ := PL.open_entriesV (hval 0 30 v0 rfl rfl) h0
 clear hA0 hval0
 obtain ⟨k, hk⟩ := PL.FnExactLogTree l0 hw0 hL0
 refine (P.laws_FnExactLogTree.calls k _ _ l0 true W hC0 hc0 hk hG).mono fun e W' ⟨he, bel⟩ => ?_
 subst he
 exact ⟨_, rfl, _, _, _, _, _, _, hW', trodAll_mk1 (shut_bool Tryd.underlying4 _), (trodAll_cons_mk (Below.trod laidOut (by kernel_rfl) (of_decide_eq_true (by kernel_rfl)) k0 bel lt0) trodAll_mk0), P.tab_vars enc (hG.below bel), bel.frame _, fun h => by cases h⟩
theorem proved : Rows.FnExactLogTreeSaid :=
 OpenClaim.holds_of_wide 11 Tryd.f11 rfl rfl rfl rfl rfl rfl rfl ⟨rfl, rfl, rfl, rfl, rfl⟩ rfl rfl rfl rfl rfl (by kernel_rfl) Tryd.func11 (by kernel_rfl)
  (of_decide_eq_true (by kernel_rfl)) (by unfold Func.isWrapper; first | (rw [if_pos (by decide +kernel)]; kernel_rfl) | (rw [if_neg (by decide +kernel)]; exact ⟨rfl, rfl⟩))
  (fun os started H enc _ => lifted os started H enc)
end Go.Proofs.YtdpklbomhdpimaaDoor.fnExactLogTree
namespace Go.Proofs.YtdpklbomhdpimaaDoor
theorem fnExactLogTree_holds : Rows.FnExactLogTreeSaid := fnExactLogTree.proved
end Go.Proofs.YtdpklbomhdpimaaDoor
namespace Go.Proofs.YtdpklbomhdpimaaDoor
open Go
theorem fnExactLogTreeCard_holds : Rows.FnExactLogTreeCardSaid :=
 Claim7.holds_tied_plain_at .later [] [.data] true (true, "7cf51d42195f9c9b62136c7a8c7100de8c719db44b2d768f6f24e257b781f613") true
  fnExactLogTree_holds (fun _ h => by cases h) (by kernel_rfl) (fun _ h => by cases h) fnExactLogTree_row_tie rfl ⟨rfl, rfl⟩ (by kernel_rfl) rfl
  (fun f fn hf hfn => by
   obtain rfl : f = 11 := Option.some.inj ((show Tryd.prog.funcNamed "loop.example/plashet/laws.FnExactLogTree" = some 11 by kernel_rfl).symm.trans hf) |>.symm
   obtain rfl : fn = Tryd.f11 := (Option.some.inj (Tryd.func11.symm.trans hfn)).symm
   exact ⟨by kernel_rfl, fun j t ht => by
    rw [Tryd.params11] at ht
    have hm : t ∈ [30] := by have := Array.mem_of_getElem? ht; simp at this; first | (subst this; simp; done) | (rcases this with h | h <;> simp [h]; done) | (rcases this with h | h | h <;> simp [h]; done)
    have hall : ([30].all fun u => !Tryd.prog.wantsStandIn u) = true := by kernel_rfl
    exact (show Tryd.prog.wantsStandIn t = false by simpa using List.all_eq_true.1 hall t hm)⟩)
  (by kernel_rfl)
#print axioms fnExactLogTreeCard_holds
end Go.Proofs.YtdpklbomhdpimaaDoor
