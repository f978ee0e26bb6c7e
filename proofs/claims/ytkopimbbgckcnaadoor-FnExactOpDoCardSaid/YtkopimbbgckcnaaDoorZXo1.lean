/- Joined by a program (wip/shake.py): the declarations that 'YtkopimbbgckcnaaDoorCardFnExactOpDo' reaches. -/
import Derived.Test.YtkopimbbgckcnaaDoorZXo0
namespace Go.Proofs.YtkopimbbgckcnaaDoor.P
open Go.RowKit Go.Proofs.YtkopimbbgckcnaaDoorW.PrintWords Go.Proofs.YtkopimbbgckcnaaDoorW.PrintLast
set_option linter.unusedVariables false
set_option linter.unusedSimpArgs false
set_option maxHeartbeats 8000000 in
set_option maxRecDepth 100000 in
theorem spec_l3Where.calls (k : Nat) (A0 : Option Addr) (c0 : Nat) (l0 : List (S43)) (a1_0 : Int) (a1_1 : Int) (a1_2 : Int) (a1_3 : Int) (a1_4 : ByteArray) (r1 : Int) (r2 : Int) (r3 : Bool) (w : World) (hr0 : Kd.C k43 w A0 l0.length l0) (hc0 : l0.length ≤ c0) (h : spec_l3Where.f k l0 a1_0 a1_1 a1_2 a1_3 a1_4 = some (r1, r2, r3)) :
  Calls Tryd.prog 61 #[.slice A0 l0.length c0, .agg #[.int .i64 a1_0, .int .i64 a1_1, .int .i64 a1_2, .int .i64 a1_3, .string a1_4]] w fun e w' => e = .returned (.tuple #[.int .i64 r1, .int .i64 r2, .bool r3]) ∧ Below w.heap.size w w' := by
 have hu30 := Tryd.underlying30
 have HR0 := Aside0.mk hr0
 have HC0 := Aside0.mk hc0
 clear hr0 hc0
 have HB := Aside0.mk (Below.refl w.heap.size w)
 have H : ((spec_l2At.f k l0 a1_1).bind fun t152 => (if a1_0 = 2 then (spec_l3Where.j0 k l0 true a1_0 a1_1 a1_2 a1_3 a1_4) else (if ((decide (t152 ≥ 0)) != (a1_0 == 3)) = true then (spec_l3Where.j0 k l0 true a1_0 a1_1 a1_2 a1_3 a1_4) else (if t152 ≥ 0 then ((spec_l2Under.f k l0 a1_2 a1_1).bind fun t153 => (spec_l3Where.j0 k l0 t153 a1_0 a1_1 a1_2 a1_3 a1_4)) else (spec_l3Where.j0 k l0 false a1_0 a1_1 a1_2 a1_3 a1_4))))) = some (r1, r2, r3) := h
 clear h
 replace H := Option.bind_eq_some_iff.mp H
 obtain ⟨t152, A30, H⟩ := H
 replace H : (if a1_0 = 2 then (spec_l3Where.j0 k l0 true a1_0 a1_1 a1_2 a1_3 a1_4) else (if ((decide (t152 ≥ 0)) != (a1_0 == 3)) = true then (spec_l3Where.j0 k l0 true a1_0 a1_1 a1_2 a1_3 a1_4) else (if t152 ≥ 0 then ((spec_l2Under.f k l0 a1_2 a1_1).bind fun t153 => (spec_l3Where.j0 k l0 t153 a1_0 a1_1 a1_2 a1_3 a1_4)) else (spec_l3Where.j0 k l0 false a1_0 a1_1 a1_2 a1_3 a1_4)))) = some (r1, r2, r3) := H
 have A3 := Aside0.mk A30
 clear A30
 have HC4 := Aside0.mk H
 clear H
 go_enter Tryd.func61, Tryd.ntmps61
 go_upto_region 2 with (first | ((with_reducible refine gate_dst (N := 3) rfl ?_); refine box_event ?hg (N := 3) ?hd (cs := #[.int .i64 a1_0, .int .i64 a1_1, .int .i64 a1_2, .int .i64 a1_3, .string a1_4]) (t := 30) ?hr ?_; (case hd => rfl); (case hg => rfl); (case hr => first | (go_simp; done) | (go_simp; rfl)); intro gb151 hg w5 hbox hb; have n0_ := Aside0.mk (below_step (bel_) hb); have n1_ := Aside0.mk (hbox); have n2_ := Aside0.mk ((by rw [hg]; exact (below_size (bel_)) : w.heap.size ≤ gb151)); have n3_ := Aside0.mk ((by rw [hg]; exact (below_size (bel_)) : w.heap.size ≤ gb151)); clear HB; have HB := n0_; have BK151 := n1_; have GW151 := n2_; have GE151 := n3_; clear n0_ n1_ n2_ n3_; clear hb hbox hg; have hcz6_0 : w5.cell? ⟨gb151, 0, none⟩ = some (.int .i64 a1_0) := (blk_cell BK151.out 0).trans rfl; have hcz6_1 : w5.cell? ⟨gb151, 1, none⟩ = some (.int .i64 a1_1) := (blk_cell BK151.out 1).trans rfl; have hcz6_2 : w5.cell? ⟨gb151, 2, none⟩ = some (.int .i64 a1_2) := (blk_cell BK151.out 2).trans rfl; have hcz6_3 : w5.cell? ⟨gb151, 3, none⟩ = some (.int .i64 a1_3) := (blk_cell BK151.out 3).trans rfl; have hcz6_4 : w5.cell? ⟨gb151, 4, none⟩ = some (.string a1_4) := (blk_cell BK151.out 4).trans rfl; have hfz6_0 := blk_frozen BK151.out 0; have hfz6_1 := blk_frozen BK151.out 1; have hfz6_2 := blk_frozen BK151.out 2; have hfz6_3 := blk_frozen BK151.out 3; have hfz6_4 := blk_frozen BK151.out 4) | (go_at_call 60; (with_reducible refine (spec_l2At.calls k _ _ l0 a1_1 t152 _ ?side1 ?side2 A3.out).mono ?_); (case side1 => exact cp_ HR0.out); (case side2 => exact HC0.out); rintro e w' ⟨rfl, ⟨nd, rfl⟩⟩; (try first | exact ⟨rfl, _, World.drewN_drewN _ _ _⟩ | exact ⟨rfl, _, Eq.trans (World.drewN_drewN _ _ _) (congrArg (World.drewN _) (Nat.add_assoc _ _ _))⟩)))
 repeat (go_quiet (first | ((with_reducible refine gate_dst (N := 3) rfl ?_); refine box_event ?hg (N := 3) ?hd (cs := #[.int .i64 a1_0, .int .i64 a1_1, .int .i64 a1_2, .int .i64 a1_3, .string a1_4]) (t := 30) ?hr ?_; (case hd => rfl); (case hg => rfl); (case hr => first | (go_simp; done) | (go_simp; rfl)); intro gb151 hg w5 hbox hb; have n0_ := Aside0.mk (below_step (bel_) hb); have n1_ := Aside0.mk (hbox); have n2_ := Aside0.mk ((by rw [hg]; exact (below_size (bel_)) : w.heap.size ≤ gb151)); have n3_ := Aside0.mk ((by rw [hg]; exact (below_size (bel_)) : w.heap.size ≤ gb151)); clear HB; have HB := n0_; have BK151 := n1_; have GW151 := n2_; have GE151 := n3_; clear n0_ n1_ n2_ n3_; clear hb hbox hg; have hcz6_0 : w5.cell? ⟨gb151, 0, none⟩ = some (.int .i64 a1_0) := (blk_cell BK151.out 0).trans rfl; have hcz6_1 : w5.cell? ⟨gb151, 1, none⟩ = some (.int .i64 a1_1) := (blk_cell BK151.out 1).trans rfl; have hcz6_2 : w5.cell? ⟨gb151, 2, none⟩ = some (.int .i64 a1_2) := (blk_cell BK151.out 2).trans rfl; have hcz6_3 : w5.cell? ⟨gb151, 3, none⟩ = some (.int .i64 a1_3) := (blk_cell BK151.out 3).trans rfl; have hcz6_4 : w5.cell? ⟨gb151, 4, none⟩ = some (.string a1_4) := (blk_cell BK151.out 4).trans rfl; have hfz6_0 := blk_frozen BK151.out 0; have hfz6_1 := blk_frozen BK151.out 1; have hfz6_2 := blk_frozen BK151.out 2; have hfz6_3 := blk_frozen BK151.out 3; have hfz6_4 := blk_frozen BK151.out 4) | (go_at_call 60; (with_reducible refine (spec_l2At.calls k _ _ l0 a1_1 t152 _ ?side1 ?side2 A3.out).mono ?_); (case side1 => exact cp_ HR0.out); (case side2 => exact HC0.out); rintro e w' ⟨rfl, ⟨nd, rfl⟩⟩; (try first | exact ⟨rfl, _, World.drewN_drewN _ _ _⟩ | exact ⟨rfl, _, Eq.trans (World.drewN_drewN _ _ _) (congrArg (World.drewN _) (Nat.add_assoc _ _ _))⟩))); go_upto_region 2 with (first | ((with_reducible refine gate_dst (N := 3) rfl ?_); refine box_event ?hg (N := 3) ?hd (cs := #[.int .i64 a1_0, .int .i64 a1_1, .int .i64 a1_2, .int .i64 a1_3, .string a1_4]) (t := 30) ?hr ?_; (case hd => rfl); (case hg => rfl); (case hr => first | (go_simp; done) | (go_simp; rfl)); intro gb151 hg w5 hbox hb; have n0_ := Aside0.mk (below_step (bel_) hb); have n1_ := Aside0.mk (hbox); have n2_ := Aside0.mk ((by rw [hg]; exact (below_size (bel_)) : w.heap.size ≤ gb151)); have n3_ := Aside0.mk ((by rw [hg]; exact (below_size (bel_)) : w.heap.size ≤ gb151)); clear HB; have HB := n0_; have BK151 := n1_; have GW151 := n2_; have GE151 := n3_; clear n0_ n1_ n2_ n3_; clear hb hbox hg; have hcz6_0 : w5.cell? ⟨gb151, 0, none⟩ = some (.int .i64 a1_0) := (blk_cell BK151.out 0).trans rfl; have hcz6_1 : w5.cell? ⟨gb151, 1, none⟩ = some (.int .i64 a1_1) := (blk_cell BK151.out 1).trans rfl; have hcz6_2 : w5.cell? ⟨gb151, 2, none⟩ = some (.int .i64 a1_2) := (blk_cell BK151.out 2).trans rfl; have hcz6_3 : w5.cell? ⟨gb151, 3, none⟩ = some (.int .i64 a1_3) := (blk_cell BK151.out 3).trans rfl; have hcz6_4 : w5.cell? ⟨gb151, 4, none⟩ = some (.string a1_4) := (blk_cell BK151.out 4).trans rfl; have hfz6_0 := blk_frozen BK151.out 0; have hfz6_1 := blk_frozen BK151.out 1; have hfz6_2 := blk_frozen BK151.out 2; have hfz6_3 := blk_frozen BK151.out 3; have hfz6_4 := blk_frozen BK151.out 4) | (go_at_call 60; (with_reducible refine (spec_l2At.calls k _ _ l0 a1_1 t152 _ ?side1 ?side2 A3.out).mono ?_); (case side1 => exact cp_ HR0.out); (case side2 => exact HC0.out); rintro e w' ⟨rfl, ⟨nd, rfl⟩⟩; (try first | exact ⟨rfl, _, World.drewN_drewN _ _ _⟩ | exact ⟨rfl, _, Eq.trans (World.drewN_drewN _ _ _) (congrArg (World.drewN _) (Nat.add_assoc _ _ _))⟩))))
 (try simp only [Act.put, List.setIfInBounds_toArray, List.set_cons_zero, List.set_cons_succ])
 go_cut [37] from 7 to 16 (fun v37 wc => ∃ (kq : Nat) (x37_3 : Bool), v37 = .bool x37_3 ∧ Aside0 (spec_l3Where.j0 kq l0 x37_3 a1_0 a1_1 a1_2 a1_3 a1_4 = some (r1, r2, r3)) ∧ Aside0 (kq ≤ k) ∧ Aside0 (wc.heap[gb151]? = some (.cells #[.int .i64 a1_0, .int .i64 a1_1, .int .i64 a1_2, .int .i64 a1_3, .string a1_4] 30 (0, 0))) ∧ Aside0 (Below w.heap.size w wc))
 case first =>
  have H := HC4.out
  clear HC4
  by_cases c7 : a1_0 = 2
  ·rw [if_pos c7] at H
   have c7b0 : (a1_0 == 2) = true := beq_iff_eq.mpr c7
   have c7b1 : (a1_0 != 2) = false := bne_eq_false_iff_eq.mpr c7
   clear c7
   (first | rw [c7b0] | (simp only [i64_w, i32_w]; rw [c7b0]) | skip)
   have H' := Aside0.mk H
   clear H
   have hcz8_0 : w5.cell? ⟨gb151, 0, none⟩ = some (.int .i64 a1_0) := (blk_cell BK151.out 0).trans rfl
   have hcz8_1 : w5.cell? ⟨gb151, 1, none⟩ = some (.int .i64 a1_1) := (blk_cell BK151.out 1).trans rfl
   have hcz8_2 : w5.cell? ⟨gb151, 2, none⟩ = some (.int .i64 a1_2) := (blk_cell BK151.out 2).trans rfl
   have hcz8_3 : w5.cell? ⟨gb151, 3, none⟩ = some (.int .i64 a1_3) := (blk_cell BK151.out 3).trans rfl
   have hcz8_4 : w5.cell? ⟨gb151, 4, none⟩ = some (.string a1_4) := (blk_cell BK151.out 4).trans rfl
   have hfz8_0 := blk_frozen BK151.out 0
   have hfz8_1 := blk_frozen BK151.out 1
   have hfz8_2 := blk_frozen BK151.out 2
   have hfz8_3 := blk_frozen BK151.out 3
   have hfz8_4 := blk_frozen BK151.out 4
   go_wp2
   repeat (go_quiet (fail); try go_wp2)
   go_meet
   case rel => exact ⟨_, (true), (si_), H', ⟨by first | omega | exact Nat.le_refl _⟩, ⟨by (with_reducible repeat (first | refine blk_drewN ?_ _ | refine blk_drew ?_ | refine blk_alloc ?_ _)); exact BK151.out⟩, ⟨bel_⟩⟩
  ·rw [if_neg c7] at H
   have c7b0 : (a1_0 == 2) = false := beq_eq_false_iff_ne.mpr c7
   have c7b1 : (a1_0 != 2) = true := bne_iff_ne.mpr c7
   (first | rw [c7b0] | (simp only [i64_w, i32_w]; rw [c7b0]) | skip)
   by_cases c9 : ((decide (t152 ≥ 0)) != (a1_0 == 3)) = true
   ·rw [if_pos c9] at H
    have c9b0 : ((decide (t152 ≥ 0)) != (a1_0 == 3)) = true := c9
    (try (have c9b1 : decide ((decide (t152 ≥ 0)) = (a1_0 == 3)) = false := by simpa using c9))
    (try (have c9b2 : ((decide (t152 ≥ 0)) == (a1_0 == 3)) = false := by simpa using c9))
    (try (have c9b3 : ¬ ((decide (t152 ≥ 0)) = (a1_0 == 3)) := by simpa using c9))
    clear c9
    have H' := Aside0.mk H
    clear H
    have hcz10_0 : w5.cell? ⟨gb151, 0, none⟩ = some (.int .i64 a1_0) := (blk_cell BK151.out 0).trans rfl
    have hcz10_1 : w5.cell? ⟨gb151, 1, none⟩ = some (.int .i64 a1_1) := (blk_cell BK151.out 1).trans rfl
    have hcz10_2 : w5.cell? ⟨gb151, 2, none⟩ = some (.int .i64 a1_2) := (blk_cell BK151.out 2).trans rfl
    have hcz10_3 : w5.cell? ⟨gb151, 3, none⟩ = some (.int .i64 a1_3) := (blk_cell BK151.out 3).trans rfl
    have hcz10_4 : w5.cell? ⟨gb151, 4, none⟩ = some (.string a1_4) := (blk_cell BK151.out 4).trans rfl
    have hfz10_0 := blk_frozen BK151.out 0
    have hfz10_1 := blk_frozen BK151.out 1
    have hfz10_2 := blk_frozen BK151.out 2
    have hfz10_3 := blk_frozen BK151.out 3
    have hfz10_4 := blk_frozen BK151.out 4
    go_wp2
    repeat (go_quiet (fail); try go_wp2)
    go_meet
    case rel => exact ⟨_, (true), (si_), H', ⟨by first | omega | exact Nat.le_refl _⟩, ⟨by (with_reducible repeat (first | refine blk_drewN ?_ _ | refine blk_drew ?_ | refine blk_alloc ?_ _)); exact BK151.out⟩, ⟨bel_⟩⟩
   ·rw [if_neg c9] at H
    have c9b0 : ((decide (t152 ≥ 0)) != (a1_0 == 3)) = false := by simpa using c9
    (try (have c9b1 : decide ((decide (t152 ≥ 0)) = (a1_0 == 3)) = true := by simpa using c9))
    (try (have c9b2 : ((decide (t152 ≥ 0)) == (a1_0 == 3)) = true := by simpa using c9))
    clear c9
    by_cases c11 : t152 ≥ 0
    ·rw [if_pos c11] at H
     have k3_ : (a1_0 == 3) = true := by
      have h_ := c9b0
      rw [show decide (t152 ≥ 0) = true from decide_eq_true c11] at h_
      generalize (a1_0 == 3) = z at h_
      cases z
      all_goals first | rfl | cases h_
     clear c9b0
     (try clear c9b1)
     (try clear c9b2)
     have c11b0 : decide (0 ≤ t152) = true := decide_eq_true c11
     clear c11
     replace H := Option.bind_eq_some_iff.mp H
     obtain ⟨t153, A120, H⟩ := H
     replace H : (spec_l3Where.j0 k l0 t153 a1_0 a1_1 a1_2 a1_3 a1_4) = some (r1, r2, r3) := H
     have A12 := Aside0.mk A120
     clear A120
     have H' := Aside0.mk H
     clear H
     have hcz13_0 : w5.cell? ⟨gb151, 0, none⟩ = some (.int .i64 a1_0) := (blk_cell BK151.out 0).trans rfl
     have hcz13_1 : w5.cell? ⟨gb151, 1, none⟩ = some (.int .i64 a1_1) := (blk_cell BK151.out 1).trans rfl
     have hcz13_2 : w5.cell? ⟨gb151, 2, none⟩ = some (.int .i64 a1_2) := (blk_cell BK151.out 2).trans rfl
     have hcz13_3 : w5.cell? ⟨gb151, 3, none⟩ = some (.int .i64 a1_3) := (blk_cell BK151.out 3).trans rfl
     have hcz13_4 : w5.cell? ⟨gb151, 4, none⟩ = some (.string a1_4) := (blk_cell BK151.out 4).trans rfl
     have hfz13_0 := blk_frozen BK151.out 0
     have hfz13_1 := blk_frozen BK151.out 1
     have hfz13_2 := blk_frozen BK151.out 2
     have hfz13_3 := blk_frozen BK151.out 3
     have hfz13_4 := blk_frozen BK151.out 4
     go_wp2_with (first | (go_at_call 78; (with_reducible refine (spec_l2Under.calls k _ _ l0 a1_2 a1_1 t153 _ ?side1 ?side2 A12.out).mono ?_); (case side1 => exact cp_ HR0.out); (case side2 => exact HC0.out); rintro e w' ⟨rfl, ⟨nd, rfl⟩⟩; (try first | exact ⟨rfl, _, World.drewN_drewN _ _ _⟩ | exact ⟨rfl, _, Eq.trans (World.drewN_drewN _ _ _) (congrArg (World.drewN _) (Nat.add_assoc _ _ _))⟩)))
     repeat (go_quiet (first | (go_at_call 78; (with_reducible refine (spec_l2Under.calls k _ _ l0 a1_2 a1_1 t153 _ ?side1 ?side2 A12.out).mono ?_); (case side1 => exact cp_ HR0.out); (case side2 => exact HC0.out); rintro e w' ⟨rfl, ⟨nd, rfl⟩⟩; (try first | exact ⟨rfl, _, World.drewN_drewN _ _ _⟩ | exact ⟨rfl, _, Eq.trans (World.drewN_drewN _ _ _) (congrArg (World.drewN _) (Nat.add_assoc _ _ _))⟩))); try go_wp2_with (first | (go_at_call 78; (with_reducible refine (spec_l2Under.calls k _ _ l0 a1_2 a1_1 t153 _ ?side1 ?side2 A12.out).mono ?_); (case side1 => exact cp_ HR0.out); (case side2 => exact HC0.out); rintro e w' ⟨rfl, ⟨nd, rfl⟩⟩; (try first | exact ⟨rfl, _, World.drewN_drewN _ _ _⟩ | exact ⟨rfl, _, Eq.trans (World.drewN_drewN _ _ _) (congrArg (World.drewN _) (Nat.add_assoc _ _ _))⟩))))
     go_meet
     case rel => exact ⟨_, (t153), (si_), H', ⟨by first | omega | exact Nat.le_refl _⟩, ⟨by (with_reducible repeat (first | refine blk_drewN ?_ _ | refine blk_drew ?_ | refine blk_alloc ?_ _)); exact BK151.out⟩, ⟨bel_⟩⟩
    ·rw [if_neg c11] at H
     have k3_ : (a1_0 == 3) = false := by
      have h_ := c9b0
      rw [show decide (t152 ≥ 0) = false from decide_eq_false c11] at h_
      generalize (a1_0 == 3) = z at h_
      cases z
      all_goals first | rfl | cases h_
     clear c9b0
     (try clear c9b1)
     (try clear c9b2)
     have c11b0 : decide (0 ≤ t152) = false := decide_eq_false c11
     clear c11
     have H' := Aside0.mk H
     clear H
     have hcz14_0 : w5.cell? ⟨gb151, 0, none⟩ = some (.int .i64 a1_0) := (blk_cell BK151.out 0).trans rfl
     have hcz14_1 : w5.cell? ⟨gb151, 1, none⟩ = some (.int .i64 a1_1) := (blk_cell BK151.out 1).trans rfl
     have hcz14_2 : w5.cell? ⟨gb151, 2, none⟩ = some (.int .i64 a1_2) := (blk_cell BK151.out 2).trans rfl
     have hcz14_3 : w5.cell? ⟨gb151, 3, none⟩ = some (.int .i64 a1_3) := (blk_cell BK151.out 3).trans rfl
     have hcz14_4 : w5.cell? ⟨gb151, 4, none⟩ = some (.string a1_4) := (blk_cell BK151.out 4).trans rfl
     have hfz14_0 := blk_frozen BK151.out 0
     have hfz14_1 := blk_frozen BK151.out 1
     have hfz14_2 := blk_frozen BK151.out 2
     have hfz14_3 := blk_frozen BK151.out 3
     have hfz14_4 := blk_frozen BK151.out 4
     go_wp2
     repeat (go_quiet (fail); try go_wp2)
     go_meet
     case rel => exact ⟨_, (false), (si_), H', ⟨by first | omega | exact Nat.le_refl _⟩, ⟨by (with_reducible repeat (first | refine blk_drewN ?_ _ | refine blk_drew ?_ | refine blk_alloc ?_ _)); exact BK151.out⟩, ⟨bel_⟩⟩
 case rest =>
  clear HC4
  try clear c1
  try clear p2
  try clear c6
  try clear c7
  try clear c7b0
  try clear c7b1
  try clear c9
  try clear c9b0
  try clear c9b1
  try clear c9b2
  try clear c11
  try clear c11b0
  try clear hcz10_0
  try clear hcz10_1
  try clear hcz10_2
  try clear hcz10_3
  try clear hcz10_4
  try clear hcz13_0
  try clear hcz13_1
  try clear hcz13_2
  try clear hcz13_3
  try clear hcz13_4
  try clear hcz14_0
  try clear hcz14_1
  try clear hcz14_2
  try clear hcz14_3
  try clear hcz14_4
  try clear hcz6_0
  try clear hcz6_1
  try clear hcz6_2
  try clear hcz6_3
  try clear hcz6_4
  try clear hcz8_0
  try clear hcz8_1
  try clear hcz8_2
  try clear hcz8_3
  try clear hcz8_4
  try clear hfz10_0
  try clear hfz10_1
  try clear hfz10_2
  try clear hfz10_3
  try clear hfz10_4
  try clear hfz13_0
  try clear hfz13_1
  try clear hfz13_2
  try clear hfz13_3
  try clear hfz13_4
  try clear hfz14_0
  try clear hfz14_1
  try clear hfz14_2
  try clear hfz14_3
  try clear hfz14_4
  try clear hfz6_0
  try clear hfz6_1
  try clear hfz6_2
  try clear hfz6_3
  try clear hfz6_4
  try clear hfz8_0
  try clear hfz8_1
  try clear hfz8_2
  try clear hfz8_3
  try clear hfz8_4
  obtain ⟨kq, x37_3, rfl, HA, HJ3, BK151, HB⟩ := hcut
  cases kq with
  | zero => exact absurd HA.out (by simp [spec_l3Where.j0])
  | succ kj3 =>
   have H := HA.out
   clear HA
   simp only [spec_l3Where.j0] at H
   by_cases c15 : x37_3 = true
   ·subst c15
    have H1 : (some (0, 0, false)) = some (r1, r2, r3) := by rw [if_pos rfl] at H; exact H
    clear H
    have H := H1
    clear H1
    simp only [Option.some.injEq, Prod.mk.injEq] at H
    obtain ⟨rfl, rfl, rfl⟩ := H
    go_wp2
    repeat (go_quiet (fail); try go_wp2)
    go_ret3
    exact ⟨fi_, bel_⟩
   ·replace c15 := Bool.eq_false_iff.mpr c15
    subst c15
    have H1 : ((spec_l2At.f kj3 l0 a1_2).bind fun t154 => (if t154 < 0 then (some (3, 0, true)) else ((spec_l2Kids.f kj3 l0 a1_2).bind fun t155 => (spec_l3Where.l0 kj3 a1_2 0 t155 0 a1_0 a1_1 a1_2 a1_3 a1_4)))) = some (r1, r2, r3) := by rw [if_neg (show ¬ (false = true) by decide)] at H; exact H
    clear H
    have H := H1
    clear H1
    replace H := Option.bind_eq_some_iff.mp H
    obtain ⟨t154, A160, H⟩ := H
    replace H : (if t154 < 0 then (some (3, 0, true)) else ((spec_l2Kids.f kj3 l0 a1_2).bind fun t155 => (spec_l3Where.l0 kj3 a1_2 0 t155 0 a1_0 a1_1 a1_2 a1_3 a1_4))) = some (r1, r2, r3) := H
    have A16 := Aside0.mk A160
    clear A160
    by_cases c17 : t154 < 0
    ·rw [if_pos c17] at H
     have c17b0 : decide (t154 < 0) = true := decide_eq_true c17
     clear c17
     simp only [Option.some.injEq, Prod.mk.injEq] at H
     obtain ⟨rfl, rfl, rfl⟩ := H
     have hcz18_0 : wc.cell? ⟨gb151, 0, none⟩ = some (.int .i64 a1_0) := (blk_cell BK151.out 0).trans rfl
     have hcz18_1 : wc.cell? ⟨gb151, 1, none⟩ = some (.int .i64 a1_1) := (blk_cell BK151.out 1).trans rfl
     have hcz18_2 : wc.cell? ⟨gb151, 2, none⟩ = some (.int .i64 a1_2) := (blk_cell BK151.out 2).trans rfl
     have hcz18_3 : wc.cell? ⟨gb151, 3, none⟩ = some (.int .i64 a1_3) := (blk_cell BK151.out 3).trans rfl
     have hcz18_4 : wc.cell? ⟨gb151, 4, none⟩ = some (.string a1_4) := (blk_cell BK151.out 4).trans rfl
     have hfz18_0 := blk_frozen BK151.out 0
     have hfz18_1 := blk_frozen BK151.out 1
     have hfz18_2 := blk_frozen BK151.out 2
     have hfz18_3 := blk_frozen BK151.out 3
     have hfz18_4 := blk_frozen BK151.out 4
     go_wp2_with (first | (go_at_call 60; (with_reducible refine (spec_l2At.calls kj3 _ _ l0 a1_2 t154 _ ?side1 ?side2 A16.out).mono ?_); (case side1 => exact cp_ HR0.out); (case side2 => exact HC0.out); rintro e w' ⟨rfl, ⟨nd, rfl⟩⟩; (try first | exact ⟨rfl, _, World.drewN_drewN _ _ _⟩ | exact ⟨rfl, _, Eq.trans (World.drewN_drewN _ _ _) (congrArg (World.drewN _) (Nat.add_assoc _ _ _))⟩)))
     repeat (go_quiet (first | (go_at_call 60; (with_reducible refine (spec_l2At.calls kj3 _ _ l0 a1_2 t154 _ ?side1 ?side2 A16.out).mono ?_); (case side1 => exact cp_ HR0.out); (case side2 => exact HC0.out); rintro e w' ⟨rfl, ⟨nd, rfl⟩⟩; (try first | exact ⟨rfl, _, World.drewN_drewN _ _ _⟩ | exact ⟨rfl, _, Eq.trans (World.drewN_drewN _ _ _) (congrArg (World.drewN _) (Nat.add_assoc _ _ _))⟩))); try go_wp2_with (first | (go_at_call 60; (with_reducible refine (spec_l2At.calls kj3 _ _ l0 a1_2 t154 _ ?side1 ?side2 A16.out).mono ?_); (case side1 => exact cp_ HR0.out); (case side2 => exact HC0.out); rintro e w' ⟨rfl, ⟨nd, rfl⟩⟩; (try first | exact ⟨rfl, _, World.drewN_drewN _ _ _⟩ | exact ⟨rfl, _, Eq.trans (World.drewN_drewN _ _ _) (congrArg (World.drewN _) (Nat.add_assoc _ _ _))⟩))))
     go_ret3
     exact ⟨fi_, bel_⟩
    ·rw [if_neg c17] at H
     have c17b0 : decide (t154 < 0) = false := decide_eq_false c17
     clear c17
     replace H := Option.bind_eq_some_iff.mp H
     obtain ⟨t155, A190, H⟩ := H
     replace H : (spec_l3Where.l0 kj3 a1_2 0 t155 0 a1_0 a1_1 a1_2 a1_3 a1_4) = some (r1, r2, r3) := H
     have A19 := Aside0.mk A190
     clear A190
     have H' := Aside0.mk H
     clear H
     have hcz20_0 : wc.cell? ⟨gb151, 0, none⟩ = some (.int .i64 a1_0) := (blk_cell BK151.out 0).trans rfl
     have hcz20_1 : wc.cell? ⟨gb151, 1, none⟩ = some (.int .i64 a1_1) := (blk_cell BK151.out 1).trans rfl
     have hcz20_2 : wc.cell? ⟨gb151, 2, none⟩ = some (.int .i64 a1_2) := (blk_cell BK151.out 2).trans rfl
     have hcz20_3 : wc.cell? ⟨gb151, 3, none⟩ = some (.int .i64 a1_3) := (blk_cell BK151.out 3).trans rfl
     have hcz20_4 : wc.cell? ⟨gb151, 4, none⟩ = some (.string a1_4) := (blk_cell BK151.out 4).trans rfl
     have hfz20_0 := blk_frozen BK151.out 0
     have hfz20_1 := blk_frozen BK151.out 1
     have hfz20_2 := blk_frozen BK151.out 2
     have hfz20_3 := blk_frozen BK151.out 3
     have hfz20_4 := blk_frozen BK151.out 4
     go_wp2_with (first | (go_at_call 60; (with_reducible refine (spec_l2At.calls kj3 _ _ l0 a1_2 t154 _ ?side1 ?side2 A16.out).mono ?_); (case side1 => exact cp_ HR0.out); (case side2 => exact HC0.out); rintro e w' ⟨rfl, ⟨nd, rfl⟩⟩; (try first | exact ⟨rfl, _, World.drewN_drewN _ _ _⟩ | exact ⟨rfl, _, Eq.trans (World.drewN_drewN _ _ _) (congrArg (World.drewN _) (Nat.add_assoc _ _ _))⟩)) | (go_at_call 73; (with_reducible refine (spec_l2Kids.calls kj3 _ _ l0 a1_2 t155 _ ?side1 ?side2 A19.out).mono ?_); (case side1 => repeat (first | exact (Kd.C_below HR0.out (bel_)) | (with_reducible refine Kd.C_alloc ?_ _) | (with_reducible refine Kd.C_drewN ?_ _) | (with_reducible refine Kd.C_drew ?_))); (case side2 => exact HC0.out); rintro e w21 ⟨v156, rfl, ho0, hb⟩; have HO157 := Aside0.mk (Kd.R_lower ho0 (below_size (bel_))); replace HB := Aside0.mk (below_step (bel_) hb); replace BK151 := Aside0.mk (blk_below (g := gb151) (o := .cells #[.int .i64 a1_0, .int .i64 a1_1, .int .i64 a1_2, .int .i64 a1_3, .string a1_4] 30 (0, 0)) (bp_ BK151.out) hb); (try clear hb); (try clear hb2); (try clear hk); (try clear hi); (try clear ho0)))
     repeat (go_quiet (first | (go_at_call 60; (with_reducible refine (spec_l2At.calls kj3 _ _ l0 a1_2 t154 _ ?side1 ?side2 A16.out).mono ?_); (case side1 => exact cp_ HR0.out); (case side2 => exact HC0.out); rintro e w' ⟨rfl, ⟨nd, rfl⟩⟩; (try first | exact ⟨rfl, _, World.drewN_drewN _ _ _⟩ | exact ⟨rfl, _, Eq.trans (World.drewN_drewN _ _ _) (congrArg (World.drewN _) (Nat.add_assoc _ _ _))⟩)) | (go_at_call 73; (with_reducible refine (spec_l2Kids.calls kj3 _ _ l0 a1_2 t155 _ ?side1 ?side2 A19.out).mono ?_); (case side1 => repeat (first | exact (Kd.C_below HR0.out (bel_)) | (with_reducible refine Kd.C_alloc ?_ _) | (with_reducible refine Kd.C_drewN ?_ _) | (with_reducible refine Kd.C_drew ?_))); (case side2 => exact HC0.out); rintro e w21 ⟨v156, rfl, ho0, hb⟩; have HO157 := Aside0.mk (Kd.R_lower ho0 (below_size (bel_))); replace HB := Aside0.mk (below_step (bel_) hb); replace BK151 := Aside0.mk (blk_below (g := gb151) (o := .cells #[.int .i64 a1_0, .int .i64 a1_1, .int .i64 a1_2, .int .i64 a1_3, .string a1_4] 30 (0, 0)) (bp_ BK151.out) hb); (try clear hb); (try clear hb2); (try clear hk); (try clear hi); (try clear ho0))); try go_wp2_with (first | (go_at_call 60; (with_reducible refine (spec_l2At.calls kj3 _ _ l0 a1_2 t154 _ ?side1 ?side2 A16.out).mono ?_); (case side1 => exact cp_ HR0.out); (case side2 => exact HC0.out); rintro e w' ⟨rfl, ⟨nd, rfl⟩⟩; (try first | exact ⟨rfl, _, World.drewN_drewN _ _ _⟩ | exact ⟨rfl, _, Eq.trans (World.drewN_drewN _ _ _) (congrArg (World.drewN _) (Nat.add_assoc _ _ _))⟩)) | (go_at_call 73; (with_reducible refine (spec_l2Kids.calls kj3 _ _ l0 a1_2 t155 _ ?side1 ?side2 A19.out).mono ?_); (case side1 => repeat (first | exact (Kd.C_below HR0.out (bel_)) | (with_reducible refine Kd.C_alloc ?_ _) | (with_reducible refine Kd.C_drewN ?_ _) | (with_reducible refine Kd.C_drew ?_))); (case side2 => exact HC0.out); rintro e w21 ⟨v156, rfl, ho0, hb⟩; have HO157 := Aside0.mk (Kd.R_lower ho0 (below_size (bel_))); replace HB := Aside0.mk (below_step (bel_) hb); replace BK151 := Aside0.mk (blk_below (g := gb151) (o := .cells #[.int .i64 a1_0, .int .i64 a1_1, .int .i64 a1_2, .int .i64 a1_3, .string a1_4] 30 (0, 0)) (bp_ BK151.out) hb); (try clear hb); (try clear hb2); (try clear hk); (try clear hi); (try clear ho0))))
     go_loopg [9, 11] kj3 (fun kq v9 v11 w' => ∃ (x9_2 : Int) (x11_2 : Int), v9 = .int .i64 x9_2 ∧ v11 = .int .i64 x11_2 ∧ Aside0 (spec_l3Where.l0 kq a1_2 x9_2 t155 x11_2 a1_0 a1_1 a1_2 a1_3 a1_4 = some (r1, r2, r3)) ∧ Aside0 (kq ≤ kj3) ∧ Aside0 (Kd.R (Kd.int .i64) 3 w' w.heap.size (fun _ => True) v156 t155) ∧ Aside0 (w'.heap[gb151]? = some (.cells #[.int .i64 a1_0, .int .i64 a1_1, .int .i64 a1_2, .int .i64 a1_3, .string a1_4] 30 (0, 0))) ∧ Aside0 (Below w.heap.size w w'))
     case atStart => exact ⟨(0), (0), (si_), (si_), H', ⟨Nat.le_refl _⟩, ⟨by (with_reducible repeat (first | apply Kd.R_alloc | apply Kd.R_drewN | apply Kd.R_drew)); exact HO157.out⟩, ⟨by (with_reducible repeat (first | refine blk_drewN ?_ _ | refine blk_drew ?_ | refine blk_alloc ?_ _)); exact BK151.out⟩, ⟨bel_⟩⟩
     case round =>
      clear H'
      try clear c1
      try clear p2
      try clear c6
      try clear c7
      try clear c7b0
      try clear c7b1
      try clear c9
      try clear c9b0
      try clear c9b1
      try clear c9b2
      try clear c11
      try clear c11b0
      try clear c15
      try clear c17
      try clear c17b0
      try clear hcz10_0
      try clear hcz10_1
      try clear hcz10_2
      try clear hcz10_3
      try clear hcz10_4
      try clear hcz13_0
      try clear hcz13_1
      try clear hcz13_2
      try clear hcz13_3
      try clear hcz13_4
      try clear hcz14_0
      try clear hcz14_1
      try clear hcz14_2
      try clear hcz14_3
      try clear hcz14_4
      try clear hcz18_0
      try clear hcz18_1
      try clear hcz18_2
      try clear hcz18_3
      try clear hcz18_4
      try clear hcz20_0
      try clear hcz20_1
      try clear hcz20_2
      try clear hcz20_3
      try clear hcz20_4
      try clear hcz6_0
      try clear hcz6_1
      try clear hcz6_2
      try clear hcz6_3
      try clear hcz6_4
      try clear hcz8_0
      try clear hcz8_1
      try clear hcz8_2
      try clear hcz8_3
      try clear hcz8_4
      try clear hfz10_0
      try clear hfz10_1
      try clear hfz10_2
      try clear hfz10_3
      try clear hfz10_4
      try clear hfz13_0
      try clear hfz13_1
      try clear hfz13_2
      try clear hfz13_3
      try clear hfz13_4
      try clear hfz14_0
      try clear hfz14_1
      try clear hfz14_2
      try clear hfz14_3
      try clear hfz14_4
      try clear hfz18_0
      try clear hfz18_1
      try clear hfz18_2
      try clear hfz18_3
      try clear hfz18_4
      try clear hfz20_0
      try clear hfz20_1
      try clear hfz20_2
      try clear hfz20_3
      try clear hfz20_4
      try clear hfz6_0
      try clear hfz6_1
      try clear hfz6_2
      try clear hfz6_3
      try clear hfz6_4
      try clear hfz8_0
      try clear hfz8_1
      try clear hfz8_2
      try clear hfz8_3
      try clear hfz8_4
      try clear p2
      obtain ⟨x9_2, x11_2, rfl, rfl, HA, HK2, HO_10, BK151, HB⟩ := hrel
      cases gk with
      | zero => exact absurd HA.out (by simp [spec_l3Where.l0])
      | succ k2 =>
       have H := HA.out
       clear HA
       simp only [spec_l3Where.l0] at H
       by_cases c22 : x11_2 < (t155.length : Int)
       ·rw [if_pos c22] at H
        have c22b0 : decide (x11_2 < (t155.length : Int)) = true := decide_eq_true c22
        clear c22
        by_cases c23 : 0 ≤ x11_2
        ·rw [if_pos c23] at H
         have c23b0 : decide (0 ≤ x11_2) = true := decide_eq_true c23
         clear c23
         by_cases c24 : (rd t155 x11_2) = a1_3
         ·rw [if_pos c24] at H
          have c24b0 : ((rd t155 x11_2) == a1_3) = true := beq_iff_eq.mpr c24
          have c24b1 : ((rd t155 x11_2) != a1_3) = false := bne_eq_false_iff_eq.mpr c24
          clear c24
          by_cases c25 : a1_3 = a1_1
          ·rw [if_pos c25] at H
           have c25b0 : (a1_3 == a1_1) = true := beq_iff_eq.mpr c25
           have c25b1 : (a1_3 != a1_1) = false := bne_eq_false_iff_eq.mpr c25
           clear c25
           have H' := Aside0.mk H
           clear H
           obtain ⟨Ao26, co26, eo26⟩ := Kd.R_slice HO_10.out
           subst eo26
           have p158 : 0 ≤ (x11_2 : Int) := od_
           have q158 : x11_2 < (t155.length : Int) := od_
           obtain ⟨ad158, e158, hx158_0⟩ := Kd.at_int (Kd.R_reads' HO_10.out).2.2 x11_2 p158 q158
           cases e158
           replace p158 := eq_true p158
           replace q158 := eq_true q158
           have hcz27_0 : wr.cell? ⟨gb151, 0, none⟩ = some (.int .i64 a1_0) := (blk_cell BK151.out 0).trans rfl
           have hcz27_1 : wr.cell? ⟨gb151, 1, none⟩ = some (.int .i64 a1_1) := (blk_cell BK151.out 1).trans rfl
           have hcz27_2 : wr.cell? ⟨gb151, 2, none⟩ = some (.int .i64 a1_2) := (blk_cell BK151.out 2).trans rfl
           have hcz27_3 : wr.cell? ⟨gb151, 3, none⟩ = some (.int .i64 a1_3) := (blk_cell BK151.out 3).trans rfl
           have hcz27_4 : wr.cell? ⟨gb151, 4, none⟩ = some (.string a1_4) := (blk_cell BK151.out 4).trans rfl
           have hfz27_0 := blk_frozen BK151.out 0
           have hfz27_1 := blk_frozen BK151.out 1
           have hfz27_2 := blk_frozen BK151.out 2
           have hfz27_3 := blk_frozen BK151.out 3
           have hfz27_4 := blk_frozen BK151.out 4
           go_wp2
           repeat (go_quiet (fail); try go_wp2)
           go_roundg k2
           case measure => have := HJ3.out; have := HK2.out; omega
           case rel => exact ⟨(x9_2), (wrap64 (x11_2 + 1)), (si_), (si_), H', ⟨by have := HJ3.out; have := HK2.out; omega⟩, ⟨by (with_reducible repeat (first | apply Kd.R_alloc | apply Kd.R_drewN | apply Kd.R_drew)); exact HO_10.out⟩, ⟨by (with_reducible repeat (first | refine blk_drewN ?_ _ | refine blk_drew ?_ | refine blk_alloc ?_ _)); exact BK151.out⟩, ⟨bel_⟩⟩
          ·rw [if_neg c25] at H
           have c25b0 : (a1_3 == a1_1) = false := beq_eq_false_iff_ne.mpr c25
           have c25b1 : (a1_3 != a1_1) = true := bne_iff_ne.mpr c25
           have H' := Aside0.mk H
           clear H
           obtain ⟨Ao28, co28, eo28⟩ := Kd.R_slice HO_10.out
           subst eo28
           have p158 : 0 ≤ (x11_2 : Int) := od_
           have q158 : x11_2 < (t155.length : Int) := od_
           obtain ⟨ad158, e158, hx158_0⟩ := Kd.at_int (Kd.R_reads' HO_10.out).2.2 x11_2 p158 q158
           cases e158
           replace p158 := eq_true p158
           replace q158 := eq_true q158
           have hcz29_0 : wr.cell? ⟨gb151, 0, none⟩ = some (.int .i64 a1_0) := (blk_cell BK151.out 0).trans rfl
           have hcz29_1 : wr.cell? ⟨gb151, 1, none⟩ = some (.int .i64 a1_1) := (blk_cell BK151.out 1).trans rfl
           have hcz29_2 : wr.cell? ⟨gb151, 2, none⟩ = some (.int .i64 a1_2) := (blk_cell BK151.out 2).trans rfl
           have hcz29_3 : wr.cell? ⟨gb151, 3, none⟩ = some (.int .i64 a1_3) := (blk_cell BK151.out 3).trans rfl
           have hcz29_4 : wr.cell? ⟨gb151, 4, none⟩ = some (.string a1_4) := (blk_cell BK151.out 4).trans rfl
           have hfz29_0 := blk_frozen BK151.out 0
           have hfz29_1 := blk_frozen BK151.out 1
           have hfz29_2 := blk_frozen BK151.out 2
           have hfz29_3 := blk_frozen BK151.out 3
           have hfz29_4 := blk_frozen BK151.out 4
           go_wp2
           repeat (go_quiet (fail); try go_wp2)
           go_roundg k2
           case measure => have := HJ3.out; have := HK2.out; omega
           case rel => exact ⟨(a1_3), (wrap64 (x11_2 + 1)), (si_), (si_), H', ⟨by have := HJ3.out; have := HK2.out; omega⟩, ⟨by (with_reducible repeat (first | apply Kd.R_alloc | apply Kd.R_drewN | apply Kd.R_drew)); exact HO_10.out⟩, ⟨by (with_reducible repeat (first | refine blk_drewN ?_ _ | refine blk_drew ?_ | refine blk_alloc ?_ _)); exact BK151.out⟩, ⟨bel_⟩⟩
         ·rw [if_neg c24] at H
          have c24b0 : ((rd t155 x11_2) == a1_3) = false := beq_eq_false_iff_ne.mpr c24
          have c24b1 : ((rd t155 x11_2) != a1_3) = true := bne_iff_ne.mpr c24
          have H' := Aside0.mk H
          clear H
          obtain ⟨Ao30, co30, eo30⟩ := Kd.R_slice HO_10.out
          subst eo30
          have p158 : 0 ≤ (x11_2 : Int) := od_
          have q158 : x11_2 < (t155.length : Int) := od_
          obtain ⟨ad158, e158, hx158_0⟩ := Kd.at_int (Kd.R_reads' HO_10.out).2.2 x11_2 p158 q158
          cases e158
          replace p158 := eq_true p158
          replace q158 := eq_true q158
          have hcz31_0 : wr.cell? ⟨gb151, 0, none⟩ = some (.int .i64 a1_0) := (blk_cell BK151.out 0).trans rfl
          have hcz31_1 : wr.cell? ⟨gb151, 1, none⟩ = some (.int .i64 a1_1) := (blk_cell BK151.out 1).trans rfl
          have hcz31_2 : wr.cell? ⟨gb151, 2, none⟩ = some (.int .i64 a1_2) := (blk_cell BK151.out 2).trans rfl
          have hcz31_3 : wr.cell? ⟨gb151, 3, none⟩ = some (.int .i64 a1_3) := (blk_cell BK151.out 3).trans rfl
          have hcz31_4 : wr.cell? ⟨gb151, 4, none⟩ = some (.string a1_4) := (blk_cell BK151.out 4).trans rfl
          have hfz31_0 := blk_frozen BK151.out 0
          have hfz31_1 := blk_frozen BK151.out 1
          have hfz31_2 := blk_frozen BK151.out 2
          have hfz31_3 := blk_frozen BK151.out 3
          have hfz31_4 := blk_frozen BK151.out 4
          go_wp2
          repeat (go_quiet (fail); try go_wp2)
          go_roundg k2
          case measure => have := HJ3.out; have := HK2.out; omega
          case rel => exact ⟨(x9_2), (wrap64 (x11_2 + 1)), (si_), (si_), H', ⟨by have := HJ3.out; have := HK2.out; omega⟩, ⟨by (with_reducible repeat (first | apply Kd.R_alloc | apply Kd.R_drewN | apply Kd.R_drew)); exact HO_10.out⟩, ⟨by (with_reducible repeat (first | refine blk_drewN ?_ _ | refine blk_drew ?_ | refine blk_alloc ?_ _)); exact BK151.out⟩, ⟨bel_⟩⟩
        ·rw [if_neg c23] at H
         exact absurd H (by simp)
       ·rw [if_neg c22] at H
        have c22b0 : decide (x11_2 < (t155.length : Int)) = false := decide_eq_false c22
        clear c22
        simp only [Option.some.injEq, Prod.mk.injEq] at H
        obtain ⟨rfl, rfl, rfl⟩ := H
        obtain ⟨Ao32, co32, eo32⟩ := Kd.R_slice HO_10.out
        subst eo32
        go_wp2
        repeat (go_quiet (fail); try go_wp2)
        go_ret3
        exact ⟨fi_, bel_⟩

end Go.Proofs.YtkopimbbgckcnaaDoor.P
namespace Go.Proofs.YtkopimbbgckcnaaDoor.P
open Go.RowKit Go.Proofs.YtkopimbbgckcnaaDoorW.PrintWords Go.Proofs.YtkopimbbgckcnaaDoorW.PrintLast
set_option linter.unusedVariables false
set_option linter.unusedSimpArgs false
mutual
def spec_l3Put.j0 : Nat → List (S43) → List (S43) → Int → Int → Option ((List (S43)))
 | 0, _, _, _, _ => none
 | k + 1, x0, x1, x10, x11 => (some (([] : List (S43)) : List (S43))).bind fun y164 => (if 0 ≤ x11 then (if x11 ≤ (x0.length : Int) then ((some (x0.take (x11 : Int).toNat : List (S43))).bind fun y167 => (if y164.length + y167.length < 4398046511104 then (spec_l3Put.l0 k x0 x1 x10 x11 (y164 ++ y167) 0) else (none))) else (none)) else (none))
def spec_l3Put.l0 : Nat → List (S43) → List (S43) → Int → Int → List (S43) → Int → Option ((List (S43)))
 | 0, _, _, _, _, _, _ => none
 | k + 1, x0, x1, x10, x11, x12, x13 => if x13 < (x1.length : Int) then (if 0 ≤ x13 then (if x12.length < 4398046511104 then (spec_l3Put.l0 k x0 x1 x10 x11 (x12 ++ [(⟨(rd_T43 x1 x13).f0, wrap64 (((rd_T43 x1 x13).f1) + x10), (rd_T43 x1 x13).f2⟩ : S43)]) (wrap64 (x13 + 1))) else (none)) else (none)) else (if 0 ≤ x11 then (if x11 ≤ (x0.length : Int) then ((some (x0.drop (x11 : Int).toNat : List (S43))).bind fun y179 => (if x12.length + y179.length < 4398046511104 then (some (x12 ++ y179)) else (none))) else (none)) else (none))
end
def spec_l3Put.f (k : Nat) (l0 : List (S43)) (l1 : List (S43)) (a2 : Int) (a3 : Int) : Option ((List (S43))) := (spec_l2At.f k l0 a2).bind fun t159 => (if 0 ≤ t159 then (if t159 < (l0.length : Int) then (if 0 < (l1.length : Int) then (if a3 > 0 then ((spec_l2At.f k l0 a3).bind fun t162 => ((spec_l2End.f k l0 t162).bind fun t163 => (spec_l3Put.j0 k l0 l1 (wrap64 ((wrap64 (((rd_T43 l0 t159).f1) + 1)) - ((rd_T43 l1 0).f1))) t163))) else (spec_l3Put.j0 k l0 l1 (wrap64 ((wrap64 (((rd_T43 l0 t159).f1) + 1)) - ((rd_T43 l1 0).f1))) (wrap64 (t159 + 1)))) else (none)) else (none)) else (none))
theorem spec_l3Put.mono_l : ∀ k, (∀ y0 y1 y2 y3, LeO (spec_l3Put.j0 k y0 y1 y2 y3) (spec_l3Put.j0 (k + 1) y0 y1 y2 y3)) ∧ (∀ y0 y1 y2 y3 y4 y5, LeO (spec_l3Put.l0 k y0 y1 y2 y3 y4 y5) (spec_l3Put.l0 (k + 1) y0 y1 y2 y3 y4 y5))
 | 0 => ⟨fun _ _ _ _ r h => by simp [spec_l3Put.j0] at h, fun _ _ _ _ _ _ r h => by simp [spec_l3Put.l0] at h⟩
 | k + 1 => by
  obtain ⟨ih0, ih1⟩ := spec_l3Put.mono_l k
  refine ⟨?_, ?_⟩
  ·intro y0 y1 y2 y3
   unfold spec_l3Put.j0
   repeat' first
   | (with_reducible exact ih0 _ _ _ _)
   | (with_reducible exact ih1 _ _ _ _ _ _)
   | (with_reducible exact spec_l2At.mono _ _ _)
   | (with_reducible exact spec_l2End.mono _ _ _)
   | (with_reducible exact LeO.refl _)
   | (with_reducible exact LeO.none _)
   | (with_reducible refine LeO.ite ?_ ?_)
   | (with_reducible refine LeO.bind ?_ (fun _ => ?_))
   | exact ih0 _ _ _ _
   | exact ih1 _ _ _ _ _ _
   | exact spec_l2At.mono _ _ _
   | exact spec_l2End.mono _ _ _
   | exact LeO.none _
   | refine LeO.ite ?_ ?_
   | refine LeO.bind ?_ (fun _ => ?_)
  ·intro y0 y1 y2 y3 y4 y5
   unfold spec_l3Put.l0
   repeat' first
   | (with_reducible exact ih0 _ _ _ _)
   | (with_reducible exact ih1 _ _ _ _ _ _)
   | (with_reducible exact spec_l2At.mono _ _ _)
   | (with_reducible exact spec_l2End.mono _ _ _)
   | (with_reducible exact LeO.refl _)
   | (with_reducible exact LeO.none _)
   | (with_reducible refine LeO.ite ?_ ?_)
   | (with_reducible refine LeO.bind ?_ (fun _ => ?_))
   | exact ih0 _ _ _ _
   | exact ih1 _ _ _ _ _ _
   | exact spec_l2At.mono _ _ _
   | exact spec_l2End.mono _ _ _
   | exact LeO.none _
   | refine LeO.ite ?_ ?_
   | refine LeO.bind ?_ (fun _ => ?_)
theorem spec_l3Put.mono : ∀ a0 a1 a2 a3 k, LeO (spec_l3Put.f k a0 a1 a2 a3) (spec_l3Put.f (k + 1) a0 a1 a2 a3) := by
 intro a0 a1 a2 a3 k
 obtain ⟨ih0, ih1⟩ := spec_l3Put.mono_l k
 unfold spec_l3Put.f
 repeat' first
   | (with_reducible exact ih0 _ _ _ _)
   | (with_reducible exact ih1 _ _ _ _ _ _)
   | (with_reducible exact spec_l2At.mono _ _ _)
   | (with_reducible exact spec_l2End.mono _ _ _)
   | (with_reducible exact LeO.refl _)
   | (with_reducible exact LeO.none _)
   | (with_reducible refine LeO.ite ?_ ?_)
   | (with_reducible refine LeO.bind ?_ (fun _ => ?_))
   | exact ih0 _ _ _ _
   | exact ih1 _ _ _ _ _ _
   | exact spec_l2At.mono _ _ _
   | exact spec_l2End.mono _ _ _
   | exact LeO.none _
   | refine LeO.ite ?_ ?_
   | refine LeO.bind ?_ (fun _ => ?_)
set_option maxHeartbeats 8000000 in
set_option maxRecDepth 100000 in
theorem spec_l3Put.calls (k : Nat) (A0 : Option Addr) (c0 : Nat) (l0 : List (S43)) (A1 : Option Addr) (c1 : Nat) (l1 : List (S43)) (a2 : Int) (a3 : Int) (r : List (S43)) (w : World) (hr0 : Kd.C k43 w A0 l0.length l0) (hc0 : l0.length ≤ c0) (hr1 : Kd.C k43 w A1 l1.length l1) (hc1 : l1.length ≤ c1) (h : spec_l3Put.f k l0 l1 a2 a3 = some r) :
  Calls Tryd.prog 62 #[.slice A0 l0.length c0, .slice A1 l1.length c1, .int .i64 a2, .int .i64 a3] w fun e w' => ∃ v0_ : Value, e = .returned (v0_) ∧ Kd.R k43 43 w' w.heap.size (fun _ => True) v0_ r ∧ Below w.heap.size w w' := by
 have hu43 := Tryd.underlying43
 have HR0 := Aside0.mk hr0
 have HC0 := Aside0.mk hc0
 clear hr0 hc0
 have HR1 := Aside0.mk hr1
 have HC1 := Aside0.mk hc1
 clear hr1 hc1
 have HB := Aside0.mk (Below.refl w.heap.size w)
 have H : ((spec_l2At.f k l0 a2).bind fun t159 => (if 0 ≤ t159 then (if t159 < (l0.length : Int) then (if 0 < (l1.length : Int) then (if a3 > 0 then ((spec_l2At.f k l0 a3).bind fun t162 => ((spec_l2End.f k l0 t162).bind fun t163 => (spec_l3Put.j0 k l0 l1 (wrap64 ((wrap64 (((rd_T43 l0 t159).f1) + 1)) - ((rd_T43 l1 0).f1))) t163))) else (spec_l3Put.j0 k l0 l1 (wrap64 ((wrap64 (((rd_T43 l0 t159).f1) + 1)) - ((rd_T43 l1 0).f1))) (wrap64 (t159 + 1)))) else (none)) else (none)) else (none))) = some r := h
 clear h
 replace H := Option.bind_eq_some_iff.mp H
 obtain ⟨t159, A50, H⟩ := H
 replace H : (if 0 ≤ t159 then (if t159 < (l0.length : Int) then (if 0 < (l1.length : Int) then (if a3 > 0 then ((spec_l2At.f k l0 a3).bind fun t162 => ((spec_l2End.f k l0 t162).bind fun t163 => (spec_l3Put.j0 k l0 l1 (wrap64 ((wrap64 (((rd_T43 l0 t159).f1) + 1)) - ((rd_T43 l1 0).f1))) t163))) else (spec_l3Put.j0 k l0 l1 (wrap64 ((wrap64 (((rd_T43 l0 t159).f1) + 1)) - ((rd_T43 l1 0).f1))) (wrap64 (t159 + 1)))) else (none)) else (none)) else (none)) = some r := H
 have A5 := Aside0.mk A50
 clear A50
 by_cases c6 : 0 ≤ t159
 ·rw [if_pos c6] at H
  have c6b0 : decide (0 ≤ t159) = true := decide_eq_true c6
  clear c6
  by_cases c7 : t159 < (l0.length : Int)
  ·rw [if_pos c7] at H
   have c7b0 : decide (t159 < (l0.length : Int)) = true := decide_eq_true c7
   clear c7
   by_cases c8 : 0 < (l1.length : Int)
   ·rw [if_pos c8] at H
    have c8b0 : decide (0 < (l1.length : Int)) = true := decide_eq_true c8
    have c8b1 : decide (0 < l1.length) = true := decide_eq_true (by omega)
    clear c8
    have HC9 := Aside0.mk H
    clear H
    go_enter Tryd.func62, Tryd.ntmps62
    go_upto_if 32 with (first | (go_at_call 60; (with_reducible refine (spec_l2At.calls k _ _ l0 a2 t159 _ ?side1 ?side2 A5.out).mono ?_); (case side1 => repeat (first | exact HR0.out | (with_reducible refine Kd.C_alloc ?_ _) | (with_reducible refine Kd.C_drewN ?_ _) | (with_reducible refine Kd.C_drew ?_))); (case side2 => exact HC0.out); rintro e w' ⟨rfl, ⟨nd, rfl⟩⟩; (try first | exact ⟨rfl, _, World.drewN_drewN _ _ _⟩ | exact ⟨rfl, _, Eq.trans (World.drewN_drewN _ _ _) (congrArg (World.drewN _) (Nat.add_assoc _ _ _))⟩); have p160 : 0 ≤ (t159 : Int) := od_; have q160 : t159 < (l0.length : Int) := od_; obtain ⟨ad160, e160, hx160_0, hx160_1, hx160_2⟩ := at_T43 HR0.out t159 p160 q160; cases e160; replace p160 := eq_true p160; replace q160 := eq_true q160; have p161 : 0 ≤ (0 : Int) := (by omega); have q161 : 0 < (l1.length : Int) := od_; obtain ⟨ad161, e161, hx161_0, hx161_1, hx161_2⟩ := at_T43 HR1.out 0 p161 q161; cases e161; have qi161 : (0 < l1.length) = True := eq_true (by omega); (try rw [show ((0 : Int)).toNat = 0 from rfl] at hx161_0); (try rw [show 0 * 3 = 0 from rfl] at hx161_0); (try rw [Addr.add_zero'] at hx161_0); (try rw [show ((0 : Int)).toNat = 0 from rfl] at hx161_1); (try rw [show 0 * 3 = 0 from rfl] at hx161_1); (try rw [Addr.add_zero'] at hx161_1); (try rw [show ((0 : Int)).toNat = 0 from rfl] at hx161_2); (try rw [show 0 * 3 = 0 from rfl] at hx161_2); (try rw [Addr.add_zero'] at hx161_2); replace p161 := eq_true p161; replace q161 := eq_true q161))
    repeat (go_quiet (first | (go_at_call 60; (with_reducible refine (spec_l2At.calls k _ _ l0 a2 t159 _ ?side1 ?side2 A5.out).mono ?_); (case side1 => repeat (first | exact HR0.out | (with_reducible refine Kd.C_alloc ?_ _) | (with_reducible refine Kd.C_drewN ?_ _) | (with_reducible refine Kd.C_drew ?_))); (case side2 => exact HC0.out); rintro e w' ⟨rfl, ⟨nd, rfl⟩⟩; (try first | exact ⟨rfl, _, World.drewN_drewN _ _ _⟩ | exact ⟨rfl, _, Eq.trans (World.drewN_drewN _ _ _) (congrArg (World.drewN _) (Nat.add_assoc _ _ _))⟩); have p160 : 0 ≤ (t159 : Int) := od_; have q160 : t159 < (l0.length : Int) := od_; obtain ⟨ad160, e160, hx160_0, hx160_1, hx160_2⟩ := at_T43 HR0.out t159 p160 q160; cases e160; replace p160 := eq_true p160; replace q160 := eq_true q160; have p161 : 0 ≤ (0 : Int) := (by omega); have q161 : 0 < (l1.length : Int) := od_; obtain ⟨ad161, e161, hx161_0, hx161_1, hx161_2⟩ := at_T43 HR1.out 0 p161 q161; cases e161; have qi161 : (0 < l1.length) = True := eq_true (by omega); (try rw [show ((0 : Int)).toNat = 0 from rfl] at hx161_0); (try rw [show 0 * 3 = 0 from rfl] at hx161_0); (try rw [Addr.add_zero'] at hx161_0); (try rw [show ((0 : Int)).toNat = 0 from rfl] at hx161_1); (try rw [show 0 * 3 = 0 from rfl] at hx161_1); (try rw [Addr.add_zero'] at hx161_1); (try rw [show ((0 : Int)).toNat = 0 from rfl] at hx161_2); (try rw [show 0 * 3 = 0 from rfl] at hx161_2); (try rw [Addr.add_zero'] at hx161_2); replace p161 := eq_true p161; replace q161 := eq_true q161)); go_upto_if 32 with (first | (go_at_call 60; (with_reducible refine (spec_l2At.calls k _ _ l0 a2 t159 _ ?side1 ?side2 A5.out).mono ?_); (case side1 => repeat (first | exact HR0.out | (with_reducible refine Kd.C_alloc ?_ _) | (with_reducible refine Kd.C_drewN ?_ _) | (with_reducible refine Kd.C_drew ?_))); (case side2 => exact HC0.out); rintro e w' ⟨rfl, ⟨nd, rfl⟩⟩; (try first | exact ⟨rfl, _, World.drewN_drewN _ _ _⟩ | exact ⟨rfl, _, Eq.trans (World.drewN_drewN _ _ _) (congrArg (World.drewN _) (Nat.add_assoc _ _ _))⟩); have p160 : 0 ≤ (t159 : Int) := od_; have q160 : t159 < (l0.length : Int) := od_; obtain ⟨ad160, e160, hx160_0, hx160_1, hx160_2⟩ := at_T43 HR0.out t159 p160 q160; cases e160; replace p160 := eq_true p160; replace q160 := eq_true q160; have p161 : 0 ≤ (0 : Int) := (by omega); have q161 : 0 < (l1.length : Int) := od_; obtain ⟨ad161, e161, hx161_0, hx161_1, hx161_2⟩ := at_T43 HR1.out 0 p161 q161; cases e161; have qi161 : (0 < l1.length) = True := eq_true (by omega); (try rw [show ((0 : Int)).toNat = 0 from rfl] at hx161_0); (try rw [show 0 * 3 = 0 from rfl] at hx161_0); (try rw [Addr.add_zero'] at hx161_0); (try rw [show ((0 : Int)).toNat = 0 from rfl] at hx161_1); (try rw [show 0 * 3 = 0 from rfl] at hx161_1); (try rw [Addr.add_zero'] at hx161_1); (try rw [show ((0 : Int)).toNat = 0 from rfl] at hx161_2); (try rw [show 0 * 3 = 0 from rfl] at hx161_2); (try rw [Addr.add_zero'] at hx161_2); replace p161 := eq_true p161; replace q161 := eq_true q161)))
    (try simp only [Act.put, List.setIfInBounds_toArray, List.set_cons_zero, List.set_cons_succ])
    go_cut [11] (fun v11 wc => ∃ (kq : Nat) (x11_8 : Int), v11 = .int .i64 x11_8 ∧ Aside0 (spec_l3Put.j0 kq l0 l1 (wrap64 ((wrap64 (((rd_T43 l0 t159).f1) + 1)) - ((rd_T43 l1 0).f1))) x11_8 = some r) ∧ Aside0 (kq ≤ k) ∧ Aside0 (Below w.heap.size w wc))
    case first =>
     have H := HC9.out
     clear HC9
     by_cases c10 : a3 > 0
     ·rw [if_pos c10] at H
      have c10b0 : decide (0 < a3) = true := decide_eq_true c10
      clear c10
      (first | rw [c10b0] | (simp only [i64_w, i32_w]; rw [c10b0]) | skip)
      replace H := Option.bind_eq_some_iff.mp H
      obtain ⟨t162, A110, H⟩ := H
      replace H : ((spec_l2End.f k l0 t162).bind fun t163 => (spec_l3Put.j0 k l0 l1 (wrap64 ((wrap64 (((rd_T43 l0 t159).f1) + 1)) - ((rd_T43 l1 0).f1))) t163)) = some r := H
      have A11 := Aside0.mk A110
      clear A110
      replace H := Option.bind_eq_some_iff.mp H
      obtain ⟨t163, A120, H⟩ := H
      replace H : (spec_l3Put.j0 k l0 l1 (wrap64 ((wrap64 (((rd_T43 l0 t159).f1) + 1)) - ((rd_T43 l1 0).f1))) t163) = some r := H
      have A12 := Aside0.mk A120
      clear A120
      have H' := Aside0.mk H
      clear H
      go_wp2_with (first | (go_at_call 60; (with_reducible refine (spec_l2At.calls k _ _ l0 a3 t162 _ ?side1 ?side2 A11.out).mono ?_); (case side1 => exact cp_ HR0.out); (case side2 => exact HC0.out); rintro e w' ⟨rfl, ⟨nd, rfl⟩⟩; (try first | exact ⟨rfl, _, World.drewN_drewN _ _ _⟩ | exact ⟨rfl, _, Eq.trans (World.drewN_drewN _ _ _) (congrArg (World.drewN _) (Nat.add_assoc _ _ _))⟩)) | (go_at_call 63; (with_reducible refine (spec_l2End.calls k _ _ l0 t162 t163 _ ?side1 ?side2 A12.out).mono ?_); (case side1 => repeat (first | exact (Kd.C_below HR0.out (bel_)) | (with_reducible refine Kd.C_alloc ?_ _) | (with_reducible refine Kd.C_drewN ?_ _) | (with_reducible refine Kd.C_drew ?_))); (case side2 => exact HC0.out); rintro e w' ⟨rfl, ⟨nd, rfl⟩⟩; (try first | exact ⟨rfl, _, World.drewN_drewN _ _ _⟩ | exact ⟨rfl, _, Eq.trans (World.drewN_drewN _ _ _) (congrArg (World.drewN _) (Nat.add_assoc _ _ _))⟩)))
      repeat (go_quiet (first | (go_at_call 60; (with_reducible refine (spec_l2At.calls k _ _ l0 a3 t162 _ ?side1 ?side2 A11.out).mono ?_); (case side1 => exact cp_ HR0.out); (case side2 => exact HC0.out); rintro e w' ⟨rfl, ⟨nd, rfl⟩⟩; (try first | exact ⟨rfl, _, World.drewN_drewN _ _ _⟩ | exact ⟨rfl, _, Eq.trans (World.drewN_drewN _ _ _) (congrArg (World.drewN _) (Nat.add_assoc _ _ _))⟩)) | (go_at_call 63; (with_reducible refine (spec_l2End.calls k _ _ l0 t162 t163 _ ?side1 ?side2 A12.out).mono ?_); (case side1 => repeat (first | exact (Kd.C_below HR0.out (bel_)) | (with_reducible refine Kd.C_alloc ?_ _) | (with_reducible refine Kd.C_drewN ?_ _) | (with_reducible refine Kd.C_drew ?_))); (case side2 => exact HC0.out); rintro e w' ⟨rfl, ⟨nd, rfl⟩⟩; (try first | exact ⟨rfl, _, World.drewN_drewN _ _ _⟩ | exact ⟨rfl, _, Eq.trans (World.drewN_drewN _ _ _) (congrArg (World.drewN _) (Nat.add_assoc _ _ _))⟩))); try go_wp2_with (first | (go_at_call 60; (with_reducible refine (spec_l2At.calls k _ _ l0 a3 t162 _ ?side1 ?side2 A11.out).mono ?_); (case side1 => exact cp_ HR0.out); (case side2 => exact HC0.out); rintro e w' ⟨rfl, ⟨nd, rfl⟩⟩; (try first | exact ⟨rfl, _, World.drewN_drewN _ _ _⟩ | exact ⟨rfl, _, Eq.trans (World.drewN_drewN _ _ _) (congrArg (World.drewN _) (Nat.add_assoc _ _ _))⟩)) | (go_at_call 63; (with_reducible refine (spec_l2End.calls k _ _ l0 t162 t163 _ ?side1 ?side2 A12.out).mono ?_); (case side1 => repeat (first | exact (Kd.C_below HR0.out (bel_)) | (with_reducible refine Kd.C_alloc ?_ _) | (with_reducible refine Kd.C_drewN ?_ _) | (with_reducible refine Kd.C_drew ?_))); (case side2 => exact HC0.out); rintro e w' ⟨rfl, ⟨nd, rfl⟩⟩; (try first | exact ⟨rfl, _, World.drewN_drewN _ _ _⟩ | exact ⟨rfl, _, Eq.trans (World.drewN_drewN _ _ _) (congrArg (World.drewN _) (Nat.add_assoc _ _ _))⟩))))
      go_meet
      case rel => exact ⟨_, (t163), (si_), H', ⟨by first | omega | exact Nat.le_refl _⟩, ⟨bel_⟩⟩
     ·rw [if_neg c10] at H
      have c10b0 : decide (0 < a3) = false := decide_eq_false c10
      clear c10
      (first | rw [c10b0] | (simp only [i64_w, i32_w]; rw [c10b0]) | skip)
      have H' := Aside0.mk H
      clear H
      go_wp2
      repeat (go_quiet (fail); try go_wp2)
      go_meet
      case rel => exact ⟨_, (wrap64 (t159 + 1)), (si_), H', ⟨by first | omega | exact Nat.le_refl _⟩, ⟨bel_⟩⟩
    case rest =>
     clear HC9
     try clear c1
     try clear p1
     try clear q1
     try clear hx1
     try clear qi1
     try clear p2
     try clear c6
     try clear c6b0
     try clear p6
     try clear c7
     try clear c7b0
     try clear c8
     try clear c8b0
     try clear c8b1
     try clear c10
     try clear c10b0
     try clear hx160_0
     try clear hx160_1
     try clear hx160_2
     try clear hx161_0
     try clear hx161_1
     try clear hx161_2
     try clear p160
     try clear p161
     try clear q160
     try clear q161
     obtain ⟨kq, x11_8, rfl, HA, HJ8, HB⟩ := hcut
     cases kq with
     | zero => exact absurd HA.out (by simp [spec_l3Put.j0])
     | succ kj8 =>
      have H := HA.out
      clear HA
      simp only [spec_l3Put.j0] at H
      obtain ⟨y164, hy164⟩ : ∃ y_ : List (S43), y_ = (([] : List (S43))) := ⟨_, rfl⟩
      replace H : (if 0 ≤ x11_8 then (if x11_8 ≤ (l0.length : Int) then ((some (l0.take (x11_8 : Int).toNat : List (S43))).bind fun y167 => (if y164.length + y167.length < 4398046511104 then (spec_l3Put.l0 kj8 l0 l1 (wrap64 ((wrap64 (((rd_T43 l0 t159).f1) + 1)) - ((rd_T43 l1 0).f1))) x11_8 (y164 ++ y167) 0) else (none))) else (none)) else (none)) = some r := by first | (rw [hy164]; with_reducible exact H) | (have H2_ := (Option.bind_some _ _).symm.trans H; rw [hy164]; with_reducible exact H2_) | (have H2_ := (Option.bind_some _ _).symm.trans H; with_reducible exact H2_) | with_reducible exact H | (rw [hy164]; exact H) | exact H
      have Ny164 := Aside0.mk hy164
      clear hy164
      by_cases c13 : 0 ≤ x11_8
      ·rw [if_pos c13] at H
       have c13b0 := eq_true c13
       have c13b1 : decide (0 ≤ x11_8) = true := decide_eq_true c13
       clear c13
       by_cases c14 : x11_8 ≤ (l0.length : Int)
       ·rw [if_pos c14] at H
        have c14b0 := eq_true c14
        have c14b1 : decide (x11_8 ≤ (l0.length : Int)) = true := decide_eq_true c14
        clear c14
        obtain ⟨y167, hy167⟩ : ∃ y_ : List (S43), y_ = (l0.take (x11_8 : Int).toNat) := ⟨_, rfl⟩
        replace H : (if y164.length + y167.length < 4398046511104 then (spec_l3Put.l0 kj8 l0 l1 (wrap64 ((wrap64 (((rd_T43 l0 t159).f1) + 1)) - ((rd_T43 l1 0).f1))) x11_8 (y164 ++ y167) 0) else (none)) = some r := by first | (rw [hy167]; with_reducible exact H) | (have H2_ := (Option.bind_some _ _).symm.trans H; rw [hy167]; with_reducible exact H2_) | (have H2_ := (Option.bind_some _ _).symm.trans H; with_reducible exact H2_) | with_reducible exact H | (rw [hy167]; exact H) | exact H
        have Ny167 := Aside0.mk hy167
        clear hy167
        by_cases c15 : y164.length + y167.length < 4398046511104
        ·rw [if_pos c15] at H
         have LMc15 := Aside0.mk c15
         clear c15
         obtain ⟨y171, hy171⟩ : ∃ y_ : List (S43), y_ = (y164 ++ y167) := ⟨_, rfl⟩
         replace H : (spec_l3Put.l0 kj8 l0 l1 (wrap64 ((wrap64 (((rd_T43 l0 t159).f1) + 1)) - ((rd_T43 l1 0).f1))) x11_8 y171 0) = some r := by first | (rw [hy171]; with_reducible exact H) | (have H2_ := (Option.bind_some _ _).symm.trans H; rw [hy171]; with_reducible exact H2_) | (have H2_ := (Option.bind_some _ _).symm.trans H; with_reducible exact H2_) | with_reducible exact H | (rw [hy171]; exact H) | exact H
         have Ny171 := Aside0.mk hy171
         clear hy171
         have H' := Aside0.mk H
         clear H
         go_wp2_with (first | ((with_reducible refine gate_dst (N := 38) rfl ?_); refine Kd.R_lit k43 _ 43 ?hg (N := 38) ?hd (xs := ([] : List (S43))) (inner := []) (ok := fun _ => True) (okp := fun _ => True) ?hr ?hp (fun _ hk => hk) trivial (Below.refl _ _) (Nat.le_refl _) (by simp) ?_; (case hd => rfl); (case hg => rfl); (case hr => first | (go_simp; done) | (go_simp; rfl)); (case hp => exact (Reps.none _ _)); intro v165 w16 ho17 hb hg_ hnew_; clear hg_ hnew_; (first | rw [← Ny164.out] at ho17 | (simp only [Int.reduceToNat] at ho17; rw [← Ny164.out] at ho17)); have HO166 := Aside0.mk (Kd.R_lower ho17 (below_size (bel_))); replace HB := Aside0.mk (below_step (bel_) hb); clear hb ho17; have q18 : (x11_8 : Int) ≤ ((l0.length : Int) : Int) := od_; obtain ⟨i018, hi018, _, hsz18, _⟩ := info_parts info43; have hroom18 : l0.length ≤ c0 := HC0.out; have hC18 : Kd.C k43 _ (some ad160) l0.length l0 := HR0.out; have hcut18 := cut_to (P := Tryd.prog) 27 43 .i64 Tryd.underlying27 hi018 (some ad160) l0.length c0 x11_8 (od_) q18 hroom18; have hr18 := Kd.C_take (m := (x11_8 : Int).toNat) hC18 (by omega); have hy18 : y167.length = (x11_8 : Int).toNat := (by rw [Ny167.out, List.length_take]; omega); rw [← Ny167.out] at hr18; rw [← hy18] at hcut18; have HR170 := Aside0.mk hr18; have HC170 := Aside0.mk (show y167.length ≤ c0 from by omega); clear hr18 hC18 hroom18 hi018 hsz18; have KY18 := Aside0.mk hy18; clear hy18; replace q18 := eq_true q18) | ((with_reducible refine gate_builtin (b := .append) (xs := #[.tmp 38, .tmp 41]) rfl ?_); at_builtin; refine Kd.R_append_rows k43 (w0 := w) w.heap.size rfl (.tmp 38) (.tmp 41) 27 43 (.agg #[(.int .i64 0), (.int .i64 0), (.string ⟨#[]⟩)]) 32 rfl Tryd.underlying27 info43 rfl (by decide) (by omega) v165 y164 y167 _ _ _ (fun _ => True) (fun _ => False) rfl rfl ?aO ?aR (fun _ _ h => h) (fun _ h => h.elim) ?aF ?aB ?aS ?aL ?_; (case aR => repeat (first | exact (Kd.C_below HR170.out HB.out) | (with_reducible refine Kd.C_alloc ?_ _) | (with_reducible refine Kd.C_drewN ?_ _) | (with_reducible refine Kd.C_drew ?_))); (case aB => exact (bel_)); (case aF => exact (fun _ _ => trivial)); (case aO => exact (rp_ HO166.out)); (case aS => exact (below_size (bel_))); (case aL => have := LMc15.out; omega); intro v172 w19 ho hb hg hat; rw [← Ny171.out] at ho; replace HB := Aside0.mk (hb); have HO173 := Aside0.mk (ho); clear HO166; clear ho hb hg hat))
         repeat (go_quiet (first | ((with_reducible refine gate_dst (N := 38) rfl ?_); refine Kd.R_lit k43 _ 43 ?hg (N := 38) ?hd (xs := ([] : List (S43))) (inner := []) (ok := fun _ => True) (okp := fun _ => True) ?hr ?hp (fun _ hk => hk) trivial (Below.refl _ _) (Nat.le_refl _) (by simp) ?_; (case hd => rfl); (case hg => rfl); (case hr => first | (go_simp; done) | (go_simp; rfl)); (case hp => exact (Reps.none _ _)); intro v165 w16 ho17 hb hg_ hnew_; clear hg_ hnew_; (first | rw [← Ny164.out] at ho17 | (simp only [Int.reduceToNat] at ho17; rw [← Ny164.out] at ho17)); have HO166 := Aside0.mk (Kd.R_lower ho17 (below_size (bel_))); replace HB := Aside0.mk (below_step (bel_) hb); clear hb ho17; have q18 : (x11_8 : Int) ≤ ((l0.length : Int) : Int) := od_; obtain ⟨i018, hi018, _, hsz18, _⟩ := info_parts info43; have hroom18 : l0.length ≤ c0 := HC0.out; have hC18 : Kd.C k43 _ (some ad160) l0.length l0 := HR0.out; have hcut18 := cut_to (P := Tryd.prog) 27 43 .i64 Tryd.underlying27 hi018 (some ad160) l0.length c0 x11_8 (od_) q18 hroom18; have hr18 := Kd.C_take (m := (x11_8 : Int).toNat) hC18 (by omega); have hy18 : y167.length = (x11_8 : Int).toNat := (by rw [Ny167.out, List.length_take]; omega); rw [← Ny167.out] at hr18; rw [← hy18] at hcut18; have HR170 := Aside0.mk hr18; have HC170 := Aside0.mk (show y167.length ≤ c0 from by omega); clear hr18 hC18 hroom18 hi018 hsz18; have KY18 := Aside0.mk hy18; clear hy18; replace q18 := eq_true q18) | ((with_reducible refine gate_builtin (b := .append) (xs := #[.tmp 38, .tmp 41]) rfl ?_); at_builtin; refine Kd.R_append_rows k43 (w0 := w) w.heap.size rfl (.tmp 38) (.tmp 41) 27 43 (.agg #[(.int .i64 0), (.int .i64 0), (.string ⟨#[]⟩)]) 32 rfl Tryd.underlying27 info43 rfl (by decide) (by omega) v165 y164 y167 _ _ _ (fun _ => True) (fun _ => False) rfl rfl ?aO ?aR (fun _ _ h => h) (fun _ h => h.elim) ?aF ?aB ?aS ?aL ?_; (case aR => repeat (first | exact (Kd.C_below HR170.out HB.out) | (with_reducible refine Kd.C_alloc ?_ _) | (with_reducible refine Kd.C_drewN ?_ _) | (with_reducible refine Kd.C_drew ?_))); (case aB => exact (bel_)); (case aF => exact (fun _ _ => trivial)); (case aO => exact (rp_ HO166.out)); (case aS => exact (below_size (bel_))); (case aL => have := LMc15.out; omega); intro v172 w19 ho hb hg hat; rw [← Ny171.out] at ho; replace HB := Aside0.mk (hb); have HO173 := Aside0.mk (ho); clear HO166; clear ho hb hg hat)); try go_wp2_with (first | ((with_reducible refine gate_dst (N := 38) rfl ?_); refine Kd.R_lit k43 _ 43 ?hg (N := 38) ?hd (xs := ([] : List (S43))) (inner := []) (ok := fun _ => True) (okp := fun _ => True) ?hr ?hp (fun _ hk => hk) trivial (Below.refl _ _) (Nat.le_refl _) (by simp) ?_; (case hd => rfl); (case hg => rfl); (case hr => first | (go_simp; done) | (go_simp; rfl)); (case hp => exact (Reps.none _ _)); intro v165 w16 ho17 hb hg_ hnew_; clear hg_ hnew_; (first | rw [← Ny164.out] at ho17 | (simp only [Int.reduceToNat] at ho17; rw [← Ny164.out] at ho17)); have HO166 := Aside0.mk (Kd.R_lower ho17 (below_size (bel_))); replace HB := Aside0.mk (below_step (bel_) hb); clear hb ho17; have q18 : (x11_8 : Int) ≤ ((l0.length : Int) : Int) := od_; obtain ⟨i018, hi018, _, hsz18, _⟩ := info_parts info43; have hroom18 : l0.length ≤ c0 := HC0.out; have hC18 : Kd.C k43 _ (some ad160) l0.length l0 := HR0.out; have hcut18 := cut_to (P := Tryd.prog) 27 43 .i64 Tryd.underlying27 hi018 (some ad160) l0.length c0 x11_8 (od_) q18 hroom18; have hr18 := Kd.C_take (m := (x11_8 : Int).toNat) hC18 (by omega); have hy18 : y167.length = (x11_8 : Int).toNat := (by rw [Ny167.out, List.length_take]; omega); rw [← Ny167.out] at hr18; rw [← hy18] at hcut18; have HR170 := Aside0.mk hr18; have HC170 := Aside0.mk (show y167.length ≤ c0 from by omega); clear hr18 hC18 hroom18 hi018 hsz18; have KY18 := Aside0.mk hy18; clear hy18; replace q18 := eq_true q18) | ((with_reducible refine gate_builtin (b := .append) (xs := #[.tmp 38, .tmp 41]) rfl ?_); at_builtin; refine Kd.R_append_rows k43 (w0 := w) w.heap.size rfl (.tmp 38) (.tmp 41) 27 43 (.agg #[(.int .i64 0), (.int .i64 0), (.string ⟨#[]⟩)]) 32 rfl Tryd.underlying27 info43 rfl (by decide) (by omega) v165 y164 y167 _ _ _ (fun _ => True) (fun _ => False) rfl rfl ?aO ?aR (fun _ _ h => h) (fun _ h => h.elim) ?aF ?aB ?aS ?aL ?_; (case aR => repeat (first | exact (Kd.C_below HR170.out HB.out) | (with_reducible refine Kd.C_alloc ?_ _) | (with_reducible refine Kd.C_drewN ?_ _) | (with_reducible refine Kd.C_drew ?_))); (case aB => exact (bel_)); (case aF => exact (fun _ _ => trivial)); (case aO => exact (rp_ HO166.out)); (case aS => exact (below_size (bel_))); (case aL => have := LMc15.out; omega); intro v172 w19 ho hb hg hat; rw [← Ny171.out] at ho; replace HB := Aside0.mk (hb); have HO173 := Aside0.mk (ho); clear HO166; clear ho hb hg hat)))
         go_loopg [12, 13] kj8 (fun kq v12 v13 w' => ∃ (x12_2 : List (S43)) (x13_2 : Int), v13 = .int .i64 x13_2 ∧ Aside0 (spec_l3Put.l0 kq l0 l1 (wrap64 ((wrap64 (((rd_T43 l0 t159).f1) + 1)) - ((rd_T43 l1 0).f1))) x11_8 x12_2 x13_2 = some r) ∧ Aside0 (kq ≤ kj8) ∧ Aside0 (Kd.R k43 43 w' w.heap.size (fun _ => True) v12 x12_2) ∧ Aside0 (Below w.heap.size w w'))
         case atStart => exact ⟨(y171), (0), (si_), H', ⟨Nat.le_refl _⟩, ⟨by (with_reducible repeat (first | apply Kd.R_alloc | apply Kd.R_drewN | apply Kd.R_drew)); exact HO173.out⟩, ⟨bel_⟩⟩
         case round =>
          clear H'
          try clear c1
          try clear p1
          try clear q1
          try clear hx1
          try clear qi1
          try clear p2
          try clear c6
          try clear c6b0
          try clear p6
          try clear c7
          try clear c7b0
          try clear c8
          try clear c8b0
          try clear c8b1
          try clear c10
          try clear c10b0
          try clear c13
          try clear c13b0
          try clear c13b1
          try clear c14
          try clear c14b0
          try clear c14b1
          try clear c15
          try clear p16
          try clear q16
          try clear hx16
          try clear qi16
          try clear q18
          try clear hx160_0
          try clear hx160_1
          try clear hx160_2
          try clear hx161_0
          try clear hx161_1
          try clear hx161_2
          try clear p1
          try clear p160
          try clear p161
          try clear p2
          try clear p6
          try clear q1
          try clear q160
          try clear q161
          try clear q18
          obtain ⟨x12_2, x13_2, rfl, HA, HK2, HO_12, HB⟩ := hrel
          cases gk with
          | zero => exact absurd HA.out (by simp [spec_l3Put.l0])
          | succ k2 =>
           have H := HA.out
           clear HA
           simp only [spec_l3Put.l0] at H
           by_cases c20 : x13_2 < (l1.length : Int)
           ·rw [if_pos c20] at H
            have c20b0 : decide (x13_2 < (l1.length : Int)) = true := decide_eq_true c20
            clear c20
            by_cases c21 : 0 ≤ x13_2
            ·rw [if_pos c21] at H
             have c21b0 : decide (0 ≤ x13_2) = true := decide_eq_true c21
             clear c21
             by_cases c22 : x12_2.length < 4398046511104
             ·rw [if_pos c22] at H
              have LMc22 := Aside0.mk c22
              clear c22
              obtain ⟨y176, hy176⟩ : ∃ y_ : List (S43), y_ = (x12_2 ++ [(⟨(rd_T43 l1 x13_2).f0, wrap64 (((rd_T43 l1 x13_2).f1) + (wrap64 ((wrap64 (((rd_T43 l0 t159).f1) + 1)) - ((rd_T43 l1 0).f1)))), (rd_T43 l1 x13_2).f2⟩ : S43)]) := ⟨_, rfl⟩
              replace H : (spec_l3Put.l0 k2 l0 l1 (wrap64 ((wrap64 (((rd_T43 l0 t159).f1) + 1)) - ((rd_T43 l1 0).f1))) x11_8 y176 (wrap64 (x13_2 + 1))) = some r := by first | (rw [hy176]; with_reducible exact H) | (have H2_ := (Option.bind_some _ _).symm.trans H; rw [hy176]; with_reducible exact H2_) | (have H2_ := (Option.bind_some _ _).symm.trans H; with_reducible exact H2_) | with_reducible exact H | (rw [hy176]; exact H) | exact H
              have Ny176 := Aside0.mk hy176
              clear hy176
              have H' := Aside0.mk H
              clear H
              have p174 : 0 ≤ (x13_2 : Int) := od_
              have q174 : x13_2 < (l1.length : Int) := od_
              obtain ⟨ad174, e174, hx174_0, hx174_1, hx174_2⟩ := at_T43 HR1.out x13_2 p174 q174
              obtain rfl : ad161 = ad174 := (by injection e174)
              replace hx174_0 := (cb_ HB.out hx174_0 :)
              replace hx174_1 := (cb_ HB.out hx174_1 :)
              replace hx174_2 := (cb_ HB.out hx174_2 :)
              replace p174 := eq_true p174
              replace q174 := eq_true q174
              go_wp2_with (first | ((with_reducible refine gate_dst (N := 14) rfl ?_); refine box_event ?hg (N := 14) ?hd (cs := #[.int .i64 0, .int .i64 0, .string (⟨#[]⟩ : ByteArray)]) (t := 43) ?hr ?_; (case hd => rfl); (case hg => rfl); (case hr => first | (go_simp; done) | (go_simp; rfl)); intro gb175 hg w23 hbox hb; have n0_ := Aside0.mk (Kd.R_below (Kd.R_elderB (rp_ HO_12.out) gb175 (Nat.le_of_eq hg.symm)) hb); have n1_ := Aside0.mk (below_step (bel_) hb); have n2_ := Aside0.mk (hbox); have n3_ := Aside0.mk ((by rw [hg]; exact (below_size (bel_)) : w.heap.size ≤ gb175)); have n4_ := Aside0.mk ((by rw [hg]; exact (below_size (bel_)) : w.heap.size ≤ gb175)); clear HO_12; clear HB; have HO_12 := n0_; have HB := n1_; have BK175 := n2_; have GW175 := n3_; have GE175 := n4_; clear n0_ n1_ n2_ n3_ n4_; clear hb hbox hg; have hcz24_0 : w23.cell? ⟨gb175, 0, none⟩ = some (.int .i64 0) := (blk_cell BK175.out 0).trans rfl; have hcz24_1 : w23.cell? ⟨gb175, 1, none⟩ = some (.int .i64 0) := (blk_cell BK175.out 1).trans rfl; have hcz24_2 : w23.cell? ⟨gb175, 2, none⟩ = some (.string (⟨#[]⟩ : ByteArray)) := (blk_cell BK175.out 2).trans rfl; have hfz24_0 := blk_frozen BK175.out 0; have hfz24_1 := blk_frozen BK175.out 1; have hfz24_2 := blk_frozen BK175.out 2; have hq_ : ((((w23.setCell ⟨gb175, 0, none⟩ (.int .i64 ((rd_T43 l1 x13_2).f0))).setCell ⟨gb175, 1, none⟩ (.int .i64 ((rd_T43 l1 x13_2).f1))).setCell ⟨gb175, 2, none⟩ (.string ((rd_T43 l1 x13_2).f2))).setCell ⟨gb175, 1, none⟩ (.int .i64 (wrap64 (((rd_T43 l1 x13_2).f1) + (wrap64 ((wrap64 (((rd_T43 l0 t159).f1) + 1)) - ((rd_T43 l1 0).f1))))))).heap[gb175]? = some (.cells #[.int .i64 ((rd_T43 l1 x13_2).f0), .int .i64 (wrap64 (((rd_T43 l1 x13_2).f1) + (wrap64 ((wrap64 (((rd_T43 l0 t159).f1) + 1)) - ((rd_T43 l1 0).f1))))), .string ((rd_T43 l1 x13_2).f2)] 43 (0, 0)) := (blk_set (blk_set (blk_set (blk_set BK175.out 0 _) 1 _) 2 _) 1 _).trans rfl; have hq0_ : ((((w23.setCell ⟨gb175, 0, none⟩ (.int .i64 ((rd_T43 l1 x13_2).f0))).setCell ⟨gb175, 1, none⟩ (.int .i64 ((rd_T43 l1 x13_2).f1))).setCell ⟨gb175, 2, none⟩ (.string ((rd_T43 l1 x13_2).f2))).setCell ⟨gb175, 1, none⟩ (.int .i64 (wrap64 (((rd_T43 l1 x13_2).f1) + (wrap64 ((wrap64 (((rd_T43 l0 t159).f1) + 1)) - ((rd_T43 l1 0).f1))))))).cell? ⟨gb175, 0, none⟩ = some (.int .i64 ((rd_T43 l1 x13_2).f0)) := (blk_cell hq_ 0).trans rfl; have hq1_ : ((((w23.setCell ⟨gb175, 0, none⟩ (.int .i64 ((rd_T43 l1 x13_2).f0))).setCell ⟨gb175, 1, none⟩ (.int .i64 ((rd_T43 l1 x13_2).f1))).setCell ⟨gb175, 2, none⟩ (.string ((rd_T43 l1 x13_2).f2))).setCell ⟨gb175, 1, none⟩ (.int .i64 (wrap64 (((rd_T43 l1 x13_2).f1) + (wrap64 ((wrap64 (((rd_T43 l0 t159).f1) + 1)) - ((rd_T43 l1 0).f1))))))).cell? ⟨gb175, 1, none⟩ = some (.int .i64 (wrap64 (((rd_T43 l1 x13_2).f1) + (wrap64 ((wrap64 (((rd_T43 l0 t159).f1) + 1)) - ((rd_T43 l1 0).f1)))))) := (blk_cell hq_ 1).trans rfl; have hq2_ : ((((w23.setCell ⟨gb175, 0, none⟩ (.int .i64 ((rd_T43 l1 x13_2).f0))).setCell ⟨gb175, 1, none⟩ (.int .i64 ((rd_T43 l1 x13_2).f1))).setCell ⟨gb175, 2, none⟩ (.string ((rd_T43 l1 x13_2).f2))).setCell ⟨gb175, 1, none⟩ (.int .i64 (wrap64 (((rd_T43 l1 x13_2).f1) + (wrap64 ((wrap64 (((rd_T43 l0 t159).f1) + 1)) - ((rd_T43 l1 0).f1))))))).cell? ⟨gb175, 2, none⟩ = some (.string ((rd_T43 l1 x13_2).f2)) := (blk_cell hq_ 2).trans rfl; clear hq_) | ((with_reducible refine gate_builtin (b := .append) (xs := #[.tmp 58, .tmp 60]) rfl ?_); at_builtin; refine Kd.R_append k43 (w0 := w) w.heap.size rfl (.tmp 58) (.tmp 60) 27 43 (.agg #[(.int .i64 0), (.int .i64 0), (.string ⟨#[]⟩)]) 32 rfl Tryd.underlying27 info43 rfl (by decide) (by omega) u12 x12_2 (⟨(rd_T43 l1 x13_2).f0, wrap64 (((rd_T43 l1 x13_2).f1) + (wrap64 ((wrap64 (((rd_T43 l0 t159).f1) + 1)) - ((rd_T43 l1 0).f1)))), (rd_T43 l1 x13_2).f2⟩ : S43) [.int .i64 ((rd_T43 l1 x13_2).f0), .int .i64 (wrap64 (((rd_T43 l1 x13_2).f1) + (wrap64 ((wrap64 (((rd_T43 l0 t159).f1) + 1)) - ((rd_T43 l1 0).f1))))), .string ((rd_T43 l1 x13_2).f2)] (fun k_ => k_ ≠ gb175) (fun _ => False) rfl (by first | (go_simp; done) | (go_simp; rfl)) ?aP (fun _ hk => hk.elim) ?aF ?aO ?aB ?aS ?aL ?_; (case aP => exact k43_mkM _ _ _ (⟨(rd_T43 l1 x13_2).f0, wrap64 (((rd_T43 l1 x13_2).f1) + (wrap64 ((wrap64 (((rd_T43 l0 t159).f1) + 1)) - ((rd_T43 l1 0).f1)))), (rd_T43 l1 x13_2).f2⟩ : S43)); (case aB => exact (bel_)); (case aF => exact (fun k_ hk => Kd.freshB (g := gb175) (o := .cells #[.int .i64 ((rd_T43 l1 x13_2).f0), .int .i64 (wrap64 (((rd_T43 l1 x13_2).f1) + (wrap64 ((wrap64 (((rd_T43 l0 t159).f1) + 1)) - ((rd_T43 l1 0).f1))))), .string ((rd_T43 l1 x13_2).f2)] 43 (0, 0)) (by (with_reducible repeat (first | refine blk_drewN ?_ _ | refine blk_drew ?_ | refine blk_alloc ?_ _)); refine blk_put (cs := #[.int .i64 ((rd_T43 l1 x13_2).f0), .int .i64 ((rd_T43 l1 x13_2).f1), .string ((rd_T43 l1 x13_2).f2)]) ?_ 1 _ rfl; (with_reducible repeat (first | refine blk_drewN ?_ _ | refine blk_drew ?_ | refine blk_alloc ?_ _)); refine blk_put (cs := #[.int .i64 ((rd_T43 l1 x13_2).f0), .int .i64 ((rd_T43 l1 x13_2).f1), .string (⟨#[]⟩ : ByteArray)]) ?_ 2 _ rfl; (with_reducible repeat (first | refine blk_drewN ?_ _ | refine blk_drew ?_ | refine blk_alloc ?_ _)); refine blk_put (cs := #[.int .i64 ((rd_T43 l1 x13_2).f0), .int .i64 0, .string (⟨#[]⟩ : ByteArray)]) ?_ 1 _ rfl; (with_reducible repeat (first | refine blk_drewN ?_ _ | refine blk_drew ?_ | refine blk_alloc ?_ _)); refine blk_put (cs := #[.int .i64 0, .int .i64 0, .string (⟨#[]⟩ : ByteArray)]) ?_ 0 _ rfl; (with_reducible repeat (first | refine blk_drewN ?_ _ | refine blk_drew ?_ | refine blk_alloc ?_ _)); exact BK175.out) k_ hk)); (case aO => exact (by (with_reducible repeat (first | apply Kd.R_alloc | apply Kd.R_drewN | apply Kd.R_drew)); exact Kd.R_mono (Kd.R_far (p := ⟨gb175, 1, none⟩) (Kd.R_far (p := ⟨gb175, 2, none⟩) (Kd.R_far (p := ⟨gb175, 1, none⟩) (Kd.R_far (p := ⟨gb175, 0, none⟩) (Kd.R_mono HO_12.out (fun k_ hk => (⟨hk, hk.2⟩ : _ ∧ k_ ≠ gb175))) (fun _ hk => hk.2) (.int .i64 ((rd_T43 l1 x13_2).f0))) (fun _ hk => hk.2) (.int .i64 ((rd_T43 l1 x13_2).f1))) (fun _ hk => hk.2) (.string ((rd_T43 l1 x13_2).f2))) (fun _ hk => hk.2) (.int .i64 (wrap64 (((rd_T43 l1 x13_2).f1) + (wrap64 ((wrap64 (((rd_T43 l0 t159).f1) + 1)) - ((rd_T43 l1 0).f1))))))) (fun _ hk => hk.1.2))); (case aS => exact (below_size (bel_))); (case aL => have := LMc22.out; omega); intro v177 w25 ho hb hg hat; rw [← Ny176.out] at ho; have n0_ := Aside0.mk (blk_grown (g := gb175) (o := .cells #[.int .i64 ((rd_T43 l1 x13_2).f0), .int .i64 (wrap64 (((rd_T43 l1 x13_2).f1) + (wrap64 ((wrap64 (((rd_T43 l0 t159).f1) + 1)) - ((rd_T43 l1 0).f1))))), .string ((rd_T43 l1 x13_2).f2)] 43 (0, 0)) (by (with_reducible repeat (first | refine blk_drewN ?_ _ | refine blk_drew ?_ | refine blk_alloc ?_ _)); refine blk_put (cs := #[.int .i64 ((rd_T43 l1 x13_2).f0), .int .i64 ((rd_T43 l1 x13_2).f1), .string ((rd_T43 l1 x13_2).f2)]) ?_ 1 _ rfl; (with_reducible repeat (first | refine blk_drewN ?_ _ | refine blk_drew ?_ | refine blk_alloc ?_ _)); refine blk_put (cs := #[.int .i64 ((rd_T43 l1 x13_2).f0), .int .i64 ((rd_T43 l1 x13_2).f1), .string (⟨#[]⟩ : ByteArray)]) ?_ 2 _ rfl; (with_reducible repeat (first | refine blk_drewN ?_ _ | refine blk_drew ?_ | refine blk_alloc ?_ _)); refine blk_put (cs := #[.int .i64 ((rd_T43 l1 x13_2).f0), .int .i64 0, .string (⟨#[]⟩ : ByteArray)]) ?_ 1 _ rfl; (with_reducible repeat (first | refine blk_drewN ?_ _ | refine blk_drew ?_ | refine blk_alloc ?_ _)); refine blk_put (cs := #[.int .i64 0, .int .i64 0, .string (⟨#[]⟩ : ByteArray)]) ?_ 0 _ rfl; (with_reducible repeat (first | refine blk_drewN ?_ _ | refine blk_drew ?_ | refine blk_alloc ?_ _)); exact BK175.out) hg (Kd.R_away HO_12.out (fun _ hk => hk.2))); have n1_ := Aside0.mk (hb); have n2_ := Aside0.mk (ho); clear BK175; clear HB; clear HO_12; have BK175 := n0_; have HB := n1_; have HO178 := n2_; clear n0_ n1_ n2_; clear ho hb hg hat))
              repeat (go_quiet (first | ((with_reducible refine gate_dst (N := 14) rfl ?_); refine box_event ?hg (N := 14) ?hd (cs := #[.int .i64 0, .int .i64 0, .string (⟨#[]⟩ : ByteArray)]) (t := 43) ?hr ?_; (case hd => rfl); (case hg => rfl); (case hr => first | (go_simp; done) | (go_simp; rfl)); intro gb175 hg w23 hbox hb; have n0_ := Aside0.mk (Kd.R_below (Kd.R_elderB (rp_ HO_12.out) gb175 (Nat.le_of_eq hg.symm)) hb); have n1_ := Aside0.mk (below_step (bel_) hb); have n2_ := Aside0.mk (hbox); have n3_ := Aside0.mk ((by rw [hg]; exact (below_size (bel_)) : w.heap.size ≤ gb175)); have n4_ := Aside0.mk ((by rw [hg]; exact (below_size (bel_)) : w.heap.size ≤ gb175)); clear HO_12; clear HB; have HO_12 := n0_; have HB := n1_; have BK175 := n2_; have GW175 := n3_; have GE175 := n4_; clear n0_ n1_ n2_ n3_ n4_; clear hb hbox hg; have hcz24_0 : w23.cell? ⟨gb175, 0, none⟩ = some (.int .i64 0) := (blk_cell BK175.out 0).trans rfl; have hcz24_1 : w23.cell? ⟨gb175, 1, none⟩ = some (.int .i64 0) := (blk_cell BK175.out 1).trans rfl; have hcz24_2 : w23.cell? ⟨gb175, 2, none⟩ = some (.string (⟨#[]⟩ : ByteArray)) := (blk_cell BK175.out 2).trans rfl; have hfz24_0 := blk_frozen BK175.out 0; have hfz24_1 := blk_frozen BK175.out 1; have hfz24_2 := blk_frozen BK175.out 2; have hq_ : ((((w23.setCell ⟨gb175, 0, none⟩ (.int .i64 ((rd_T43 l1 x13_2).f0))).setCell ⟨gb175, 1, none⟩ (.int .i64 ((rd_T43 l1 x13_2).f1))).setCell ⟨gb175, 2, none⟩ (.string ((rd_T43 l1 x13_2).f2))).setCell ⟨gb175, 1, none⟩ (.int .i64 (wrap64 (((rd_T43 l1 x13_2).f1) + (wrap64 ((wrap64 (((rd_T43 l0 t159).f1) + 1)) - ((rd_T43 l1 0).f1))))))).heap[gb175]? = some (.cells #[.int .i64 ((rd_T43 l1 x13_2).f0), .int .i64 (wrap64 (((rd_T43 l1 x13_2).f1) + (wrap64 ((wrap64 (((rd_T43 l0 t159).f1) + 1)) - ((rd_T43 l1 0).f1))))), .string ((rd_T43 l1 x13_2).f2)] 43 (0, 0)) := (blk_set (blk_set (blk_set (blk_set BK175.out 0 _) 1 _) 2 _) 1 _).trans rfl; have hq0_ : ((((w23.setCell ⟨gb175, 0, none⟩ (.int .i64 ((rd_T43 l1 x13_2).f0))).setCell ⟨gb175, 1, none⟩ (.int .i64 ((rd_T43 l1 x13_2).f1))).setCell ⟨gb175, 2, none⟩ (.string ((rd_T43 l1 x13_2).f2))).setCell ⟨gb175, 1, none⟩ (.int .i64 (wrap64 (((rd_T43 l1 x13_2).f1) + (wrap64 ((wrap64 (((rd_T43 l0 t159).f1) + 1)) - ((rd_T43 l1 0).f1))))))).cell? ⟨gb175, 0, none⟩ = some (.int .i64 ((rd_T43 l1 x13_2).f0)) := (blk_cell hq_ 0).trans rfl; have hq1_ : ((((w23.setCell ⟨gb175, 0, none⟩ (.int .i64 ((rd_T43 l1 x13_2).f0))).setCell ⟨gb175, 1, none⟩ (.int .i64 ((rd_T43 l1 x13_2).f1))).setCell ⟨gb175, 2, none⟩ (.string ((rd_T43 l1 x13_2).f2))).setCell ⟨gb175, 1, none⟩ (.int .i64 (wrap64 (((rd_T43 l1 x13_2).f1) + (wrap64 ((wrap64 (((rd_T43 l0 t159).f1) + 1)) - ((rd_T43 l1 0).f1))))))).cell? ⟨gb175, 1, none⟩ = some (.int .i64 (wrap64 (((rd_T43 l1 x13_2).f1) + (wrap64 ((wrap64 (((rd_T43 l0 t159).f1) + 1)) - ((rd_T43 l1 0).f1)))))) := (blk_cell hq_ 1).trans rfl; have hq2_ : ((((w23.setCell ⟨gb175, 0, none⟩ (.int .i64 ((rd_T43 l1 x13_2).f0))).setCell ⟨gb175, 1, none⟩ (.int .i64 ((rd_T43 l1 x13_2).f1))).setCell ⟨gb175, 2, none⟩ (.string ((rd_T43 l1 x13_2).f2))).setCell ⟨gb175, 1, none⟩ (.int .i64 (wrap64 (((rd_T43 l1 x13_2).f1) + (wrap64 ((wrap64 (((rd_T43 l0 t159).f1) + 1)) - ((rd_T43 l1 0).f1))))))).cell? ⟨gb175, 2, none⟩ = some (.string ((rd_T43 l1 x13_2).f2)) := (blk_cell hq_ 2).trans rfl; clear hq_) | ((with_reducible refine gate_builtin (b := .append) (xs := #[.tmp 58, .tmp 60]) rfl ?_); at_builtin; refine Kd.R_append k43 (w0 := w) w.heap.size rfl (.tmp 58) (.tmp 60) 27 43 (.agg #[(.int .i64 0), (.int .i64 0), (.string ⟨#[]⟩)]) 32 rfl Tryd.underlying27 info43 rfl (by decide) (by omega) u12 x12_2 (⟨(rd_T43 l1 x13_2).f0, wrap64 (((rd_T43 l1 x13_2).f1) + (wrap64 ((wrap64 (((rd_T43 l0 t159).f1) + 1)) - ((rd_T43 l1 0).f1)))), (rd_T43 l1 x13_2).f2⟩ : S43) [.int .i64 ((rd_T43 l1 x13_2).f0), .int .i64 (wrap64 (((rd_T43 l1 x13_2).f1) + (wrap64 ((wrap64 (((rd_T43 l0 t159).f1) + 1)) - ((rd_T43 l1 0).f1))))), .string ((rd_T43 l1 x13_2).f2)] (fun k_ => k_ ≠ gb175) (fun _ => False) rfl (by first | (go_simp; done) | (go_simp; rfl)) ?aP (fun _ hk => hk.elim) ?aF ?aO ?aB ?aS ?aL ?_; (case aP => exact k43_mkM _ _ _ (⟨(rd_T43 l1 x13_2).f0, wrap64 (((rd_T43 l1 x13_2).f1) + (wrap64 ((wrap64 (((rd_T43 l0 t159).f1) + 1)) - ((rd_T43 l1 0).f1)))), (rd_T43 l1 x13_2).f2⟩ : S43)); (case aB => exact (bel_)); (case aF => exact (fun k_ hk => Kd.freshB (g := gb175) (o := .cells #[.int .i64 ((rd_T43 l1 x13_2).f0), .int .i64 (wrap64 (((rd_T43 l1 x13_2).f1) + (wrap64 ((wrap64 (((rd_T43 l0 t159).f1) + 1)) - ((rd_T43 l1 0).f1))))), .string ((rd_T43 l1 x13_2).f2)] 43 (0, 0)) (by (with_reducible repeat (first | refine blk_drewN ?_ _ | refine blk_drew ?_ | refine blk_alloc ?_ _)); refine blk_put (cs := #[.int .i64 ((rd_T43 l1 x13_2).f0), .int .i64 ((rd_T43 l1 x13_2).f1), .string ((rd_T43 l1 x13_2).f2)]) ?_ 1 _ rfl; (with_reducible repeat (first | refine blk_drewN ?_ _ | refine blk_drew ?_ | refine blk_alloc ?_ _)); refine blk_put (cs := #[.int .i64 ((rd_T43 l1 x13_2).f0), .int .i64 ((rd_T43 l1 x13_2).f1), .string (⟨#[]⟩ : ByteArray)]) ?_ 2 _ rfl; (with_reducible repeat (first | refine blk_drewN ?_ _ | refine blk_drew ?_ | refine blk_alloc ?_ _)); refine blk_put (cs := #[.int .i64 ((rd_T43 l1 x13_2).f0), .int .i64 0, .string (⟨#[]⟩ : ByteArray)]) ?_ 1 _ rfl; (with_reducible repeat (first | refine blk_drewN ?_ _ | refine blk_drew ?_ | refine blk_alloc ?_ _)); refine blk_put (cs := #[.int .i64 0, .int .i64 0, .string (⟨#[]⟩ : ByteArray)]) ?_ 0 _ rfl; (with_reducible repeat (first | refine blk_drewN ?_ _ | refine blk_drew ?_ | refine blk_alloc ?_ _)); exact BK175.out) k_ hk)); (case aO => exact (by (with_reducible repeat (first | apply Kd.R_alloc | apply Kd.R_drewN | apply Kd.R_drew)); exact Kd.R_mono (Kd.R_far (p := ⟨gb175, 1, none⟩) (Kd.R_far (p := ⟨gb175, 2, none⟩) (Kd.R_far (p := ⟨gb175, 1, none⟩) (Kd.R_far (p := ⟨gb175, 0, none⟩) (Kd.R_mono HO_12.out (fun k_ hk => (⟨hk, hk.2⟩ : _ ∧ k_ ≠ gb175))) (fun _ hk => hk.2) (.int .i64 ((rd_T43 l1 x13_2).f0))) (fun _ hk => hk.2) (.int .i64 ((rd_T43 l1 x13_2).f1))) (fun _ hk => hk.2) (.string ((rd_T43 l1 x13_2).f2))) (fun _ hk => hk.2) (.int .i64 (wrap64 (((rd_T43 l1 x13_2).f1) + (wrap64 ((wrap64 (((rd_T43 l0 t159).f1) + 1)) - ((rd_T43 l1 0).f1))))))) (fun _ hk => hk.1.2))); (case aS => exact (below_size (bel_))); (case aL => have := LMc22.out; omega); intro v177 w25 ho hb hg hat; rw [← Ny176.out] at ho; have n0_ := Aside0.mk (blk_grown (g := gb175) (o := .cells #[.int .i64 ((rd_T43 l1 x13_2).f0), .int .i64 (wrap64 (((rd_T43 l1 x13_2).f1) + (wrap64 ((wrap64 (((rd_T43 l0 t159).f1) + 1)) - ((rd_T43 l1 0).f1))))), .string ((rd_T43 l1 x13_2).f2)] 43 (0, 0)) (by (with_reducible repeat (first | refine blk_drewN ?_ _ | refine blk_drew ?_ | refine blk_alloc ?_ _)); refine blk_put (cs := #[.int .i64 ((rd_T43 l1 x13_2).f0), .int .i64 ((rd_T43 l1 x13_2).f1), .string ((rd_T43 l1 x13_2).f2)]) ?_ 1 _ rfl; (with_reducible repeat (first | refine blk_drewN ?_ _ | refine blk_drew ?_ | refine blk_alloc ?_ _)); refine blk_put (cs := #[.int .i64 ((rd_T43 l1 x13_2).f0), .int .i64 ((rd_T43 l1 x13_2).f1), .string (⟨#[]⟩ : ByteArray)]) ?_ 2 _ rfl; (with_reducible repeat (first | refine blk_drewN ?_ _ | refine blk_drew ?_ | refine blk_alloc ?_ _)); refine blk_put (cs := #[.int .i64 ((rd_T43 l1 x13_2).f0), .int .i64 0, .string (⟨#[]⟩ : ByteArray)]) ?_ 1 _ rfl; (with_reducible repeat (first | refine blk_drewN ?_ _ | refine blk_drew ?_ | refine blk_alloc ?_ _)); refine blk_put (cs := #[.int .i64 0, .int .i64 0, .string (⟨#[]⟩ : ByteArray)]) ?_ 0 _ rfl; (with_reducible repeat (first | refine blk_drewN ?_ _ | refine blk_drew ?_ | refine blk_alloc ?_ _)); exact BK175.out) hg (Kd.R_away HO_12.out (fun _ hk => hk.2))); have n1_ := Aside0.mk (hb); have n2_ := Aside0.mk (ho); clear BK175; clear HB; clear HO_12; have BK175 := n0_; have HB := n1_; have HO178 := n2_; clear n0_ n1_ n2_; clear ho hb hg hat)); try go_wp2_with (first | ((with_reducible refine gate_dst (N := 14) rfl ?_); refine box_event ?hg (N := 14) ?hd (cs := #[.int .i64 0, .int .i64 0, .string (⟨#[]⟩ : ByteArray)]) (t := 43) ?hr ?_; (case hd => rfl); (case hg => rfl); (case hr => first | (go_simp; done) | (go_simp; rfl)); intro gb175 hg w23 hbox hb; have n0_ := Aside0.mk (Kd.R_below (Kd.R_elderB (rp_ HO_12.out) gb175 (Nat.le_of_eq hg.symm)) hb); have n1_ := Aside0.mk (below_step (bel_) hb); have n2_ := Aside0.mk (hbox); have n3_ := Aside0.mk ((by rw [hg]; exact (below_size (bel_)) : w.heap.size ≤ gb175)); have n4_ := Aside0.mk ((by rw [hg]; exact (below_size (bel_)) : w.heap.size ≤ gb175)); clear HO_12; clear HB; have HO_12 := n0_; have HB := n1_; have BK175 := n2_; have GW175 := n3_; have GE175 := n4_; clear n0_ n1_ n2_ n3_ n4_; clear hb hbox hg; have hcz24_0 : w23.cell? ⟨gb175, 0, none⟩ = some (.int .i64 0) := (blk_cell BK175.out 0).trans rfl; have hcz24_1 : w23.cell? ⟨gb175, 1, none⟩ = some (.int .i64 0) := (blk_cell BK175.out 1).trans rfl; have hcz24_2 : w23.cell? ⟨gb175, 2, none⟩ = some (.string (⟨#[]⟩ : ByteArray)) := (blk_cell BK175.out 2).trans rfl; have hfz24_0 := blk_frozen BK175.out 0; have hfz24_1 := blk_frozen BK175.out 1; have hfz24_2 := blk_frozen BK175.out 2) | ((with_reducible refine gate_builtin (b := .append) (xs := #[.tmp 58, .tmp 60]) rfl ?_); at_builtin; refine Kd.R_append k43 (w0 := w) w.heap.size rfl (.tmp 58) (.tmp 60) 27 43 (.agg #[(.int .i64 0), (.int .i64 0), (.string ⟨#[]⟩)]) 32 rfl Tryd.underlying27 info43 rfl (by decide) (by omega) u12 x12_2 (⟨(rd_T43 l1 x13_2).f0, wrap64 (((rd_T43 l1 x13_2).f1) + (wrap64 ((wrap64 (((rd_T43 l0 t159).f1) + 1)) - ((rd_T43 l1 0).f1)))), (rd_T43 l1 x13_2).f2⟩ : S43) [.int .i64 ((rd_T43 l1 x13_2).f0), .int .i64 (wrap64 (((rd_T43 l1 x13_2).f1) + (wrap64 ((wrap64 (((rd_T43 l0 t159).f1) + 1)) - ((rd_T43 l1 0).f1))))), .string ((rd_T43 l1 x13_2).f2)] (fun k_ => k_ ≠ gb175) (fun _ => False) rfl (by first | (go_simp; done) | (go_simp; rfl)) ?aP (fun _ hk => hk.elim) ?aF ?aO ?aB ?aS ?aL ?_; (case aP => exact k43_mkM _ _ _ (⟨(rd_T43 l1 x13_2).f0, wrap64 (((rd_T43 l1 x13_2).f1) + (wrap64 ((wrap64 (((rd_T43 l0 t159).f1) + 1)) - ((rd_T43 l1 0).f1)))), (rd_T43 l1 x13_2).f2⟩ : S43)); (case aB => exact (bel_)); (case aF => exact (fun k_ hk => Kd.freshB (g := gb175) (o := .cells #[.int .i64 ((rd_T43 l1 x13_2).f0), .int .i64 (wrap64 (((rd_T43 l1 x13_2).f1) + (wrap64 ((wrap64 (((rd_T43 l0 t159).f1) + 1)) - ((rd_T43 l1 0).f1))))), .string ((rd_T43 l1 x13_2).f2)] 43 (0, 0)) (by (with_reducible repeat (first | refine blk_drewN ?_ _ | refine blk_drew ?_ | refine blk_alloc ?_ _)); refine blk_put (cs := #[.int .i64 ((rd_T43 l1 x13_2).f0), .int .i64 ((rd_T43 l1 x13_2).f1), .string ((rd_T43 l1 x13_2).f2)]) ?_ 1 _ rfl; (with_reducible repeat (first | refine blk_drewN ?_ _ | refine blk_drew ?_ | refine blk_alloc ?_ _)); refine blk_put (cs := #[.int .i64 ((rd_T43 l1 x13_2).f0), .int .i64 ((rd_T43 l1 x13_2).f1), .string (⟨#[]⟩ : ByteArray)]) ?_ 2 _ rfl; (with_reducible repeat (first | refine blk_drewN ?_ _ | refine blk_drew ?_ | refine blk_alloc ?_ _)); refine blk_put (cs := #[.int .i64 ((rd_T43 l1 x13_2).f0), .int .i64 0, .string (⟨#[]⟩ : ByteArray)]) ?_ 1 _ rfl; (with_reducible repeat (first | refine blk_drewN ?_ _ | refine blk_drew ?_ | refine blk_alloc ?_ _)); refine blk_put (cs := #[.int .i64 0, .int .i64 0, .string (⟨#[]⟩ : ByteArray)]) ?_ 0 _ rfl; (with_reducible repeat (first | refine blk_drewN ?_ _ | refine blk_drew ?_ | refine blk_alloc ?_ _)); exact BK175.out) k_ hk)); (case aO => exact (by (with_reducible repeat (first | apply Kd.R_alloc | apply Kd.R_drewN | apply Kd.R_drew)); exact Kd.R_mono (Kd.R_far (p := ⟨gb175, 1, none⟩) (Kd.R_far (p := ⟨gb175, 2, none⟩) (Kd.R_far (p := ⟨gb175, 1, none⟩) (Kd.R_far (p := ⟨gb175, 0, none⟩) (Kd.R_mono HO_12.out (fun k_ hk => (⟨hk, hk.2⟩ : _ ∧ k_ ≠ gb175))) (fun _ hk => hk.2) (.int .i64 ((rd_T43 l1 x13_2).f0))) (fun _ hk => hk.2) (.int .i64 ((rd_T43 l1 x13_2).f1))) (fun _ hk => hk.2) (.string ((rd_T43 l1 x13_2).f2))) (fun _ hk => hk.2) (.int .i64 (wrap64 (((rd_T43 l1 x13_2).f1) + (wrap64 ((wrap64 (((rd_T43 l0 t159).f1) + 1)) - ((rd_T43 l1 0).f1))))))) (fun _ hk => hk.1.2))); (case aS => exact (below_size (bel_))); (case aL => have := LMc22.out; omega); intro v177 w25 ho hb hg hat; rw [← Ny176.out] at ho; have n0_ := Aside0.mk (blk_grown (g := gb175) (o := .cells #[.int .i64 ((rd_T43 l1 x13_2).f0), .int .i64 (wrap64 (((rd_T43 l1 x13_2).f1) + (wrap64 ((wrap64 (((rd_T43 l0 t159).f1) + 1)) - ((rd_T43 l1 0).f1))))), .string ((rd_T43 l1 x13_2).f2)] 43 (0, 0)) (by (with_reducible repeat (first | refine blk_drewN ?_ _ | refine blk_drew ?_ | refine blk_alloc ?_ _)); refine blk_put (cs := #[.int .i64 ((rd_T43 l1 x13_2).f0), .int .i64 ((rd_T43 l1 x13_2).f1), .string ((rd_T43 l1 x13_2).f2)]) ?_ 1 _ rfl; (with_reducible repeat (first | refine blk_drewN ?_ _ | refine blk_drew ?_ | refine blk_alloc ?_ _)); refine blk_put (cs := #[.int .i64 ((rd_T43 l1 x13_2).f0), .int .i64 ((rd_T43 l1 x13_2).f1), .string (⟨#[]⟩ : ByteArray)]) ?_ 2 _ rfl; (with_reducible repeat (first | refine blk_drewN ?_ _ | refine blk_drew ?_ | refine blk_alloc ?_ _)); refine blk_put (cs := #[.int .i64 ((rd_T43 l1 x13_2).f0), .int .i64 0, .string (⟨#[]⟩ : ByteArray)]) ?_ 1 _ rfl; (with_reducible repeat (first | refine blk_drewN ?_ _ | refine blk_drew ?_ | refine blk_alloc ?_ _)); refine blk_put (cs := #[.int .i64 0, .int .i64 0, .string (⟨#[]⟩ : ByteArray)]) ?_ 0 _ rfl; (with_reducible repeat (first | refine blk_drewN ?_ _ | refine blk_drew ?_ | refine blk_alloc ?_ _)); exact BK175.out) hg (Kd.R_away HO_12.out (fun _ hk => hk.2))); have n1_ := Aside0.mk (hb); have n2_ := Aside0.mk (ho); clear BK175; clear HB; clear HO_12; have BK175 := n0_; have HB := n1_; have HO178 := n2_; clear n0_ n1_ n2_; clear ho hb hg hat)))
              go_roundg k2
              case measure => have := HJ8.out; have := HK2.out; omega
              case rel => exact ⟨(y176), (wrap64 (x13_2 + 1)), (si_), H', ⟨by have := HJ8.out; have := HK2.out; omega⟩, ⟨by (with_reducible repeat (first | apply Kd.R_alloc | apply Kd.R_drewN | apply Kd.R_drew)); exact Kd.R_mono HO178.out (fun _ hk => trivial)⟩, ⟨bel_⟩⟩
             ·rw [if_neg c22] at H
              exact absurd H (by simp)
            ·rw [if_neg c21] at H
             exact absurd H (by simp)
           ·rw [if_neg c20] at H
            have c20b0 : decide (x13_2 < (l1.length : Int)) = false := decide_eq_false c20
            clear c20
            by_cases c26 : 0 ≤ x11_8
            ·rw [if_pos c26] at H
             have c26b0 := eq_true c26
             have c26b1 : decide (0 ≤ x11_8) = true := decide_eq_true c26
             clear c26
             by_cases c27 : x11_8 ≤ (l0.length : Int)
             ·rw [if_pos c27] at H
              have c27b0 := eq_true c27
              have c27b1 : decide (x11_8 ≤ (l0.length : Int)) = true := decide_eq_true c27
              clear c27
              obtain ⟨y179, hy179⟩ : ∃ y_ : List (S43), y_ = (l0.drop (x11_8 : Int).toNat) := ⟨_, rfl⟩
              replace H : (if x12_2.length + y179.length < 4398046511104 then (some (x12_2 ++ y179)) else (none)) = some r := by first | (rw [hy179]; with_reducible exact H) | (have H2_ := (Option.bind_some _ _).symm.trans H; rw [hy179]; with_reducible exact H2_) | (have H2_ := (Option.bind_some _ _).symm.trans H; with_reducible exact H2_) | with_reducible exact H | (rw [hy179]; exact H) | exact H
              have Ny179 := Aside0.mk hy179
              clear hy179
              by_cases c28 : x12_2.length + y179.length < 4398046511104
              ·rw [if_pos c28] at H
               have LMc28 := Aside0.mk c28
               clear c28
               obtain ⟨y183, hy183⟩ : ∃ y_ : List (S43), y_ = (x12_2 ++ y179) := ⟨_, rfl⟩
               replace H : (some y183) = some r := by first | (rw [hy183]; with_reducible exact H) | (have H2_ := (Option.bind_some _ _).symm.trans H; rw [hy183]; with_reducible exact H2_) | (have H2_ := (Option.bind_some _ _).symm.trans H; with_reducible exact H2_) | with_reducible exact H | (rw [hy183]; exact H) | exact H
               have Ny183 := Aside0.mk hy183
               clear hy183
               obtain rfl := Option.some.inj H
               have q29 : (x11_8 : Int) ≤ ((l0.length : Int) : Int) := od_
               obtain ⟨i029, hi029, _, hsz29, _⟩ := info_parts info43
               have hroom29 : l0.length ≤ c0 := HC0.out
               have hC29 : Kd.C k43 _ (some ad160) l0.length l0 := HR0.out
               have q029 : (0 : Int) ≤ (x11_8 : Int) := od_
               have hcut29 := cut_from (P := Tryd.prog) 27 43 .i64 Tryd.underlying27 hi029 3 hsz29 (some ad160) l0.length c0 x11_8 q029 q29
               have hr29 := Kd.C_drop (m := (x11_8 : Int).toNat) (c := c0) hC29 (by omega) hroom29
               obtain ⟨A29, hA29⟩ : ∃ A1, A1 = (if c0 = (x11_8 : Int).toNat then (some ad160) else ((some ad160) : Option Addr).map (·.add ((x11_8 : Int).toNat * 3))) := ⟨_, rfl⟩
               obtain ⟨c29, hc29⟩ : ∃ c1, c1 = c0 - (x11_8 : Int).toNat := ⟨_, rfl⟩
               have hy29 : y179.length = l0.length - (x11_8 : Int).toNat := (by rw [Ny179.out, List.length_drop] <;> omega)
               rw [show (l0).drop (x11_8 : Int).toNat = y179 from Ny179.out.symm] at hr29
               replace hr29 : Kd.C k43 _ A29 y179.length y179 := (by rw [hA29]; exact hr29)
               rw [← hy29, ← hA29, ← hc29] at hcut29
               have HR182 := Aside0.mk hr29
               have HC182 := Aside0.mk (show y179.length ≤ c29 from by rw [hy29, hc29]; exact Nat.sub_le_sub_right hroom29 _)
               clear hr29 hC29 hroom29 hi029 hsz29 hc29
               have KY29 := Aside0.mk hy29
               have KA29 := Aside0.mk hA29
               clear hy29 hA29
               replace q29 := eq_true q29
               go_wp2_with (first | ((with_reducible refine gate_builtin (b := .append) (xs := #[.tmp 62, .tmp 65]) rfl ?_); at_builtin; refine Kd.R_append_rows k43 (w0 := w) w.heap.size rfl (.tmp 62) (.tmp 65) 27 43 (.agg #[(.int .i64 0), (.int .i64 0), (.string ⟨#[]⟩)]) 32 rfl Tryd.underlying27 info43 rfl (by decide) (by omega) u12 x12_2 y179 _ _ _ (fun _ => True) (fun _ => False) rfl rfl ?aO ?aR (fun _ _ h => h) (fun _ h => h.elim) ?aF ?aB ?aS ?aL ?_; (case aR => repeat (first | exact (Kd.C_below HR182.out HB.out) | (with_reducible refine Kd.C_alloc ?_ _) | (with_reducible refine Kd.C_drewN ?_ _) | (with_reducible refine Kd.C_drew ?_))); (case aB => exact (bel_)); (case aF => exact (fun _ _ => trivial)); (case aO => exact (rp_ HO_12.out)); (case aS => exact (below_size (bel_))); (case aL => have := LMc28.out; omega); intro v184 w30 ho hb hg hat; rw [← Ny183.out] at ho; replace HB := Aside0.mk (hb); have HO185 := Aside0.mk (ho); clear HO_12; clear ho hb hg hat))
               repeat (go_quiet (first | ((with_reducible refine gate_builtin (b := .append) (xs := #[.tmp 62, .tmp 65]) rfl ?_); at_builtin; refine Kd.R_append_rows k43 (w0 := w) w.heap.size rfl (.tmp 62) (.tmp 65) 27 43 (.agg #[(.int .i64 0), (.int .i64 0), (.string ⟨#[]⟩)]) 32 rfl Tryd.underlying27 info43 rfl (by decide) (by omega) u12 x12_2 y179 _ _ _ (fun _ => True) (fun _ => False) rfl rfl ?aO ?aR (fun _ _ h => h) (fun _ h => h.elim) ?aF ?aB ?aS ?aL ?_; (case aR => repeat (first | exact (Kd.C_below HR182.out HB.out) | (with_reducible refine Kd.C_alloc ?_ _) | (with_reducible refine Kd.C_drewN ?_ _) | (with_reducible refine Kd.C_drew ?_))); (case aB => exact (bel_)); (case aF => exact (fun _ _ => trivial)); (case aO => exact (rp_ HO_12.out)); (case aS => exact (below_size (bel_))); (case aL => have := LMc28.out; omega); intro v184 w30 ho hb hg hat; rw [← Ny183.out] at ho; replace HB := Aside0.mk (hb); have HO185 := Aside0.mk (ho); clear HO_12; clear ho hb hg hat)); try go_wp2_with (first | ((with_reducible refine gate_builtin (b := .append) (xs := #[.tmp 62, .tmp 65]) rfl ?_); at_builtin; refine Kd.R_append_rows k43 (w0 := w) w.heap.size rfl (.tmp 62) (.tmp 65) 27 43 (.agg #[(.int .i64 0), (.int .i64 0), (.string ⟨#[]⟩)]) 32 rfl Tryd.underlying27 info43 rfl (by decide) (by omega) u12 x12_2 y179 _ _ _ (fun _ => True) (fun _ => False) rfl rfl ?aO ?aR (fun _ _ h => h) (fun _ h => h.elim) ?aF ?aB ?aS ?aL ?_; (case aR => repeat (first | exact (Kd.C_below HR182.out HB.out) | (with_reducible refine Kd.C_alloc ?_ _) | (with_reducible refine Kd.C_drewN ?_ _) | (with_reducible refine Kd.C_drew ?_))); (case aB => exact (bel_)); (case aF => exact (fun _ _ => trivial)); (case aO => exact (rp_ HO_12.out)); (case aS => exact (below_size (bel_))); (case aL => have := LMc28.out; omega); intro v184 w30 ho hb hg hat; rw [← Ny183.out] at ho; replace HB := Aside0.mk (hb); have HO185 := Aside0.mk (ho); clear HO_12; clear ho hb hg hat)))
               go_ret
               exact ⟨_, fi_, by (with_reducible repeat (first | apply Kd.R_alloc | apply Kd.R_drewN | apply Kd.R_drew)); exact HO185.out, bel_⟩
              ·rw [if_neg c28] at H
               exact absurd H (by simp)
             ·rw [if_neg c27] at H
              exact absurd H (by simp)
            ·rw [if_neg c26] at H
             exact absurd H (by simp)
        ·rw [if_neg c15] at H
         exact absurd H (by simp)
       ·rw [if_neg c14] at H
        exact absurd H (by simp)
      ·rw [if_neg c13] at H
       exact absurd H (by simp)
   ·rw [if_neg c8] at H
    exact absurd H (by simp)
  ·rw [if_neg c7] at H
   exact absurd H (by simp)
 ·rw [if_neg c6] at H
  exact absurd H (by simp)

def spec_l3Do.f (k : Nat) (l0 : List (S43)) (a1_0 : Int) (a1_1 : Int) (a1_2 : Int) (a1_3 : Int) (a1_4 : ByteArray) : Option ((List (S43))) := (spec_l2At.f k l0 a1_1).bind fun t187 => (if a1_0 = 2 then ((some (([] : List (S43)) : List (S43))).bind fun y188 => (if y188.length + l0.length < 4398046511104 then ((some (y188 ++ l0 : List (S43))).bind fun y191 => (if t187 ≥ 0 then (if 0 ≤ t187 then (if t187 < (y191.length : Int) then (some (y191.set (t187 : Int).toNat (⟨(rd_T43 y191 t187).f0, (rd_T43 y191 t187).f1, a1_4⟩ : S43))) else (none)) else (none)) else (some y191))) else (none))) else ((spec_l3Where.f k l0 a1_0 a1_1 a1_2 a1_3 a1_4).bind fun bt195 => (if bt195.2.2 = true then (if a1_0 = 1 then ((spec_l3Put.f k l0 (([(⟨a1_1, 0, a1_4⟩ : S43)] : List (S43))) bt195.1 bt195.2.1).bind fun t207 => (some t207)) else ((spec_l2End.f k l0 t187).bind fun t210 => ((some (([] : List (S43)) : List (S43))).bind fun y211 => (if 0 ≤ t187 then (if t187 ≤ t210 then (if t210 ≤ (l0.length : Int) then ((some ((l0.take (t210 : Int).toNat).drop (t187 : Int).toNat : List (S43))).bind fun y214 => (if y211.length + y214.length < 4398046511104 then ((some (([] : List (S43)) : List (S43))).bind fun y221 => (if t187 ≤ (l0.length : Int) then ((some (l0.take (t187 : Int).toNat : List (S43))).bind fun y224 => (if y221.length + y224.length < 4398046511104 then ((some (y221 ++ y224 : List (S43))).bind fun y228 => (if 0 ≤ t210 then ((some (l0.drop (t210 : Int).toNat : List (S43))).bind fun y231 => (if y228.length + y231.length < 4398046511104 then ((spec_l3Put.f k (y228 ++ y231) (y211 ++ y214) bt195.1 bt195.2.1).bind fun t238 => (some t238)) else (none))) else (none))) else (none))) else (none))) else (none))) else (none)) else (none)) else (none))))) else ((some (([] : List (S43)) : List (S43))).bind fun y198 => (if y198.length + l0.length < 4398046511104 then (some (y198 ++ l0)) else (none))))))
theorem spec_l3Do.mono : ∀ a0 a1 a2 a3 a4 a5 k, LeO (spec_l3Do.f k a0 a1 a2 a3 a4 a5) (spec_l3Do.f (k + 1) a0 a1 a2 a3 a4 a5) := by
 intro a0 a1 a2 a3 a4 a5 k
 unfold spec_l3Do.f
 repeat' first
   | (with_reducible exact spec_l2At.mono _ _ _)
   | (with_reducible exact spec_l2End.mono _ _ _)
   | (with_reducible exact spec_l3Put.mono _ _ _ _ _)
   | (with_reducible exact spec_l3Where.mono _ _ _ _ _ _ _)
   | (with_reducible exact LeO.refl _)
   | (with_reducible exact LeO.none _)
   | (with_reducible refine LeO.ite ?_ ?_)
   | (with_reducible refine LeO.bind ?_ (fun _ => ?_))
   | exact spec_l2At.mono _ _ _
   | exact spec_l2End.mono _ _ _
   | exact spec_l3Put.mono _ _ _ _ _
   | exact spec_l3Where.mono _ _ _ _ _ _ _
   | exact LeO.none _
   | refine LeO.ite ?_ ?_
   | refine LeO.bind ?_ (fun _ => ?_)
def spec_l3Do.T14 : Bool × List (List Nat × List Nat) := (true, [([], []), ([], []), ([], []), ([1, 2], [1, 2]), ([0, 3], [0, 3]), ([], []), ([], []), ([5, 6], [5, 6]), ([4, 7, 4], [4, 7]), ([8, 8, 0, 1, 2, 3, 4, 5, 6, 7, 8], [8])])
def spec_l3Do.B14 : List Nat := [0, 0, 0, 6, 15, 0, 0, 96, 255, 511]
theorem spec_l3Do.tab14 : rtab .any (opsOf Tryd.f38 14) = spec_l3Do.T14 := by kernel_rfl
theorem spec_l3Do.bits14 : waitsOk spec_l3Do.T14.2 spec_l3Do.B14 = true := by kernel_rfl
set_option maxHeartbeats 8000000 in
set_option maxRecDepth 100000 in
theorem spec_l3Do.calls (k : Nat) (A0 : Option Addr) (c0 : Nat) (l0 : List (S43)) (a1_0 : Int) (a1_1 : Int) (a1_2 : Int) (a1_3 : Int) (a1_4 : ByteArray) (r : List (S43)) (w : World) (hr0 : Kd.C k43 w A0 l0.length l0) (hc0 : l0.length ≤ c0) (h : spec_l3Do.f k l0 a1_0 a1_1 a1_2 a1_3 a1_4 = some r) :
  Calls Tryd.prog 38 #[.slice A0 l0.length c0, .agg #[.int .i64 a1_0, .int .i64 a1_1, .int .i64 a1_2, .int .i64 a1_3, .string a1_4]] w fun e w' => ∃ v0_ : Value, e = .returned (v0_) ∧ Kd.R k43 43 w' w.heap.size (fun _ => True) v0_ r ∧ Below w.heap.size w w' := by
 have hu30 := Tryd.underlying30
 have hu43 := Tryd.underlying43
 have HR0 := Aside0.mk hr0
 have HC0 := Aside0.mk hc0
 clear hr0 hc0
 have HB := Aside0.mk (Below.refl w.heap.size w)
 have H : ((spec_l2At.f k l0 a1_1).bind fun t187 => (if a1_0 = 2 then ((some (([] : List (S43)) : List (S43))).bind fun y188 => (if y188.length + l0.length < 4398046511104 then ((some (y188 ++ l0 : List (S43))).bind fun y191 => (if t187 ≥ 0 then (if 0 ≤ t187 then (if t187 < (y191.length : Int) then (some (y191.set (t187 : Int).toNat (⟨(rd_T43 y191 t187).f0, (rd_T43 y191 t187).f1, a1_4⟩ : S43))) else (none)) else (none)) else (some y191))) else (none))) else ((spec_l3Where.f k l0 a1_0 a1_1 a1_2 a1_3 a1_4).bind fun bt195 => (if bt195.2.2 = true then (if a1_0 = 1 then ((spec_l3Put.f k l0 (([(⟨a1_1, 0, a1_4⟩ : S43)] : List (S43))) bt195.1 bt195.2.1).bind fun t207 => (some t207)) else ((spec_l2End.f k l0 t187).bind fun t210 => ((some (([] : List (S43)) : List (S43))).bind fun y211 => (if 0 ≤ t187 then (if t187 ≤ t210 then (if t210 ≤ (l0.length : Int) then ((some ((l0.take (t210 : Int).toNat).drop (t187 : Int).toNat : List (S43))).bind fun y214 => (if y211.length + y214.length < 4398046511104 then ((some (([] : List (S43)) : List (S43))).bind fun y221 => (if t187 ≤ (l0.length : Int) then ((some (l0.take (t187 : Int).toNat : List (S43))).bind fun y224 => (if y221.length + y224.length < 4398046511104 then ((some (y221 ++ y224 : List (S43))).bind fun y228 => (if 0 ≤ t210 then ((some (l0.drop (t210 : Int).toNat : List (S43))).bind fun y231 => (if y228.length + y231.length < 4398046511104 then ((spec_l3Put.f k (y228 ++ y231) (y211 ++ y214) bt195.1 bt195.2.1).bind fun t238 => (some t238)) else (none))) else (none))) else (none))) else (none))) else (none))) else (none)) else (none)) else (none))))) else ((some (([] : List (S43)) : List (S43))).bind fun y198 => (if y198.length + l0.length < 4398046511104 then (some (y198 ++ l0)) else (none))))))) = some r := h
 clear h
 replace H := Option.bind_eq_some_iff.mp H
 obtain ⟨t187, A30, H⟩ := H
 replace H : (if a1_0 = 2 then ((some (([] : List (S43)) : List (S43))).bind fun y188 => (if y188.length + l0.length < 4398046511104 then ((some (y188 ++ l0 : List (S43))).bind fun y191 => (if t187 ≥ 0 then (if 0 ≤ t187 then (if t187 < (y191.length : Int) then (some (y191.set (t187 : Int).toNat (⟨(rd_T43 y191 t187).f0, (rd_T43 y191 t187).f1, a1_4⟩ : S43))) else (none)) else (none)) else (some y191))) else (none))) else ((spec_l3Where.f k l0 a1_0 a1_1 a1_2 a1_3 a1_4).bind fun bt195 => (if bt195.2.2 = true then (if a1_0 = 1 then ((spec_l3Put.f k l0 (([(⟨a1_1, 0, a1_4⟩ : S43)] : List (S43))) bt195.1 bt195.2.1).bind fun t207 => (some t207)) else ((spec_l2End.f k l0 t187).bind fun t210 => ((some (([] : List (S43)) : List (S43))).bind fun y211 => (if 0 ≤ t187 then (if t187 ≤ t210 then (if t210 ≤ (l0.length : Int) then ((some ((l0.take (t210 : Int).toNat).drop (t187 : Int).toNat : List (S43))).bind fun y214 => (if y211.length + y214.length < 4398046511104 then ((some (([] : List (S43)) : List (S43))).bind fun y221 => (if t187 ≤ (l0.length : Int) then ((some (l0.take (t187 : Int).toNat : List (S43))).bind fun y224 => (if y221.length + y224.length < 4398046511104 then ((some (y221 ++ y224 : List (S43))).bind fun y228 => (if 0 ≤ t210 then ((some (l0.drop (t210 : Int).toNat : List (S43))).bind fun y231 => (if y228.length + y231.length < 4398046511104 then ((spec_l3Put.f k (y228 ++ y231) (y211 ++ y214) bt195.1 bt195.2.1).bind fun t238 => (some t238)) else (none))) else (none))) else (none))) else (none))) else (none))) else (none)) else (none)) else (none))))) else ((some (([] : List (S43)) : List (S43))).bind fun y198 => (if y198.length + l0.length < 4398046511104 then (some (y198 ++ l0)) else (none)))))) = some r := H
 have A3 := Aside0.mk A30
 clear A30
 by_cases c4 : a1_0 = 2
 ·rw [if_pos c4] at H
  have c4b0 : (a1_0 == 2) = true := beq_iff_eq.mpr c4
  have c4b1 : (a1_0 != 2) = false := bne_eq_false_iff_eq.mpr c4
  clear c4
  obtain ⟨y188, hy188⟩ : ∃ y_ : List (S43), y_ = (([] : List (S43))) := ⟨_, rfl⟩
  replace H : (if y188.length + l0.length < 4398046511104 then ((some (y188 ++ l0 : List (S43))).bind fun y191 => (if t187 ≥ 0 then (if 0 ≤ t187 then (if t187 < (y191.length : Int) then (some (y191.set (t187 : Int).toNat (⟨(rd_T43 y191 t187).f0, (rd_T43 y191 t187).f1, a1_4⟩ : S43))) else (none)) else (none)) else (some y191))) else (none)) = some r := by first | (rw [hy188]; with_reducible exact H) | (have H2_ := (Option.bind_some _ _).symm.trans H; rw [hy188]; with_reducible exact H2_) | (have H2_ := (Option.bind_some _ _).symm.trans H; with_reducible exact H2_) | with_reducible exact H | (rw [hy188]; exact H) | exact H
  have Ny188 := Aside0.mk hy188
  clear hy188
  by_cases c5 : y188.length + l0.length < 4398046511104
  ·rw [if_pos c5] at H
   have LMc5 := Aside0.mk c5
   clear c5
   obtain ⟨y191, hy191⟩ : ∃ y_ : List (S43), y_ = (y188 ++ l0) := ⟨_, rfl⟩
   replace H : (if t187 ≥ 0 then (if 0 ≤ t187 then (if t187 < (y191.length : Int) then (some (y191.set (t187 : Int).toNat (⟨(rd_T43 y191 t187).f0, (rd_T43 y191 t187).f1, a1_4⟩ : S43))) else (none)) else (none)) else (some y191)) = some r := by first | (rw [hy191]; with_reducible exact H) | (have H2_ := (Option.bind_some _ _).symm.trans H; rw [hy191]; with_reducible exact H2_) | (have H2_ := (Option.bind_some _ _).symm.trans H; with_reducible exact H2_) | with_reducible exact H | (rw [hy191]; exact H) | exact H
   have Ny191 := Aside0.mk hy191
   clear hy191
   by_cases c6 : t187 ≥ 0
   ·rw [if_pos c6] at H
    have c6b0 : decide (0 ≤ t187) = true := decide_eq_true c6
    clear c6
    by_cases c7 : 0 ≤ t187
    ·rw [if_pos c7] at H
     have c7b0 : decide (0 ≤ t187) = true := decide_eq_true c7
     clear c7
     by_cases c8 : t187 < (y191.length : Int)
     ·rw [if_pos c8] at H
      have c8b0 : decide (t187 < (y191.length : Int)) = true := decide_eq_true c8
      clear c8
      obtain ⟨y194, hy194⟩ : ∃ y_ : List (S43), y_ = (y191.set (t187 : Int).toNat (⟨(rd_T43 y191 t187).f0, (rd_T43 y191 t187).f1, a1_4⟩ : S43)) := ⟨_, rfl⟩
      replace H : (some y194) = some r := by first | (rw [hy194]; with_reducible exact H) | (have H2_ := (Option.bind_some _ _).symm.trans H; rw [hy194]; with_reducible exact H2_) | (have H2_ := (Option.bind_some _ _).symm.trans H; with_reducible exact H2_) | with_reducible exact H | (rw [hy194]; exact H) | exact H
      have Ny194 := Aside0.mk hy194
      clear hy194
      obtain rfl := Option.some.inj H
      go_enter Tryd.func38, Tryd.ntmps38
      go_wp2_with (first | ((with_reducible refine gate_dst (N := 3) rfl ?_); refine box_event ?hg (N := 3) ?hd (cs := #[.int .i64 a1_0, .int .i64 a1_1, .int .i64 a1_2, .int .i64 a1_3, .string a1_4]) (t := 30) ?hr ?_; (case hd => rfl); (case hg => rfl); (case hr => first | (go_simp; done) | (go_simp; rfl)); intro gb186 hg w10 hbox hb; have n0_ := Aside0.mk (below_step (bel_) hb); have n1_ := Aside0.mk (hbox); have n2_ := Aside0.mk ((by rw [hg]; exact (below_size (bel_)) : w.heap.size ≤ gb186)); have n3_ := Aside0.mk ((by rw [hg]; exact (below_size (bel_)) : w.heap.size ≤ gb186)); clear HB; have HB := n0_; have BK186 := n1_; have GW186 := n2_; have GE186 := n3_; clear n0_ n1_ n2_ n3_; clear hb hbox hg; have hcz11_0 : w10.cell? ⟨gb186, 0, none⟩ = some (.int .i64 a1_0) := (blk_cell BK186.out 0).trans rfl; have hcz11_1 : w10.cell? ⟨gb186, 1, none⟩ = some (.int .i64 a1_1) := (blk_cell BK186.out 1).trans rfl; have hcz11_2 : w10.cell? ⟨gb186, 2, none⟩ = some (.int .i64 a1_2) := (blk_cell BK186.out 2).trans rfl; have hcz11_3 : w10.cell? ⟨gb186, 3, none⟩ = some (.int .i64 a1_3) := (blk_cell BK186.out 3).trans rfl; have hcz11_4 : w10.cell? ⟨gb186, 4, none⟩ = some (.string a1_4) := (blk_cell BK186.out 4).trans rfl; have hfz11_0 := blk_frozen BK186.out 0; have hfz11_1 := blk_frozen BK186.out 1; have hfz11_2 := blk_frozen BK186.out 2; have hfz11_3 := blk_frozen BK186.out 3; have hfz11_4 := blk_frozen BK186.out 4) | ((with_reducible refine gate_callee (f := 60) rfl ?_); refine gl_ 16 Tryd.func60 #[.slice A0 l0.length c0, .int .i64 a1_1] ?_; (with_reducible refine (spec_l2At.calls k _ _ l0 a1_1 t187 _ ?side1 ?side2 A3.out).mono ?_); (case side1 => exact cp_ HR0.out); (case side2 => exact HC0.out); rintro e w' ⟨rfl, ⟨nd, rfl⟩⟩; refine ⟨_, rfl, ?_⟩; (try (rw [drewN_self w10]; generalize hq_ : World.drewN w10 _ = w10; have n0_ : Aside0 (w10.heap[gb186]? = some (.cells #[.int .i64 a1_0, .int .i64 a1_1, .int .i64 a1_2, .int .i64 a1_3, .string a1_4] 30 (0, 0))) := ⟨by rw [← hq_]; exact (bp_ BK186.out)⟩; have n1_ : Aside0 (Below w.heap.size w w10) := ⟨by rw [← hq_]; exact (bel_)⟩; clear BK186 HB hq_; have BK186 := n0_; have HB := n1_; clear n0_ n1_; have hcy_gb186_0 : w10.cell? ⟨gb186, 0, none⟩ = some (.int .i64 a1_0) := (blk_cell BK186.out 0).trans rfl; have hfy_gb186_0 := blk_frozen BK186.out 0; have hcy_gb186_1 : w10.cell? ⟨gb186, 1, none⟩ = some (.int .i64 a1_1) := (blk_cell BK186.out 1).trans rfl; have hfy_gb186_1 := blk_frozen BK186.out 1; have hcy_gb186_2 : w10.cell? ⟨gb186, 2, none⟩ = some (.int .i64 a1_2) := (blk_cell BK186.out 2).trans rfl; have hfy_gb186_2 := blk_frozen BK186.out 2; have hcy_gb186_3 : w10.cell? ⟨gb186, 3, none⟩ = some (.int .i64 a1_3) := (blk_cell BK186.out 3).trans rfl; have hfy_gb186_3 := blk_frozen BK186.out 3; have hcy_gb186_4 : w10.cell? ⟨gb186, 4, none⟩ = some (.string a1_4) := (blk_cell BK186.out 4).trans rfl; have hfy_gb186_4 := blk_frozen BK186.out 4))) | ((with_reducible refine gate_dst (N := 20) rfl ?_); refine Kd.R_lit k43 _ 43 ?hg (N := 20) ?hd (xs := ([] : List (S43))) (inner := []) (ok := fun _ => True) (okp := fun _ => True) ?hr ?hp (fun _ hk => hk) trivial (Below.refl _ _) (Nat.le_refl _) (by simp) ?_; (case hd => rfl); (case hg => rfl); (case hr => first | (go_simp; done) | (go_simp; rfl)); (case hp => exact (Reps.none _ _)); intro v189 w12 ho13 hb hg_ hnew_; clear hg_ hnew_; (first | rw [← Ny188.out] at ho13 | (simp only [Int.reduceToNat] at ho13; rw [← Ny188.out] at ho13)); have HO190 := Aside0.mk (Kd.R_lower ho13 (below_size (bel_))); replace HB := Aside0.mk (below_step (bel_) hb); replace BK186 := Aside0.mk (blk_below (g := gb186) (o := .cells #[.int .i64 a1_0, .int .i64 a1_1, .int .i64 a1_2, .int .i64 a1_3, .string a1_4] 30 (0, 0)) (bp_ BK186.out) hb); clear hb ho13) | ((with_reducible refine gate_builtin (b := .append) (xs := #[.tmp 20, .tmp 21]) rfl ?_); at_builtin; refine Kd.R_append_rows k43 (w0 := w) w.heap.size rfl (.tmp 20) (.tmp 21) 27 43 (.agg #[(.int .i64 0), (.int .i64 0), (.string ⟨#[]⟩)]) 32 rfl Tryd.underlying27 info43 rfl (by decide) (by omega) v189 y188 l0 _ _ _ (fun _ => True) (fun _ => False) rfl rfl ?aO ?aR (fun _ _ h => h) (fun _ h => h.elim) ?aF ?aB ?aS ?aL ?_; (case aR => repeat (first | exact (Kd.C_below HR0.out HB.out) | (with_reducible refine Kd.C_alloc ?_ _) | (with_reducible refine Kd.C_drewN ?_ _) | (with_reducible refine Kd.C_drew ?_))); (case aB => exact (bel_)); (case aF => exact (fun _ _ => trivial)); (case aO => exact (rp_ HO190.out)); (case aS => exact (below_size (bel_))); (case aL => have := LMc5.out; omega); intro v192 w14 ho hb hg hat; rw [← Ny191.out] at ho; replace BK186 := Aside0.mk (blk_grown (g := gb186) (o := .cells #[.int .i64 a1_0, .int .i64 a1_1, .int .i64 a1_2, .int .i64 a1_3, .string a1_4] 30 (0, 0)) (bp_ BK186.out) hg (Kd.R_ne HO190.out BK186.out (by decide))); replace HB := Aside0.mk (hb); have HO193 := Aside0.mk (ho); clear HO190; clear ho hb hg hat; have hcz15_0 : w14.cell? ⟨gb186, 0, none⟩ = some (.int .i64 a1_0) := (blk_cell BK186.out 0).trans rfl; have hcz15_1 : w14.cell? ⟨gb186, 1, none⟩ = some (.int .i64 a1_1) := (blk_cell BK186.out 1).trans rfl; have hcz15_2 : w14.cell? ⟨gb186, 2, none⟩ = some (.int .i64 a1_2) := (blk_cell BK186.out 2).trans rfl; have hcz15_3 : w14.cell? ⟨gb186, 3, none⟩ = some (.int .i64 a1_3) := (blk_cell BK186.out 3).trans rfl; have hcz15_4 : w14.cell? ⟨gb186, 4, none⟩ = some (.string a1_4) := (blk_cell BK186.out 4).trans rfl; have hfz15_0 := blk_frozen BK186.out 0; have hfz15_1 := blk_frozen BK186.out 1; have hfz15_2 := blk_frozen BK186.out 2; have hfz15_3 := blk_frozen BK186.out 3; have hfz15_4 := blk_frozen BK186.out 4; have p9 : 0 ≤ (t187 : Int) := od_; have q9 : (t187 : Int) < ((y191.length : Int) : Int) := od_; obtain ⟨go9, co9, eo9, gb9, gl9, cl9, HG9⟩ := Kd.R_form HO193.out (by omega); (first | cases eo9 | (injection eo9 with ea_ en_ ec_; (first | subst ea_ | (injection ea_ with ea_; subst ea_)); subst ec_; clear en_)); have GB9 := Aside0.mk gb9; have GG9 := Aside0.mk HG9; clear gb9 gl9 HG9; obtain ⟨ce9, hcl9, hM9, hcc9, hfr9⟩ := Kd.R_elem HO193.out z43 (t187 : Int) p9 q9; obtain rfl := k43_openM hM9; have hx9_0 : w14.cell? ⟨go9, (t187 : Int).toNat * 3, none⟩ = some (.int .i64 ((rd_T43 y191 t187).f0)) := hcc9 0 _ rfl; have hx9_1 : w14.cell? ⟨go9, (t187 : Int).toNat * 3 + 1, none⟩ = some (.int .i64 ((rd_T43 y191 t187).f1)) := hcc9 1 _ rfl; have hx9_2 : w14.cell? ⟨go9, (t187 : Int).toNat * 3 + 2, none⟩ = some (.string ((rd_T43 y191 t187).f2)) := hcc9 2 _ rfl; have hf9_0 : w14.frozen? ⟨go9, (t187 : Int).toNat * 3, none⟩ = false := hfr9 0; have hf9_1 : w14.frozen? ⟨go9, (t187 : Int).toNat * 3 + 1, none⟩ = false := hfr9 1; have hf9_2 : w14.frozen? ⟨go9, (t187 : Int).toNat * 3 + 2, none⟩ = false := hfr9 2; clear hcl9 hcc9 hfr9 hM9; replace p9 := eq_true p9; replace q9 := eq_true q9; have HX16 := Aside0.mk (show Kd.R k43 43 w14 w.heap.size (fun _ => True) (.slice (some ⟨go9, 0, none⟩) y191.length co9) y191 from (rp_ HO193.out)); obtain ⟨ce16, hcl16, hM16, hcc16, hfr16⟩ := Kd.R_elem HX16.out z43 (t187 : Int) (od_) (by have h_ : (t187 : Int) < ((y191.length : Int) : Int) := od_; first | exact h_ | (have e_ := (Kd.R_reads' HO193.out).1; omega) | simpa using h_); obtain rfl := k43_openM hM16; have HP16 := Kd.R_seg HX16.out (t187 : Int) (od_) (by have h_ : (t187 : Int) < ((y191.length : Int) : Int) := od_; first | exact h_ | (have e_ := (Kd.R_reads' HO193.out).1; omega) | simpa using h_) (seg := [.string a1_4]) (j := 2) hcl16 hcc16 (show 3 ≤ 3 from by decide) (x' := (⟨(rd_T43 y191 t187).f0, (rd_T43 y191 t187).f1, a1_4⟩ : S43)) (k43_mkM _ _ _ (⟨(rd_T43 y191 t187).f0, (rd_T43 y191 t187).f1, a1_4⟩ : S43) ) (fun _ hk => hk); have hx16_2 := hcc16 2 _ rfl; (try simp only [show (k43).sz = 3 from rfl, Nat.mul_one, Nat.add_zero] at hx16_2); have hf16_2 := hfr16 2; (try simp only [show (k43).sz = 3 from rfl, Nat.mul_one, Nat.add_zero] at hf16_2); clear hcl16 hcc16 hfr16 hM16) | ((with_reducible refine gate_store (t := 9) (p := 30) rfl ?_); refine store_event (t := 9) (p := 30) (v := ?vo_w17) (w1 := (w14.setCell ⟨go9, (t187 : Int).toNat * 3 + 2, none⟩ (.string a1_4))) ?hg ?ho ?hn ?hr ?_; (case ho => rfl); (case hg => rfl); (case hn => rfl); (case hr => first | (go_simp; done) | (go_simp; rfl)); intro w17 hw; have hg : w14.grownBy w17 (some go9) := (by rw [hw]; exact HP16.2); have hp_ : Kd.R k43 43 w17 w.heap.size (fun _ => True) (.slice (some ⟨go9, 0, none⟩) y191.length co9) y194 := (by rw [hw, Ny194.out]; exact HP16.1); clear HP16; have n0_ := Aside0.mk (blk_grown (g := gb186) (o := .cells #[.int .i64 a1_0, .int .i64 a1_1, .int .i64 a1_2, .int .i64 a1_3, .string a1_4] 30 (0, 0)) (bp_ BK186.out) hg (Kd.R_ne HO193.out BK186.out (by decide))); have n1_ := Aside0.mk (hp_); have n2_ := Aside0.mk ((by rw [hw]; exact below_set (HB.out) GB9.out : Below w.heap.size w w17)); clear BK186; clear HO193; clear HB; have BK186 := n0_; have HO193 := n1_; have HB := n2_; clear n0_ n1_ n2_; clear hg hw hp_))
      go_ret
      exact ⟨_, fi_, by (with_reducible repeat (first | apply Kd.R_alloc | apply Kd.R_drewN | apply Kd.R_drew)); exact HO193.out, bel_⟩
     ·rw [if_neg c8] at H
      exact absurd H (by simp)
    ·rw [if_neg c7] at H
     exact absurd H (by simp)
   ·rw [if_neg c6] at H
    have c6b0 : decide (0 ≤ t187) = false := decide_eq_false c6
    clear c6
    obtain rfl := Option.some.inj H
    go_enter Tryd.func38, Tryd.ntmps38
    go_wp2_with (first | ((with_reducible refine gate_dst (N := 3) rfl ?_); refine box_event ?hg (N := 3) ?hd (cs := #[.int .i64 a1_0, .int .i64 a1_1, .int .i64 a1_2, .int .i64 a1_3, .string a1_4]) (t := 30) ?hr ?_; (case hd => rfl); (case hg => rfl); (case hr => first | (go_simp; done) | (go_simp; rfl)); intro gb186 hg w18 hbox hb; have n0_ := Aside0.mk (below_step (bel_) hb); have n1_ := Aside0.mk (hbox); have n2_ := Aside0.mk ((by rw [hg]; exact (below_size (bel_)) : w.heap.size ≤ gb186)); have n3_ := Aside0.mk ((by rw [hg]; exact (below_size (bel_)) : w.heap.size ≤ gb186)); clear HB; have HB := n0_; have BK186 := n1_; have GW186 := n2_; have GE186 := n3_; clear n0_ n1_ n2_ n3_; clear hb hbox hg; have hcz19_0 : w18.cell? ⟨gb186, 0, none⟩ = some (.int .i64 a1_0) := (blk_cell BK186.out 0).trans rfl; have hcz19_1 : w18.cell? ⟨gb186, 1, none⟩ = some (.int .i64 a1_1) := (blk_cell BK186.out 1).trans rfl; have hcz19_2 : w18.cell? ⟨gb186, 2, none⟩ = some (.int .i64 a1_2) := (blk_cell BK186.out 2).trans rfl; have hcz19_3 : w18.cell? ⟨gb186, 3, none⟩ = some (.int .i64 a1_3) := (blk_cell BK186.out 3).trans rfl; have hcz19_4 : w18.cell? ⟨gb186, 4, none⟩ = some (.string a1_4) := (blk_cell BK186.out 4).trans rfl; have hfz19_0 := blk_frozen BK186.out 0; have hfz19_1 := blk_frozen BK186.out 1; have hfz19_2 := blk_frozen BK186.out 2; have hfz19_3 := blk_frozen BK186.out 3; have hfz19_4 := blk_frozen BK186.out 4) | ((with_reducible refine gate_callee (f := 60) rfl ?_); refine gl_ 16 Tryd.func60 #[.slice A0 l0.length c0, .int .i64 a1_1] ?_; (with_reducible refine (spec_l2At.calls k _ _ l0 a1_1 t187 _ ?side1 ?side2 A3.out).mono ?_); (case side1 => exact cp_ HR0.out); (case side2 => exact HC0.out); rintro e w' ⟨rfl, ⟨nd, rfl⟩⟩; refine ⟨_, rfl, ?_⟩) | ((with_reducible refine gate_dst (N := 20) rfl ?_); refine Kd.R_lit k43 _ 43 ?hg (N := 20) ?hd (xs := ([] : List (S43))) (inner := []) (ok := fun _ => True) (okp := fun _ => True) ?hr ?hp (fun _ hk => hk) trivial (Below.refl _ _) (Nat.le_refl _) (by simp) ?_; (case hd => rfl); (case hg => rfl); (case hr => first | (go_simp; done) | (go_simp; rfl)); (case hp => exact (Reps.none _ _)); intro v189 w20 ho21 hb hg_ hnew_; clear hg_ hnew_; (first | rw [← Ny188.out] at ho21 | (simp only [Int.reduceToNat] at ho21; rw [← Ny188.out] at ho21)); have HO190 := Aside0.mk (Kd.R_lower ho21 (below_size (bel_))); replace HB := Aside0.mk (below_step (bel_) hb); replace BK186 := Aside0.mk (blk_below (g := gb186) (o := .cells #[.int .i64 a1_0, .int .i64 a1_1, .int .i64 a1_2, .int .i64 a1_3, .string a1_4] 30 (0, 0)) (bp_ BK186.out) hb); clear hb ho21) | ((with_reducible refine gate_builtin (b := .append) (xs := #[.tmp 20, .tmp 21]) rfl ?_); at_builtin; refine Kd.R_append_rows k43 (w0 := w) w.heap.size rfl (.tmp 20) (.tmp 21) 27 43 (.agg #[(.int .i64 0), (.int .i64 0), (.string ⟨#[]⟩)]) 32 rfl Tryd.underlying27 info43 rfl (by decide) (by omega) v189 y188 l0 _ _ _ (fun _ => True) (fun _ => False) rfl rfl ?aO ?aR (fun _ _ h => h) (fun _ h => h.elim) ?aF ?aB ?aS ?aL ?_; (case aR => repeat (first | exact (Kd.C_below HR0.out HB.out) | (with_reducible refine Kd.C_alloc ?_ _) | (with_reducible refine Kd.C_drewN ?_ _) | (with_reducible refine Kd.C_drew ?_))); (case aB => exact (bel_)); (case aF => exact (fun _ _ => trivial)); (case aO => exact (rp_ HO190.out)); (case aS => exact (below_size (bel_))); (case aL => have := LMc5.out; omega); intro v192 w22 ho hb hg hat; rw [← Ny191.out] at ho; replace BK186 := Aside0.mk (blk_grown (g := gb186) (o := .cells #[.int .i64 a1_0, .int .i64 a1_1, .int .i64 a1_2, .int .i64 a1_3, .string a1_4] 30 (0, 0)) (bp_ BK186.out) hg (Kd.R_ne HO190.out BK186.out (by decide))); replace HB := Aside0.mk (hb); have HO193 := Aside0.mk (ho); clear HO190; clear ho hb hg hat))
    go_ret
    exact ⟨_, fi_, by (with_reducible repeat (first | apply Kd.R_alloc | apply Kd.R_drewN | apply Kd.R_drew)); exact HO193.out, bel_⟩
  ·rw [if_neg c5] at H
   exact absurd H (by simp)
 ·rw [if_neg c4] at H
  have c4b0 : (a1_0 == 2) = false := beq_eq_false_iff_ne.mpr c4
  have c4b1 : (a1_0 != 2) = true := bne_iff_ne.mpr c4
  replace H := Option.bind_eq_some_iff.mp H
  obtain ⟨⟨t195, t196, t197⟩, A230, H⟩ := H
  replace H : (if t197 = true then (if a1_0 = 1 then ((spec_l3Put.f k l0 (([(⟨a1_1, 0, a1_4⟩ : S43)] : List (S43))) t195 t196).bind fun t207 => (some t207)) else ((spec_l2End.f k l0 t187).bind fun t210 => ((some (([] : List (S43)) : List (S43))).bind fun y211 => (if 0 ≤ t187 then (if t187 ≤ t210 then (if t210 ≤ (l0.length : Int) then ((some ((l0.take (t210 : Int).toNat).drop (t187 : Int).toNat : List (S43))).bind fun y214 => (if y211.length + y214.length < 4398046511104 then ((some (([] : List (S43)) : List (S43))).bind fun y221 => (if t187 ≤ (l0.length : Int) then ((some (l0.take (t187 : Int).toNat : List (S43))).bind fun y224 => (if y221.length + y224.length < 4398046511104 then ((some (y221 ++ y224 : List (S43))).bind fun y228 => (if 0 ≤ t210 then ((some (l0.drop (t210 : Int).toNat : List (S43))).bind fun y231 => (if y228.length + y231.length < 4398046511104 then ((spec_l3Put.f k (y228 ++ y231) (y211 ++ y214) t195 t196).bind fun t238 => (some t238)) else (none))) else (none))) else (none))) else (none))) else (none))) else (none)) else (none)) else (none))))) else ((some (([] : List (S43)) : List (S43))).bind fun y198 => (if y198.length + l0.length < 4398046511104 then (some (y198 ++ l0)) else (none)))) = some r := H
  have A23 := Aside0.mk A230
  clear A230
  by_cases c24 : t197 = true
  ·subst c24
   have H1 : (if a1_0 = 1 then ((spec_l3Put.f k l0 (([(⟨a1_1, 0, a1_4⟩ : S43)] : List (S43))) t195 t196).bind fun t207 => (some t207)) else ((spec_l2End.f k l0 t187).bind fun t210 => ((some (([] : List (S43)) : List (S43))).bind fun y211 => (if 0 ≤ t187 then (if t187 ≤ t210 then (if t210 ≤ (l0.length : Int) then ((some ((l0.take (t210 : Int).toNat).drop (t187 : Int).toNat : List (S43))).bind fun y214 => (if y211.length + y214.length < 4398046511104 then ((some (([] : List (S43)) : List (S43))).bind fun y221 => (if t187 ≤ (l0.length : Int) then ((some (l0.take (t187 : Int).toNat : List (S43))).bind fun y224 => (if y221.length + y224.length < 4398046511104 then ((some (y221 ++ y224 : List (S43))).bind fun y228 => (if 0 ≤ t210 then ((some (l0.drop (t210 : Int).toNat : List (S43))).bind fun y231 => (if y228.length + y231.length < 4398046511104 then ((spec_l3Put.f k (y228 ++ y231) (y211 ++ y214) t195 t196).bind fun t238 => (some t238)) else (none))) else (none))) else (none))) else (none))) else (none))) else (none)) else (none)) else (none))))) = some r := by rw [if_pos rfl] at H; exact H
   clear H
   have H := H1
   clear H1
   by_cases c25 : a1_0 = 1
   ·rw [if_pos c25] at H
    have c25b0 : (a1_0 == 1) = true := beq_iff_eq.mpr c25
    have c25b1 : (a1_0 != 1) = false := bne_eq_false_iff_eq.mpr c25
    clear c25
    obtain ⟨y204, hy204⟩ : ∃ y_ : List (S43), y_ = (([(⟨a1_1, 0, a1_4⟩ : S43)] : List (S43))) := ⟨_, rfl⟩
    replace H : ((spec_l3Put.f k l0 y204 t195 t196).bind fun t207 => (some t207)) = some r := by first | (rw [hy204]; with_reducible exact H) | (have H2_ := (Option.bind_some _ _).symm.trans H; rw [hy204]; with_reducible exact H2_) | (have H2_ := (Option.bind_some _ _).symm.trans H; with_reducible exact H2_) | with_reducible exact H | (rw [hy204]; exact H) | exact H
    have Ny204 := Aside0.mk hy204
    clear hy204
    replace H := Option.bind_eq_some_iff.mp H
    obtain ⟨t207, A260, H⟩ := H
    replace H : (some t207) = some r := H
    have A26 := Aside0.mk A260
    clear A260
    obtain rfl := Option.some.inj H
    go_enter Tryd.func38, Tryd.ntmps38
    go_wp2_with (first | ((with_reducible refine gate_dst (N := 3) rfl ?_); refine box_event ?hg (N := 3) ?hd (cs := #[.int .i64 a1_0, .int .i64 a1_1, .int .i64 a1_2, .int .i64 a1_3, .string a1_4]) (t := 30) ?hr ?_; (case hd => rfl); (case hg => rfl); (case hr => first | (go_simp; done) | (go_simp; rfl)); intro gb186 hg w27 hbox hb; have n0_ := Aside0.mk (below_step (bel_) hb); have n1_ := Aside0.mk (hbox); have n2_ := Aside0.mk ((by rw [hg]; exact (below_size (bel_)) : w.heap.size ≤ gb186)); have n3_ := Aside0.mk ((by rw [hg]; exact (below_size (bel_)) : w.heap.size ≤ gb186)); clear HB; have HB := n0_; have BK186 := n1_; have GW186 := n2_; have GE186 := n3_; clear n0_ n1_ n2_ n3_; clear hb hbox hg; have hcz28_0 : w27.cell? ⟨gb186, 0, none⟩ = some (.int .i64 a1_0) := (blk_cell BK186.out 0).trans rfl; have hcz28_1 : w27.cell? ⟨gb186, 1, none⟩ = some (.int .i64 a1_1) := (blk_cell BK186.out 1).trans rfl; have hcz28_2 : w27.cell? ⟨gb186, 2, none⟩ = some (.int .i64 a1_2) := (blk_cell BK186.out 2).trans rfl; have hcz28_3 : w27.cell? ⟨gb186, 3, none⟩ = some (.int .i64 a1_3) := (blk_cell BK186.out 3).trans rfl; have hcz28_4 : w27.cell? ⟨gb186, 4, none⟩ = some (.string a1_4) := (blk_cell BK186.out 4).trans rfl; have hfz28_0 := blk_frozen BK186.out 0; have hfz28_1 := blk_frozen BK186.out 1; have hfz28_2 := blk_frozen BK186.out 2; have hfz28_3 := blk_frozen BK186.out 3; have hfz28_4 := blk_frozen BK186.out 4) | ((with_reducible refine gate_callee (f := 60) rfl ?_); refine gl_ 16 Tryd.func60 #[.slice A0 l0.length c0, .int .i64 a1_1] ?_; (with_reducible refine (spec_l2At.calls k _ _ l0 a1_1 t187 _ ?side1 ?side2 A3.out).mono ?_); (case side1 => exact cp_ HR0.out); (case side2 => exact HC0.out); rintro e w' ⟨rfl, ⟨nd, rfl⟩⟩; refine ⟨_, rfl, ?_⟩) | ((with_reducible refine gate_callee (f := 61) rfl ?_); refine gl_ 35 Tryd.func61 #[.slice A0 l0.length c0, .agg #[.int .i64 a1_0, .int .i64 a1_1, .int .i64 a1_2, .int .i64 a1_3, .string a1_4]] ?_; (with_reducible refine (spec_l3Where.calls k _ _ l0 a1_0 a1_1 a1_2 a1_3 a1_4 t195 t196 true _ ?side1 ?side2 A23.out).mono ?_); (case side1 => repeat (first | exact (Kd.C_below HR0.out (bel_)) | (with_reducible refine Kd.C_alloc ?_ _) | (with_reducible refine Kd.C_drewN ?_ _) | (with_reducible refine Kd.C_drew ?_))); (case side2 => exact HC0.out); rintro e w29 ⟨rfl, hb⟩; refine ⟨_, rfl, ?_⟩; replace HB := Aside0.mk (below_step (bel_) hb); replace BK186 := Aside0.mk (blk_below (g := gb186) (o := .cells #[.int .i64 a1_0, .int .i64 a1_1, .int .i64 a1_2, .int .i64 a1_3, .string a1_4] 30 (0, 0)) (bp_ BK186.out) hb); (try clear hb); (try clear hb2); (try clear hk); (try clear hi); have hcz30_0 : w29.cell? ⟨gb186, 0, none⟩ = some (.int .i64 a1_0) := (blk_cell BK186.out 0).trans rfl; have hcz30_1 : w29.cell? ⟨gb186, 1, none⟩ = some (.int .i64 a1_1) := (blk_cell BK186.out 1).trans rfl; have hcz30_2 : w29.cell? ⟨gb186, 2, none⟩ = some (.int .i64 a1_2) := (blk_cell BK186.out 2).trans rfl; have hcz30_3 : w29.cell? ⟨gb186, 3, none⟩ = some (.int .i64 a1_3) := (blk_cell BK186.out 3).trans rfl; have hcz30_4 : w29.cell? ⟨gb186, 4, none⟩ = some (.string a1_4) := (blk_cell BK186.out 4).trans rfl; have hfz30_0 := blk_frozen BK186.out 0; have hfz30_1 := blk_frozen BK186.out 1; have hfz30_2 := blk_frozen BK186.out 2; have hfz30_3 := blk_frozen BK186.out 3; have hfz30_4 := blk_frozen BK186.out 4) | ((with_reducible refine gate_dst (N := 53) rfl ?_); refine Kd.R_lit k43 _ 43 ?hg (N := 53) ?hd (xs := ([(⟨a1_1, 0, a1_4⟩ : S43)] : List (S43))) (inner := [.int .i64 a1_1, .int .i64 0, .string a1_4]) (ok := fun _ => True) (okp := fun _ => True) ?hr ?hp (fun _ hk => hk) trivial (Below.refl _ _) (Nat.le_refl _) (by simp) ?_; (case hd => rfl); (case hg => rfl); (case hr => first | (go_simp; done) | (go_simp; rfl)); (case hp => exact (Reps.c3 (show Kd.M k43 _ _ _ (⟨a1_1, 0, a1_4⟩ : S43) [.int .i64 a1_1, .int .i64 0, .string a1_4] from (k43_mkM _ _ _ (⟨a1_1, 0, a1_4⟩ : S43) )) (Reps.none _ _))); intro v205 w31 ho32 hb hg_ hnew_; clear hg_ hnew_; (first | rw [← Ny204.out] at ho32 | (simp only [Int.reduceToNat] at ho32; rw [← Ny204.out] at ho32)); have HO206 := Aside0.mk (Kd.R_lower ho32 (below_size (bel_))); replace HB := Aside0.mk (below_step (bel_) hb); replace BK186 := Aside0.mk (blk_below (g := gb186) (o := .cells #[.int .i64 a1_0, .int .i64 a1_1, .int .i64 a1_2, .int .i64 a1_3, .string a1_4] 30 (0, 0)) (bp_ BK186.out) hb); clear hb ho32; obtain ⟨Ao33, co33, eo33⟩ := Kd.R_slice HO206.out; subst eo33) | ((with_reducible refine gate_callee (f := 62) rfl ?_); refine gl_ 56 Tryd.func62 #[.slice A0 l0.length c0, .slice Ao33 y204.length co33, .int .i64 t195, .int .i64 t196] ?_; (with_reducible refine (spec_l3Put.calls k _ _ l0 _ _ y204 t195 t196 t207 _ ?side1 ?side2 ?side3 ?side4 A26.out).mono ?_); (case side1 => exact cp_ HR0.out); (case side2 => exact HC0.out); (case side3 => repeat (first | exact (Kd.R_reads' HO206.out).2.2 | (with_reducible refine Kd.C_alloc ?_ _) | (with_reducible refine Kd.C_drewN ?_ _) | (with_reducible refine Kd.C_drew ?_))); (case side4 => exact (Kd.R_reads' HO206.out).2.1); rintro e w34 ⟨v208, rfl, ho0, hb⟩; refine ⟨_, rfl, ?_⟩; have HO209 := Aside0.mk (Kd.R_lower (Kd.R_new' ho0 (Kd.R_lt (rp_ HO206.out))) (below_size (bel_))); replace HO206 := Aside0.mk (Kd.R_elder' (rp_ HO206.out) (Kd.R_base ho0) hb); replace HB := Aside0.mk (below_step (bel_) hb); replace BK186 := Aside0.mk (blk_below (g := gb186) (o := .cells #[.int .i64 a1_0, .int .i64 a1_1, .int .i64 a1_2, .int .i64 a1_3, .string a1_4] 30 (0, 0)) (bp_ BK186.out) hb); (try clear hb); (try clear hb2); (try clear hk); (try clear hi); (try clear ho0)))
    go_ret
    exact ⟨_, fi_, by (with_reducible repeat (first | apply Kd.R_alloc | apply Kd.R_drewN | apply Kd.R_drew)); exact Kd.R_mono HO209.out (fun _ hk => trivial), bel_⟩
   ·rw [if_neg c25] at H
    have c25b0 : (a1_0 == 1) = false := beq_eq_false_iff_ne.mpr c25
    have c25b1 : (a1_0 != 1) = true := bne_iff_ne.mpr c25
    replace H := Option.bind_eq_some_iff.mp H
    obtain ⟨t210, A350, H⟩ := H
    replace H : ((some (([] : List (S43)) : List (S43))).bind fun y211 => (if 0 ≤ t187 then (if t187 ≤ t210 then (if t210 ≤ (l0.length : Int) then ((some ((l0.take (t210 : Int).toNat).drop (t187 : Int).toNat : List (S43))).bind fun y214 => (if y211.length + y214.length < 4398046511104 then ((some (([] : List (S43)) : List (S43))).bind fun y221 => (if t187 ≤ (l0.length : Int) then ((some (l0.take (t187 : Int).toNat : List (S43))).bind fun y224 => (if y221.length + y224.length < 4398046511104 then ((some (y221 ++ y224 : List (S43))).bind fun y228 => (if 0 ≤ t210 then ((some (l0.drop (t210 : Int).toNat : List (S43))).bind fun y231 => (if y228.length + y231.length < 4398046511104 then ((spec_l3Put.f k (y228 ++ y231) (y211 ++ y214) t195 t196).bind fun t238 => (some t238)) else (none))) else (none))) else (none))) else (none))) else (none))) else (none)) else (none)) else (none))) = some r := H
    have A35 := Aside0.mk A350
    clear A350
    obtain ⟨y211, hy211⟩ : ∃ y_ : List (S43), y_ = (([] : List (S43))) := ⟨_, rfl⟩
    replace H : (if 0 ≤ t187 then (if t187 ≤ t210 then (if t210 ≤ (l0.length : Int) then ((some ((l0.take (t210 : Int).toNat).drop (t187 : Int).toNat : List (S43))).bind fun y214 => (if y211.length + y214.length < 4398046511104 then ((some (([] : List (S43)) : List (S43))).bind fun y221 => (if t187 ≤ (l0.length : Int) then ((some (l0.take (t187 : Int).toNat : List (S43))).bind fun y224 => (if y221.length + y224.length < 4398046511104 then ((some (y221 ++ y224 : List (S43))).bind fun y228 => (if 0 ≤ t210 then ((some (l0.drop (t210 : Int).toNat : List (S43))).bind fun y231 => (if y228.length + y231.length < 4398046511104 then ((spec_l3Put.f k (y228 ++ y231) (y211 ++ y214) t195 t196).bind fun t238 => (some t238)) else (none))) else (none))) else (none))) else (none))) else (none))) else (none)) else (none)) else (none)) = some r := by first | (rw [hy211]; with_reducible exact H) | (have H2_ := (Option.bind_some _ _).symm.trans H; rw [hy211]; with_reducible exact H2_) | (have H2_ := (Option.bind_some _ _).symm.trans H; with_reducible exact H2_) | with_reducible exact H | (rw [hy211]; exact H) | exact H
    have Ny211 := Aside0.mk hy211
    clear hy211
    by_cases c36 : 0 ≤ t187
    ·rw [if_pos c36] at H
     have c36b0 := eq_true c36
     have c36b1 : decide (0 ≤ t187) = true := decide_eq_true c36
     clear c36
     by_cases c37 : t187 ≤ t210
     ·rw [if_pos c37] at H
      have c37b0 := eq_true c37
      have c37b1 : decide (t187 ≤ t210) = true := decide_eq_true c37
      clear c37
      by_cases c38 : t210 ≤ (l0.length : Int)
      ·rw [if_pos c38] at H
       have c38b0 := eq_true c38
       have c38b1 : decide (t210 ≤ (l0.length : Int)) = true := decide_eq_true c38
       clear c38
       obtain ⟨y214, hy214⟩ : ∃ y_ : List (S43), y_ = ((l0.take (t210 : Int).toNat).drop (t187 : Int).toNat) := ⟨_, rfl⟩
       replace H : (if y211.length + y214.length < 4398046511104 then ((some (([] : List (S43)) : List (S43))).bind fun y221 => (if t187 ≤ (l0.length : Int) then ((some (l0.take (t187 : Int).toNat : List (S43))).bind fun y224 => (if y221.length + y224.length < 4398046511104 then ((some (y221 ++ y224 : List (S43))).bind fun y228 => (if 0 ≤ t210 then ((some (l0.drop (t210 : Int).toNat : List (S43))).bind fun y231 => (if y228.length + y231.length < 4398046511104 then ((spec_l3Put.f k (y228 ++ y231) (y211 ++ y214) t195 t196).bind fun t238 => (some t238)) else (none))) else (none))) else (none))) else (none))) else (none)) = some r := by first | (rw [hy214]; with_reducible exact H) | (have H2_ := (Option.bind_some _ _).symm.trans H; rw [hy214]; with_reducible exact H2_) | (have H2_ := (Option.bind_some _ _).symm.trans H; with_reducible exact H2_) | with_reducible exact H | (rw [hy214]; exact H) | exact H
       have Ny214 := Aside0.mk hy214
       clear hy214
       by_cases c39 : y211.length + y214.length < 4398046511104
       ·rw [if_pos c39] at H
        have LMc39 := Aside0.mk c39
        clear c39
        obtain ⟨y218, hy218⟩ : ∃ y_ : List (S43), y_ = (y211 ++ y214) := ⟨_, rfl⟩
        replace H : ((some (([] : List (S43)) : List (S43))).bind fun y221 => (if t187 ≤ (l0.length : Int) then ((some (l0.take (t187 : Int).toNat : List (S43))).bind fun y224 => (if y221.length + y224.length < 4398046511104 then ((some (y221 ++ y224 : List (S43))).bind fun y228 => (if 0 ≤ t210 then ((some (l0.drop (t210 : Int).toNat : List (S43))).bind fun y231 => (if y228.length + y231.length < 4398046511104 then ((spec_l3Put.f k (y228 ++ y231) y218 t195 t196).bind fun t238 => (some t238)) else (none))) else (none))) else (none))) else (none))) = some r := by first | (rw [hy218]; with_reducible exact H) | (have H2_ := (Option.bind_some _ _).symm.trans H; rw [hy218]; with_reducible exact H2_) | (have H2_ := (Option.bind_some _ _).symm.trans H; with_reducible exact H2_) | with_reducible exact H | (rw [hy218]; exact H) | exact H
        have Ny218 := Aside0.mk hy218
        clear hy218
        obtain ⟨y221, hy221⟩ : ∃ y_ : List (S43), y_ = (([] : List (S43))) := ⟨_, rfl⟩
        replace H : (if t187 ≤ (l0.length : Int) then ((some (l0.take (t187 : Int).toNat : List (S43))).bind fun y224 => (if y221.length + y224.length < 4398046511104 then ((some (y221 ++ y224 : List (S43))).bind fun y228 => (if 0 ≤ t210 then ((some (l0.drop (t210 : Int).toNat : List (S43))).bind fun y231 => (if y228.length + y231.length < 4398046511104 then ((spec_l3Put.f k (y228 ++ y231) y218 t195 t196).bind fun t238 => (some t238)) else (none))) else (none))) else (none))) else (none)) = some r := by first | (rw [hy221]; with_reducible exact H) | (have H2_ := (Option.bind_some _ _).symm.trans H; rw [hy221]; with_reducible exact H2_) | (have H2_ := (Option.bind_some _ _).symm.trans H; with_reducible exact H2_) | with_reducible exact H | (rw [hy221]; exact H) | exact H
        have Ny221 := Aside0.mk hy221
        clear hy221
        have c40b0 := eq_true (od_ : 0 ≤ t187)
        by_cases c41 : t187 ≤ (l0.length : Int)
        ·rw [if_pos c41] at H
         have c41b0 := eq_true c41
         have c41b1 : decide (t187 ≤ (l0.length : Int)) = true := decide_eq_true c41
         clear c41
         obtain ⟨y224, hy224⟩ : ∃ y_ : List (S43), y_ = (l0.take (t187 : Int).toNat) := ⟨_, rfl⟩
         replace H : (if y221.length + y224.length < 4398046511104 then ((some (y221 ++ y224 : List (S43))).bind fun y228 => (if 0 ≤ t210 then ((some (l0.drop (t210 : Int).toNat : List (S43))).bind fun y231 => (if y228.length + y231.length < 4398046511104 then ((spec_l3Put.f k (y228 ++ y231) y218 t195 t196).bind fun t238 => (some t238)) else (none))) else (none))) else (none)) = some r := by first | (rw [hy224]; with_reducible exact H) | (have H2_ := (Option.bind_some _ _).symm.trans H; rw [hy224]; with_reducible exact H2_) | (have H2_ := (Option.bind_some _ _).symm.trans H; with_reducible exact H2_) | with_reducible exact H | (rw [hy224]; exact H) | exact H
         have Ny224 := Aside0.mk hy224
         clear hy224
         by_cases c42 : y221.length + y224.length < 4398046511104
         ·rw [if_pos c42] at H
          have LMc42 := Aside0.mk c42
          clear c42
          obtain ⟨y228, hy228⟩ : ∃ y_ : List (S43), y_ = (y221 ++ y224) := ⟨_, rfl⟩
          replace H : (if 0 ≤ t210 then ((some (l0.drop (t210 : Int).toNat : List (S43))).bind fun y231 => (if y228.length + y231.length < 4398046511104 then ((spec_l3Put.f k (y228 ++ y231) y218 t195 t196).bind fun t238 => (some t238)) else (none))) else (none)) = some r := by first | (rw [hy228]; with_reducible exact H) | (have H2_ := (Option.bind_some _ _).symm.trans H; rw [hy228]; with_reducible exact H2_) | (have H2_ := (Option.bind_some _ _).symm.trans H; with_reducible exact H2_) | with_reducible exact H | (rw [hy228]; exact H) | exact H
          have Ny228 := Aside0.mk hy228
          clear hy228
          by_cases c43 : 0 ≤ t210
          ·rw [if_pos c43] at H
           have c43b0 := eq_true c43
           have c43b1 : decide (0 ≤ t210) = true := decide_eq_true c43
           clear c43
           have c44b0 := eq_true (od_ : t210 ≤ (l0.length : Int))
           obtain ⟨y231, hy231⟩ : ∃ y_ : List (S43), y_ = (l0.drop (t210 : Int).toNat) := ⟨_, rfl⟩
           replace H : (if y228.length + y231.length < 4398046511104 then ((spec_l3Put.f k (y228 ++ y231) y218 t195 t196).bind fun t238 => (some t238)) else (none)) = some r := by first | (rw [hy231]; with_reducible exact H) | (have H2_ := (Option.bind_some _ _).symm.trans H; rw [hy231]; with_reducible exact H2_) | (have H2_ := (Option.bind_some _ _).symm.trans H; with_reducible exact H2_) | with_reducible exact H | (rw [hy231]; exact H) | exact H
           have Ny231 := Aside0.mk hy231
           clear hy231
           by_cases c45 : y228.length + y231.length < 4398046511104
           ·rw [if_pos c45] at H
            have LMc45 := Aside0.mk c45
            clear c45
            obtain ⟨y235, hy235⟩ : ∃ y_ : List (S43), y_ = (y228 ++ y231) := ⟨_, rfl⟩
            replace H : ((spec_l3Put.f k y235 y218 t195 t196).bind fun t238 => (some t238)) = some r := by first | (rw [hy235]; with_reducible exact H) | (have H2_ := (Option.bind_some _ _).symm.trans H; rw [hy235]; with_reducible exact H2_) | (have H2_ := (Option.bind_some _ _).symm.trans H; with_reducible exact H2_) | with_reducible exact H | (rw [hy235]; exact H) | exact H
            have Ny235 := Aside0.mk hy235
            clear hy235
            replace H := Option.bind_eq_some_iff.mp H
            obtain ⟨t238, A460, H⟩ := H
            replace H : (some t238) = some r := H
            have A46 := Aside0.mk A460
            clear A460
            obtain rfl := Option.some.inj H
            go_enter Tryd.func38, Tryd.ntmps38
            try go_wp2_with (first | ((with_reducible refine gate_dst (N := 3) rfl ?_); refine box_event ?hg (N := 3) ?hd (cs := #[.int .i64 a1_0, .int .i64 a1_1, .int .i64 a1_2, .int .i64 a1_3, .string a1_4]) (t := 30) ?hr ?_; (case hd => rfl); (case hg => rfl); (case hr => first | (go_simp; done) | (go_simp; rfl)); intro gb186 hg w47 hbox hb; have n0_ := Aside0.mk (below_step (bel_) hb); have n1_ := Aside0.mk (hbox); have n2_ := Aside0.mk ((by rw [hg]; exact (below_size (bel_)) : w.heap.size ≤ gb186)); have n3_ := Aside0.mk ((by rw [hg]; exact (below_size (bel_)) : w.heap.size ≤ gb186)); clear HB; have HB := n0_; have BK186 := n1_; have GW186 := n2_; have GE186 := n3_; clear n0_ n1_ n2_ n3_; clear hb hbox hg; have hcz48_0 : w47.cell? ⟨gb186, 0, none⟩ = some (.int .i64 a1_0) := (blk_cell BK186.out 0).trans rfl; have hcz48_1 : w47.cell? ⟨gb186, 1, none⟩ = some (.int .i64 a1_1) := (blk_cell BK186.out 1).trans rfl; have hcz48_2 : w47.cell? ⟨gb186, 2, none⟩ = some (.int .i64 a1_2) := (blk_cell BK186.out 2).trans rfl; have hcz48_3 : w47.cell? ⟨gb186, 3, none⟩ = some (.int .i64 a1_3) := (blk_cell BK186.out 3).trans rfl; have hcz48_4 : w47.cell? ⟨gb186, 4, none⟩ = some (.string a1_4) := (blk_cell BK186.out 4).trans rfl; have hfz48_0 := blk_frozen BK186.out 0; have hfz48_1 := blk_frozen BK186.out 1; have hfz48_2 := blk_frozen BK186.out 2; have hfz48_3 := blk_frozen BK186.out 3; have hfz48_4 := blk_frozen BK186.out 4) | ((with_reducible refine gate_callee (f := 60) rfl ?_); refine gl_ 16 Tryd.func60 #[.slice A0 l0.length c0, .int .i64 a1_1] ?_; (with_reducible refine (spec_l2At.calls k _ _ l0 a1_1 t187 _ ?side1 ?side2 A3.out).mono ?_); (case side1 => exact cp_ HR0.out); (case side2 => exact HC0.out); rintro e w' ⟨rfl, ⟨nd, rfl⟩⟩; refine ⟨_, rfl, ?_⟩) | ((with_reducible refine gate_callee (f := 61) rfl ?_); refine gl_ 35 Tryd.func61 #[.slice A0 l0.length c0, .agg #[.int .i64 a1_0, .int .i64 a1_1, .int .i64 a1_2, .int .i64 a1_3, .string a1_4]] ?_; (with_reducible refine (spec_l3Where.calls k _ _ l0 a1_0 a1_1 a1_2 a1_3 a1_4 t195 t196 true _ ?side1 ?side2 A23.out).mono ?_); (case side1 => repeat (first | exact (Kd.C_below HR0.out (bel_)) | (with_reducible refine Kd.C_alloc ?_ _) | (with_reducible refine Kd.C_drewN ?_ _) | (with_reducible refine Kd.C_drew ?_))); (case side2 => exact HC0.out); rintro e w49 ⟨rfl, hb⟩; refine ⟨_, rfl, ?_⟩; replace HB := Aside0.mk (below_step (bel_) hb); replace BK186 := Aside0.mk (blk_below (g := gb186) (o := .cells #[.int .i64 a1_0, .int .i64 a1_1, .int .i64 a1_2, .int .i64 a1_3, .string a1_4] 30 (0, 0)) (bp_ BK186.out) hb); (try clear hb); (try clear hb2); (try clear hk); (try clear hi); have hcz50_0 : w49.cell? ⟨gb186, 0, none⟩ = some (.int .i64 a1_0) := (blk_cell BK186.out 0).trans rfl; have hcz50_1 : w49.cell? ⟨gb186, 1, none⟩ = some (.int .i64 a1_1) := (blk_cell BK186.out 1).trans rfl; have hcz50_2 : w49.cell? ⟨gb186, 2, none⟩ = some (.int .i64 a1_2) := (blk_cell BK186.out 2).trans rfl; have hcz50_3 : w49.cell? ⟨gb186, 3, none⟩ = some (.int .i64 a1_3) := (blk_cell BK186.out 3).trans rfl; have hcz50_4 : w49.cell? ⟨gb186, 4, none⟩ = some (.string a1_4) := (blk_cell BK186.out 4).trans rfl; have hfz50_0 := blk_frozen BK186.out 0; have hfz50_1 := blk_frozen BK186.out 1; have hfz50_2 := blk_frozen BK186.out 2; have hfz50_3 := blk_frozen BK186.out 3; have hfz50_4 := blk_frozen BK186.out 4) | ((with_reducible refine gate_callee (f := 63) rfl ?_); refine gl_ 59 Tryd.func63 #[.slice A0 l0.length c0, .int .i64 t187] ?_; (with_reducible refine (spec_l2End.calls k _ _ l0 t187 t210 _ ?side1 ?side2 A35.out).mono ?_); (case side1 => exact cp_ HR0.out); (case side2 => exact HC0.out); rintro e w' ⟨rfl, ⟨nd, rfl⟩⟩; refine ⟨_, rfl, ?_⟩) | ((with_reducible refine gate_dst (N := 60) rfl ?_); refine Kd.R_lit k43 _ 43 ?hg (N := 60) ?hd (xs := ([] : List (S43))) (inner := []) (ok := fun _ => True) (okp := fun _ => True) ?hr ?hp (fun _ hk => hk) trivial (Below.refl _ _) (Nat.le_refl _) (by simp) ?_; (case hd => rfl); (case hg => rfl); (case hr => first | (go_simp; done) | (go_simp; rfl)); (case hp => exact (Reps.none _ _)); intro v212 w51 ho52 hb hg_ hnew_; clear hg_ hnew_; (first | rw [← Ny211.out] at ho52 | (simp only [Int.reduceToNat] at ho52; rw [← Ny211.out] at ho52)); have HO213 := Aside0.mk (Kd.R_lower ho52 (below_size (bel_))); replace HB := Aside0.mk (below_step (bel_) hb); replace BK186 := Aside0.mk (blk_below (g := gb186) (o := .cells #[.int .i64 a1_0, .int .i64 a1_1, .int .i64 a1_2, .int .i64 a1_3, .string a1_4] 30 (0, 0)) (bp_ BK186.out) hb); clear hb ho52; have q53 : (t210 : Int) ≤ ((l0.length : Int) : Int) := od_; obtain ⟨i053, hi053, _, hsz53, _⟩ := info_parts info43; have hroom53 : l0.length ≤ c0 := HC0.out; have hC53 : Kd.C k43 _ A0 l0.length l0 := HR0.out; have ql53 : (t187 : Int) ≤ (t210 : Int) := od_; have q053 : (0 : Int) ≤ (t187 : Int) := od_; have hcut53 := cut_mid (P := Tryd.prog) 27 43 .i64 .i64 Tryd.underlying27 hi053 3 hsz53 A0 l0.length c0 t187 t210 q053 ql53 q53 hroom53; have hr53 := Kd.C_mid (lo := (t187 : Int).toNat) (hi := (t210 : Int).toNat) (c := c0) hC53 (by omega) (by omega) hroom53; obtain ⟨A53, hA53⟩ : ∃ A1, A1 = (if c0 = (t187 : Int).toNat then A0 else (A0 : Option Addr).map (·.add ((t187 : Int).toNat * 3))) := ⟨_, rfl⟩; obtain ⟨c53, hc53⟩ : ∃ c1, c1 = c0 - (t187 : Int).toNat := ⟨_, rfl⟩; have hy53 : y214.length = (t210 : Int).toNat - (t187 : Int).toNat := (by rw [Ny214.out, List.length_drop, List.length_take] <;> omega); rw [show ((l0).take (t210 : Int).toNat).drop (t187 : Int).toNat = y214 from Ny214.out.symm] at hr53; replace hr53 : Kd.C k43 _ A53 y214.length y214 := (by rw [hA53]; exact hr53); rw [← hy53, ← hA53, ← hc53] at hcut53; have HR217 := Aside0.mk hr53; have HC217 := Aside0.mk (show y214.length ≤ c53 from by rw [hy53, hc53]; exact Nat.sub_le_sub_right (Nat.le_trans (by omega) hroom53) _); clear hr53 hC53 hroom53 hi053 hsz53 hc53; have KY53 := Aside0.mk hy53; have KA53 := Aside0.mk hA53; clear hy53 hA53; replace q53 := eq_true q53) | ((with_reducible refine gate_builtin (b := .append) (xs := #[.tmp 60, .tmp 64]) rfl ?_); at_builtin; refine Kd.R_append_rows k43 (w0 := w) w.heap.size rfl (.tmp 60) (.tmp 64) 27 43 (.agg #[(.int .i64 0), (.int .i64 0), (.string ⟨#[]⟩)]) 32 rfl Tryd.underlying27 info43 rfl (by decide) (by omega) v212 y211 y214 _ _ _ (fun _ => True) (fun _ => False) rfl rfl ?aO ?aR (fun _ _ h => h) (fun _ h => h.elim) ?aF ?aB ?aS ?aL ?_; (case aR => repeat (first | exact (Kd.C_below HR217.out HB.out) | (with_reducible refine Kd.C_alloc ?_ _) | (with_reducible refine Kd.C_drewN ?_ _) | (with_reducible refine Kd.C_drew ?_))); (case aB => exact (bel_)); (case aF => exact (fun _ _ => trivial)); (case aO => exact (rp_ HO213.out)); (case aS => exact (below_size (bel_))); (case aL => have := LMc39.out; omega); intro v219 w54 ho hb hg hat; rw [← Ny218.out] at ho; replace BK186 := Aside0.mk (blk_grown (g := gb186) (o := .cells #[.int .i64 a1_0, .int .i64 a1_1, .int .i64 a1_2, .int .i64 a1_3, .string a1_4] 30 (0, 0)) (bp_ BK186.out) hg (Kd.R_ne HO213.out BK186.out (by decide))); replace HB := Aside0.mk (hb); have HO220 := Aside0.mk (ho); clear HO213; clear ho hb hg hat))
            have n0_ := Aside0.mk (Kd.R_drew HO220.out)
            have n1_ := Aside0.mk (blk_drew BK186.out)
            have n2_ := Aside0.mk (below_drew1 HB.out)
            clear HO220
            clear BK186
            clear HB
            have HO220 := n0_
            have BK186 := n1_
            have HB := n2_
            clear n0_ n1_ n2_
            have q56 : (t187 : Int) ≤ ((l0.length : Int) : Int) := od_
            obtain ⟨i056, hi056, _, hsz56, _⟩ := info_parts info43
            have hroom56 : l0.length ≤ c0 := HC0.out
            have hC56 : Kd.C k43 _ A0 l0.length l0 := HR0.out
            have hcut56 := cut_to (P := Tryd.prog) 27 43 .i64 Tryd.underlying27 hi056 A0 l0.length c0 t187 (od_) q56 hroom56
            have hr56 := Kd.C_take (m := (t187 : Int).toNat) hC56 (by omega)
            have hy56 : y224.length = (t187 : Int).toNat := (by rw [Ny224.out, List.length_take]; omega)
            rw [← Ny224.out] at hr56
            rw [← hy56] at hcut56
            have HR227 := Aside0.mk hr56
            have HC227 := Aside0.mk (show y224.length ≤ c0 from by omega)
            clear hr56 hC56 hroom56 hi056 hsz56
            have KY56 := Aside0.mk hy56
            clear hy56
            replace q56 := eq_true q56
            have q57 : (t210 : Int) ≤ ((l0.length : Int) : Int) := od_
            obtain ⟨i057, hi057, _, hsz57, _⟩ := info_parts info43
            have hroom57 : l0.length ≤ c0 := HC0.out
            have hC57 : Kd.C k43 _ A0 l0.length l0 := HR0.out
            have q057 : (0 : Int) ≤ (t210 : Int) := od_
            have hcut57 := cut_from (P := Tryd.prog) 27 43 .i64 Tryd.underlying27 hi057 3 hsz57 A0 l0.length c0 t210 q057 q57
            have hr57 := Kd.C_drop (m := (t210 : Int).toNat) (c := c0) hC57 (by omega) hroom57
            obtain ⟨A57, hA57⟩ : ∃ A1, A1 = (if c0 = (t210 : Int).toNat then A0 else (A0 : Option Addr).map (·.add ((t210 : Int).toNat * 3))) := ⟨_, rfl⟩
            obtain ⟨c57, hc57⟩ : ∃ c1, c1 = c0 - (t210 : Int).toNat := ⟨_, rfl⟩
            have hy57 : y231.length = l0.length - (t210 : Int).toNat := (by rw [Ny231.out, List.length_drop] <;> omega)
            rw [show (l0).drop (t210 : Int).toNat = y231 from Ny231.out.symm] at hr57
            replace hr57 : Kd.C k43 _ A57 y231.length y231 := (by rw [hA57]; exact hr57)
            rw [← hy57, ← hA57, ← hc57] at hcut57
            have HR234 := Aside0.mk hr57
            have HC234 := Aside0.mk (show y231.length ≤ c57 from by rw [hy57, hc57]; exact Nat.sub_le_sub_right hroom57 _)
            clear hr57 hC57 hroom57 hi057 hsz57 hc57
            have KY57 := Aside0.mk hy57
            have KA57 := Aside0.mk hA57
            clear hy57 hA57
            replace q57 := eq_true q57
            refine start_ (n := 10) (S := fun w' => True) (ds := []) #[false, false, false, false, false, false, false, false, false, false] (by kernel_rfl) rfl rfl trivial (fun hHeld => ?_); refine with_tabW spec_l3Do.tab14 spec_l3Do.bits14 (fun HT_ HW_ => ?_)
            generalize w54.drew = w55 at HO220 BK186 HB HR227 HR234 hHeld ⊢
            refine pa_ 1 67 ?_
            refine pa_ 2 68 ?_
            refine pa_ 3 69 ?_
            refine pa_ 5 71 ?_
            refine pa_ 6 72 ?_
            refine pa_ 7 73 ?_
            refine on_ 0 66 (fun K hK => ?_)
            refine Kd.R_lit_step k43 _ 43 ?hg (N := 66) ?hd (xs := ([] : List (S43))) (inner := []) (ok := fun _ => True) (okp := fun _ => True) ?hr ?hp (fun _ hk => hk) trivial (Below.refl _ _) (Nat.le_refl _) (by simp) ?_; (case hd => rfl); (case hg => rfl); (case hr => first | (go_simp; done) | (go_simp; rfl)); (case hp => exact (Reps.none _ _))
            intro v222 w58 ho59 hb hg_ hnew_
            clear hg_ hnew_
            (first | rw [← Ny221.out] at ho59 | (simp only [Int.reduceToNat] at ho59; rw [← Ny221.out] at ho59))
            have n0_ := Aside0.mk (Kd.R_elder' (rp_ HO220.out) (Kd.R_base ho59) hb)
            have n1_ := Aside0.mk (Kd.R_lower (Kd.R_new' ho59 (Kd.R_lt (rp_ HO220.out))) (below_size (bel_)))
            have n2_ := Aside0.mk (blk_below (g := gb186) (o := .cells #[.int .i64 a1_0, .int .i64 a1_1, .int .i64 a1_2, .int .i64 a1_3, .string a1_4] 30 (0, 0)) (bp_ BK186.out) hb)
            have n3_ := Aside0.mk (below_step (bel_) hb)
            clear HO220
            clear BK186
            clear HB
            have HO220 := n0_
            have HO223 := n1_
            have BK186 := n2_
            have HB := n3_
            clear n0_ n1_ n2_ n3_
            clear hb ho59
            refine hK.out _ _ trivial (fun hHeld => ?_)
            clear hK K
            refine no_ ?_
            refine on_ 4 70 (fun K hK => ?_)
            refine Kd.R_append_rows_step k43 (w0 := w) w.heap.size (by rfl) (.tmp 66) (.tmp 69) 27 43 (.agg #[(.int .i64 0), (.int .i64 0), (.string ⟨#[]⟩)]) 32 rfl Tryd.underlying27 info43 rfl (by decide) (by omega) v222 y221 y224 _ _ _ (fun k_ => some k_ ≠ (v219 : Value).ownBlock) (fun _ => False) rfl rfl ?aO ?aR (fun _ _ h => h) (fun _ h => h.elim) ?aF ?aB ?aS ?aL ?_
            (case aR => repeat (first | exact (Kd.C_below HR227.out HB.out) | (with_reducible refine Kd.C_alloc ?_ _) | (with_reducible refine Kd.C_drewN ?_ _) | (with_reducible refine Kd.C_drew ?_)))
            (case aB => exact (bel_))
            (case aF => exact (fun k_ hk => Kd.fresh' (Kd.R_lt (rp_ HO220.out)) k_ hk))
            (case aO => exact (by (with_reducible repeat (first | apply Kd.R_alloc | apply Kd.R_drewN | apply Kd.R_drew)); exact Kd.R_mono HO223.out (fun _ hk => hk.2)))
            (case aS => exact (below_size (bel_)))
            (case aL => have := LMc42.out; omega)
            intro v229 w60 ho hb hg hat
            rw [← Ny228.out] at ho
            have n0_ := Aside0.mk (blk_grown (g := gb186) (o := .cells #[.int .i64 a1_0, .int .i64 a1_1, .int .i64 a1_2, .int .i64 a1_3, .string a1_4] 30 (0, 0)) (bp_ BK186.out) hg (Kd.R_ne HO223.out BK186.out (by decide)))
            have n1_ := Aside0.mk (Kd.R_after (ok := (fun _ => True)) (rp_ HO220.out) hg hat)
            have n2_ := Aside0.mk (hb)
            have n3_ := Aside0.mk (ho)
            clear BK186
            clear HO220
            clear HB
            clear HO223
            have BK186 := n0_
            have HO220 := n1_
            have HB := n2_
            have HO230 := n3_
            clear n0_ n1_ n2_ n3_
            clear ho hb hg hat
            refine hK.out _ _ trivial (fun hHeld => ?_)
            clear hK K
            refine no_ ?_
            refine on_ 8 74 (fun K hK => ?_)
            refine Kd.R_append_rows_step k43 (w0 := w) w.heap.size (by rfl) (.tmp 70) (.tmp 73) 27 43 (.agg #[(.int .i64 0), (.int .i64 0), (.string ⟨#[]⟩)]) 32 rfl Tryd.underlying27 info43 rfl (by decide) (by omega) v229 y228 y231 _ _ _ (fun k_ => some k_ ≠ (v219 : Value).ownBlock) (fun _ => False) rfl rfl ?aO ?aR (fun _ _ h => h) (fun _ h => h.elim) ?aF ?aB ?aS ?aL ?_
            (case aR => repeat (first | exact (Kd.C_below HR234.out HB.out) | (with_reducible refine Kd.C_alloc ?_ _) | (with_reducible refine Kd.C_drewN ?_ _) | (with_reducible refine Kd.C_drew ?_)))
            (case aB => exact (bel_))
            (case aF => exact (fun k_ hk => Kd.fresh' (Kd.R_lt (rp_ HO220.out)) k_ hk))
            (case aO => exact (rp_ HO230.out))
            (case aS => exact (below_size (bel_)))
            (case aL => have := LMc45.out; omega)
            intro v236 w61 ho hb hg hat
            rw [← Ny235.out] at ho
            have n0_ := Aside0.mk (blk_grown (g := gb186) (o := .cells #[.int .i64 a1_0, .int .i64 a1_1, .int .i64 a1_2, .int .i64 a1_3, .string a1_4] 30 (0, 0)) (bp_ BK186.out) hg (Kd.R_ne HO230.out BK186.out (by decide)))
            have n1_ := Aside0.mk (Kd.R_after (ok := (fun _ => True)) (rp_ HO220.out) hg hat)
            have n2_ := Aside0.mk (hb)
            have n3_ := Aside0.mk (ho)
            clear BK186
            clear HO220
            clear HB
            clear HO230
            have BK186 := n0_
            have HO220 := n1_
            have HB := n2_
            have HO237 := n3_
            clear n0_ n1_ n2_ n3_
            clear ho hb hg hat
            refine hK.out _ _ trivial (fun hHeld => ?_)
            clear hK K
            refine no_ ?_
            refine pa_ 9 12 ?_
            refine done_ (done_of HT_.out (by kernel_rfl)) ?_
            obtain ⟨Ao62, co62, eo62⟩ := Kd.R_slice HO237.out
            subst eo62
            obtain ⟨Ao63, co63, eo63⟩ := Kd.R_slice HO220.out
            subst eo63
            try go_wp2_with (first | ((with_reducible refine gate_callee (f := 62) rfl ?_); refine gl_ 79 Tryd.func62 #[.slice Ao62 y235.length co62, .slice Ao63 y218.length co63, .int .i64 t195, .int .i64 t196] ?_; (with_reducible refine (spec_l3Put.calls k _ _ y235 _ _ y218 t195 t196 t238 _ ?side1 ?side2 ?side3 ?side4 A46.out).mono ?_); (case side1 => repeat (first | exact (Kd.R_reads' HO237.out).2.2 | (with_reducible refine Kd.C_alloc ?_ _) | (with_reducible refine Kd.C_drewN ?_ _) | (with_reducible refine Kd.C_drew ?_))); (case side2 => exact (Kd.R_reads' HO237.out).2.1); (case side3 => repeat (first | exact (Kd.R_reads' HO220.out).2.2 | (with_reducible refine Kd.C_alloc ?_ _) | (with_reducible refine Kd.C_drewN ?_ _) | (with_reducible refine Kd.C_drew ?_))); (case side4 => exact (Kd.R_reads' HO220.out).2.1); rintro e w64 ⟨v239, rfl, ho0, hb⟩; refine ⟨_, rfl, ?_⟩; have HO240 := Aside0.mk (Kd.R_lower (Kd.R_new' (Kd.R_new' ho0 (Kd.R_lt (rp_ HO220.out))) (Kd.R_lt (rp_ HO237.out))) (below_size (bel_))); replace HO220 := Aside0.mk (Kd.R_elder' (rp_ HO220.out) (Kd.R_base ho0) hb); replace HO237 := Aside0.mk (Kd.R_elder' (rp_ HO237.out) (Kd.R_base ho0) hb); replace HB := Aside0.mk (below_step (bel_) hb); replace BK186 := Aside0.mk (blk_below (g := gb186) (o := .cells #[.int .i64 a1_0, .int .i64 a1_1, .int .i64 a1_2, .int .i64 a1_3, .string a1_4] 30 (0, 0)) (bp_ BK186.out) hb); (try clear hb); (try clear hb2); (try clear hk); (try clear hi); (try clear ho0)))
            go_ret
            exact ⟨_, fi_, by (with_reducible repeat (first | apply Kd.R_alloc | apply Kd.R_drewN | apply Kd.R_drew)); exact Kd.R_mono HO240.out (fun _ hk => trivial), bel_⟩
           ·rw [if_neg c45] at H
            exact absurd H (by simp)
          ·rw [if_neg c43] at H
           exact absurd H (by simp)
         ·rw [if_neg c42] at H
          exact absurd H (by simp)
        ·rw [if_neg c41] at H
         exact absurd H (by simp)
       ·rw [if_neg c39] at H
        exact absurd H (by simp)
      ·rw [if_neg c38] at H
       exact absurd H (by simp)
     ·rw [if_neg c37] at H
      exact absurd H (by simp)
    ·rw [if_neg c36] at H
     exact absurd H (by simp)
  ·replace c24 := Bool.eq_false_iff.mpr c24
   subst c24
   have H1 : ((some (([] : List (S43)) : List (S43))).bind fun y198 => (if y198.length + l0.length < 4398046511104 then (some (y198 ++ l0)) else (none))) = some r := by rw [if_neg (show ¬ (false = true) by decide)] at H; exact H
   clear H
   have H := H1
   clear H1
   obtain ⟨y198, hy198⟩ : ∃ y_ : List (S43), y_ = (([] : List (S43))) := ⟨_, rfl⟩
   replace H : (if y198.length + l0.length < 4398046511104 then (some (y198 ++ l0)) else (none)) = some r := by first | (rw [hy198]; with_reducible exact H) | (have H2_ := (Option.bind_some _ _).symm.trans H; rw [hy198]; with_reducible exact H2_) | (have H2_ := (Option.bind_some _ _).symm.trans H; with_reducible exact H2_) | with_reducible exact H | (rw [hy198]; exact H) | exact H
   have Ny198 := Aside0.mk hy198
   clear hy198
   by_cases c65 : y198.length + l0.length < 4398046511104
   ·rw [if_pos c65] at H
    have LMc65 := Aside0.mk c65
    clear c65
    obtain ⟨y201, hy201⟩ : ∃ y_ : List (S43), y_ = (y198 ++ l0) := ⟨_, rfl⟩
    replace H : (some y201) = some r := by first | (rw [hy201]; with_reducible exact H) | (have H2_ := (Option.bind_some _ _).symm.trans H; rw [hy201]; with_reducible exact H2_) | (have H2_ := (Option.bind_some _ _).symm.trans H; with_reducible exact H2_) | with_reducible exact H | (rw [hy201]; exact H) | exact H
    have Ny201 := Aside0.mk hy201
    clear hy201
    obtain rfl := Option.some.inj H
    go_enter Tryd.func38, Tryd.ntmps38
    go_wp2_with (first | ((with_reducible refine gate_dst (N := 3) rfl ?_); refine box_event ?hg (N := 3) ?hd (cs := #[.int .i64 a1_0, .int .i64 a1_1, .int .i64 a1_2, .int .i64 a1_3, .string a1_4]) (t := 30) ?hr ?_; (case hd => rfl); (case hg => rfl); (case hr => first | (go_simp; done) | (go_simp; rfl)); intro gb186 hg w66 hbox hb; have n0_ := Aside0.mk (below_step (bel_) hb); have n1_ := Aside0.mk (hbox); have n2_ := Aside0.mk ((by rw [hg]; exact (below_size (bel_)) : w.heap.size ≤ gb186)); have n3_ := Aside0.mk ((by rw [hg]; exact (below_size (bel_)) : w.heap.size ≤ gb186)); clear HB; have HB := n0_; have BK186 := n1_; have GW186 := n2_; have GE186 := n3_; clear n0_ n1_ n2_ n3_; clear hb hbox hg; have hcz67_0 : w66.cell? ⟨gb186, 0, none⟩ = some (.int .i64 a1_0) := (blk_cell BK186.out 0).trans rfl; have hcz67_1 : w66.cell? ⟨gb186, 1, none⟩ = some (.int .i64 a1_1) := (blk_cell BK186.out 1).trans rfl; have hcz67_2 : w66.cell? ⟨gb186, 2, none⟩ = some (.int .i64 a1_2) := (blk_cell BK186.out 2).trans rfl; have hcz67_3 : w66.cell? ⟨gb186, 3, none⟩ = some (.int .i64 a1_3) := (blk_cell BK186.out 3).trans rfl; have hcz67_4 : w66.cell? ⟨gb186, 4, none⟩ = some (.string a1_4) := (blk_cell BK186.out 4).trans rfl; have hfz67_0 := blk_frozen BK186.out 0; have hfz67_1 := blk_frozen BK186.out 1; have hfz67_2 := blk_frozen BK186.out 2; have hfz67_3 := blk_frozen BK186.out 3; have hfz67_4 := blk_frozen BK186.out 4) | ((with_reducible refine gate_callee (f := 60) rfl ?_); refine gl_ 16 Tryd.func60 #[.slice A0 l0.length c0, .int .i64 a1_1] ?_; (with_reducible refine (spec_l2At.calls k _ _ l0 a1_1 t187 _ ?side1 ?side2 A3.out).mono ?_); (case side1 => exact cp_ HR0.out); (case side2 => exact HC0.out); rintro e w' ⟨rfl, ⟨nd, rfl⟩⟩; refine ⟨_, rfl, ?_⟩) | ((with_reducible refine gate_callee (f := 61) rfl ?_); refine gl_ 35 Tryd.func61 #[.slice A0 l0.length c0, .agg #[.int .i64 a1_0, .int .i64 a1_1, .int .i64 a1_2, .int .i64 a1_3, .string a1_4]] ?_; (with_reducible refine (spec_l3Where.calls k _ _ l0 a1_0 a1_1 a1_2 a1_3 a1_4 t195 t196 false _ ?side1 ?side2 A23.out).mono ?_); (case side1 => repeat (first | exact (Kd.C_below HR0.out (bel_)) | (with_reducible refine Kd.C_alloc ?_ _) | (with_reducible refine Kd.C_drewN ?_ _) | (with_reducible refine Kd.C_drew ?_))); (case side2 => exact HC0.out); rintro e w68 ⟨rfl, hb⟩; refine ⟨_, rfl, ?_⟩; replace HB := Aside0.mk (below_step (bel_) hb); replace BK186 := Aside0.mk (blk_below (g := gb186) (o := .cells #[.int .i64 a1_0, .int .i64 a1_1, .int .i64 a1_2, .int .i64 a1_3, .string a1_4] 30 (0, 0)) (bp_ BK186.out) hb); (try clear hb); (try clear hb2); (try clear hk); (try clear hi)) | ((with_reducible refine gate_dst (N := 41) rfl ?_); refine Kd.R_lit k43 _ 43 ?hg (N := 41) ?hd (xs := ([] : List (S43))) (inner := []) (ok := fun _ => True) (okp := fun _ => True) ?hr ?hp (fun _ hk => hk) trivial (Below.refl _ _) (Nat.le_refl _) (by simp) ?_; (case hd => rfl); (case hg => rfl); (case hr => first | (go_simp; done) | (go_simp; rfl)); (case hp => exact (Reps.none _ _)); intro v199 w69 ho70 hb hg_ hnew_; clear hg_ hnew_; (first | rw [← Ny198.out] at ho70 | (simp only [Int.reduceToNat] at ho70; rw [← Ny198.out] at ho70)); have HO200 := Aside0.mk (Kd.R_lower ho70 (below_size (bel_))); replace HB := Aside0.mk (below_step (bel_) hb); replace BK186 := Aside0.mk (blk_below (g := gb186) (o := .cells #[.int .i64 a1_0, .int .i64 a1_1, .int .i64 a1_2, .int .i64 a1_3, .string a1_4] 30 (0, 0)) (bp_ BK186.out) hb); clear hb ho70) | ((with_reducible refine gate_builtin (b := .append) (xs := #[.tmp 41, .tmp 42]) rfl ?_); at_builtin; refine Kd.R_append_rows k43 (w0 := w) w.heap.size rfl (.tmp 41) (.tmp 42) 27 43 (.agg #[(.int .i64 0), (.int .i64 0), (.string ⟨#[]⟩)]) 32 rfl Tryd.underlying27 info43 rfl (by decide) (by omega) v199 y198 l0 _ _ _ (fun _ => True) (fun _ => False) rfl rfl ?aO ?aR (fun _ _ h => h) (fun _ h => h.elim) ?aF ?aB ?aS ?aL ?_; (case aR => repeat (first | exact (Kd.C_below HR0.out HB.out) | (with_reducible refine Kd.C_alloc ?_ _) | (with_reducible refine Kd.C_drewN ?_ _) | (with_reducible refine Kd.C_drew ?_))); (case aB => exact (bel_)); (case aF => exact (fun _ _ => trivial)); (case aO => exact (rp_ HO200.out)); (case aS => exact (below_size (bel_))); (case aL => have := LMc65.out; omega); intro v202 w71 ho hb hg hat; rw [← Ny201.out] at ho; replace BK186 := Aside0.mk (blk_grown (g := gb186) (o := .cells #[.int .i64 a1_0, .int .i64 a1_1, .int .i64 a1_2, .int .i64 a1_3, .string a1_4] 30 (0, 0)) (bp_ BK186.out) hg (Kd.R_ne HO200.out BK186.out (by decide))); replace HB := Aside0.mk (hb); have HO203 := Aside0.mk (ho); clear HO200; clear ho hb hg hat))
    go_ret
    exact ⟨_, fi_, by (with_reducible repeat (first | apply Kd.R_alloc | apply Kd.R_drewN | apply Kd.R_drew)); exact HO203.out, bel_⟩
   ·rw [if_neg c65] at H
    exact absurd H (by simp)

end Go.Proofs.YtkopimbbgckcnaaDoor.P
namespace Go.Proofs.YtkopimbbgckcnaaDoor.P
open Go.RowKit Go.Proofs.YtkopimbbgckcnaaDoorW.PrintWords Go.Proofs.YtkopimbbgckcnaaDoorW.PrintLast
set_option linter.unusedVariables false
set_option linter.unusedSimpArgs false
def spec_OpDo.f (k : Nat) (l0 : List (S43)) (a1_0 : Int) (a1_1 : Int) (a1_2 : Int) (a1_3 : Int) (a1_4 : ByteArray) : Option ((List (S43))) := (spec_TreeOk.f k l0).bind fun t242 => (if t242 = true then ((spec_OpOk.f k a1_0 a1_1 a1_2 a1_3 a1_4).bind fun t243 => (if t243 = true then ((spec_l3Do.f k l0 a1_0 a1_1 a1_2 a1_3 a1_4).bind fun t244 => (some t244)) else (some (([] : List (S43)))))) else (some (([] : List (S43)))))
theorem spec_OpDo.mono : ∀ a0 a1 a2 a3 a4 a5 k, LeO (spec_OpDo.f k a0 a1 a2 a3 a4 a5) (spec_OpDo.f (k + 1) a0 a1 a2 a3 a4 a5) := by
 intro a0 a1 a2 a3 a4 a5 k
 unfold spec_OpDo.f
 repeat' first
   | (with_reducible exact spec_OpOk.mono _ _ _ _ _ _)
   | (with_reducible exact spec_TreeOk.mono _ _)
   | (with_reducible exact spec_l3Do.mono _ _ _ _ _ _ _)
   | (with_reducible exact LeO.refl _)
   | (with_reducible exact LeO.none _)
   | (with_reducible refine LeO.ite ?_ ?_)
   | (with_reducible refine LeO.bind ?_ (fun _ => ?_))
   | exact spec_OpOk.mono _ _ _ _ _ _
   | exact spec_TreeOk.mono _ _
   | exact spec_l3Do.mono _ _ _ _ _ _ _
   | exact LeO.none _
   | refine LeO.ite ?_ ?_
   | refine LeO.bind ?_ (fun _ => ?_)
set_option maxHeartbeats 8000000 in
set_option maxRecDepth 100000 in
theorem spec_OpDo.calls (k : Nat) (A0 : Option Addr) (c0 : Nat) (l0 : List (S43)) (a1_0 : Int) (a1_1 : Int) (a1_2 : Int) (a1_3 : Int) (a1_4 : ByteArray) (r : List (S43)) (w : World) (hr0 : Kd.C k43 w A0 l0.length l0) (hc0 : l0.length ≤ c0) (h : spec_OpDo.f k l0 a1_0 a1_1 a1_2 a1_3 a1_4 = some r) :
  Calls Tryd.prog 17 #[.slice A0 l0.length c0, .agg #[.int .i64 a1_0, .int .i64 a1_1, .int .i64 a1_2, .int .i64 a1_3, .string a1_4]] w fun e w' => ∃ v0_ : Value, e = .returned (v0_) ∧ Kd.R k43 43 w' w.heap.size (fun _ => True) v0_ r ∧ Below w.heap.size w w' := by
 have hu30 := Tryd.underlying30
 have HR0 := Aside0.mk hr0
 have HC0 := Aside0.mk hc0
 clear hr0 hc0
 have HB := Aside0.mk (Below.refl w.heap.size w)
 have H : ((spec_TreeOk.f k l0).bind fun t242 => (if t242 = true then ((spec_OpOk.f k a1_0 a1_1 a1_2 a1_3 a1_4).bind fun t243 => (if t243 = true then ((spec_l3Do.f k l0 a1_0 a1_1 a1_2 a1_3 a1_4).bind fun t244 => (some t244)) else (some (([] : List (S43)))))) else (some (([] : List (S43)))))) = some r := h
 clear h
 replace H := Option.bind_eq_some_iff.mp H
 obtain ⟨t242, A30, H⟩ := H
 replace H : (if t242 = true then ((spec_OpOk.f k a1_0 a1_1 a1_2 a1_3 a1_4).bind fun t243 => (if t243 = true then ((spec_l3Do.f k l0 a1_0 a1_1 a1_2 a1_3 a1_4).bind fun t244 => (some t244)) else (some (([] : List (S43)))))) else (some (([] : List (S43))))) = some r := H
 have A3 := Aside0.mk A30
 clear A30
 by_cases c4 : t242 = true
 ·subst c4
  have H1 : ((spec_OpOk.f k a1_0 a1_1 a1_2 a1_3 a1_4).bind fun t243 => (if t243 = true then ((spec_l3Do.f k l0 a1_0 a1_1 a1_2 a1_3 a1_4).bind fun t244 => (some t244)) else (some (([] : List (S43)))))) = some r := by rw [if_pos rfl] at H; exact H
  clear H
  have H := H1
  clear H1
  replace H := Option.bind_eq_some_iff.mp H
  obtain ⟨t243, A50, H⟩ := H
  replace H : (if t243 = true then ((spec_l3Do.f k l0 a1_0 a1_1 a1_2 a1_3 a1_4).bind fun t244 => (some t244)) else (some (([] : List (S43))))) = some r := H
  have A5 := Aside0.mk A50
  clear A50
  by_cases c6 : t243 = true
  ·subst c6
   have H1 : ((spec_l3Do.f k l0 a1_0 a1_1 a1_2 a1_3 a1_4).bind fun t244 => (some t244)) = some r := by rw [if_pos rfl] at H; exact H
   clear H
   have H := H1
   clear H1
   replace H := Option.bind_eq_some_iff.mp H
   obtain ⟨t244, A70, H⟩ := H
   replace H : (some t244) = some r := H
   have A7 := Aside0.mk A70
   clear A70
   obtain rfl := Option.some.inj H
   go_enter Tryd.func17, Tryd.ntmps17
   go_wp2_with (first | ((with_reducible refine gate_dst (N := 3) rfl ?_); refine box_event ?hg (N := 3) ?hd (cs := #[.int .i64 a1_0, .int .i64 a1_1, .int .i64 a1_2, .int .i64 a1_3, .string a1_4]) (t := 30) ?hr ?_; (case hd => rfl); (case hg => rfl); (case hr => first | (go_simp; done) | (go_simp; rfl)); intro gb241 hg w8 hbox hb; have n0_ := Aside0.mk (below_step (bel_) hb); have n1_ := Aside0.mk (hbox); have n2_ := Aside0.mk ((by rw [hg]; exact (below_size (bel_)) : w.heap.size ≤ gb241)); have n3_ := Aside0.mk ((by rw [hg]; exact (below_size (bel_)) : w.heap.size ≤ gb241)); clear HB; have HB := n0_; have BK241 := n1_; have GW241 := n2_; have GE241 := n3_; clear n0_ n1_ n2_ n3_; clear hb hbox hg) | ((with_reducible refine gate_callee (f := 26) rfl ?_); refine gl_ 6 Tryd.func26 #[.slice A0 l0.length c0] ?_; (with_reducible refine (spec_TreeOk.calls k _ _ l0 true _ ?side1 ?side2 A3.out).mono ?_); (case side1 => exact cp_ HR0.out); (case side2 => exact HC0.out); rintro e w9 ⟨rfl, hb⟩; refine ⟨_, rfl, ?_⟩; replace HB := Aside0.mk (below_step (bel_) hb); replace BK241 := Aside0.mk (blk_below (g := gb241) (o := .cells #[.int .i64 a1_0, .int .i64 a1_1, .int .i64 a1_2, .int .i64 a1_3, .string a1_4] 30 (0, 0)) (bp_ BK241.out) hb); (try clear hb); (try clear hb2); (try clear hk); (try clear hi); have hcz10_0 : w9.cell? ⟨gb241, 0, none⟩ = some (.int .i64 a1_0) := (blk_cell BK241.out 0).trans rfl; have hcz10_1 : w9.cell? ⟨gb241, 1, none⟩ = some (.int .i64 a1_1) := (blk_cell BK241.out 1).trans rfl; have hcz10_2 : w9.cell? ⟨gb241, 2, none⟩ = some (.int .i64 a1_2) := (blk_cell BK241.out 2).trans rfl; have hcz10_3 : w9.cell? ⟨gb241, 3, none⟩ = some (.int .i64 a1_3) := (blk_cell BK241.out 3).trans rfl; have hcz10_4 : w9.cell? ⟨gb241, 4, none⟩ = some (.string a1_4) := (blk_cell BK241.out 4).trans rfl; have hfz10_0 := blk_frozen BK241.out 0; have hfz10_1 := blk_frozen BK241.out 1; have hfz10_2 := blk_frozen BK241.out 2; have hfz10_3 := blk_frozen BK241.out 3; have hfz10_4 := blk_frozen BK241.out 4) | (go_at_call 27; (with_reducible refine (spec_OpOk.calls k a1_0 a1_1 a1_2 a1_3 a1_4 true _ A5.out).mono ?_); rintro e w11 ⟨rfl, hb⟩; replace HB := Aside0.mk (below_step (bel_) hb); replace BK241 := Aside0.mk (blk_below (g := gb241) (o := .cells #[.int .i64 a1_0, .int .i64 a1_1, .int .i64 a1_2, .int .i64 a1_3, .string a1_4] 30 (0, 0)) (bp_ BK241.out) hb); (try clear hb); (try clear hb2); (try clear hk); (try clear hi); have hcz12_0 : w11.cell? ⟨gb241, 0, none⟩ = some (.int .i64 a1_0) := (blk_cell BK241.out 0).trans rfl; have hcz12_1 : w11.cell? ⟨gb241, 1, none⟩ = some (.int .i64 a1_1) := (blk_cell BK241.out 1).trans rfl; have hcz12_2 : w11.cell? ⟨gb241, 2, none⟩ = some (.int .i64 a1_2) := (blk_cell BK241.out 2).trans rfl; have hcz12_3 : w11.cell? ⟨gb241, 3, none⟩ = some (.int .i64 a1_3) := (blk_cell BK241.out 3).trans rfl; have hcz12_4 : w11.cell? ⟨gb241, 4, none⟩ = some (.string a1_4) := (blk_cell BK241.out 4).trans rfl; have hfz12_0 := blk_frozen BK241.out 0; have hfz12_1 := blk_frozen BK241.out 1; have hfz12_2 := blk_frozen BK241.out 2; have hfz12_3 := blk_frozen BK241.out 3; have hfz12_4 := blk_frozen BK241.out 4) | ((with_reducible refine gate_callee (f := 38) rfl ?_); refine gl_ 16 Tryd.func38 #[.slice A0 l0.length c0, .agg #[.int .i64 a1_0, .int .i64 a1_1, .int .i64 a1_2, .int .i64 a1_3, .string a1_4]] ?_; (with_reducible refine (spec_l3Do.calls k _ _ l0 a1_0 a1_1 a1_2 a1_3 a1_4 t244 _ ?side1 ?side2 A7.out).mono ?_); (case side1 => exact cp_ HR0.out); (case side2 => exact HC0.out); rintro e w13 ⟨v245, rfl, ho0, hb⟩; refine ⟨_, rfl, ?_⟩; have HO246 := Aside0.mk (Kd.R_lower ho0 (below_size (bel_))); replace HB := Aside0.mk (below_step (bel_) hb); replace BK241 := Aside0.mk (blk_below (g := gb241) (o := .cells #[.int .i64 a1_0, .int .i64 a1_1, .int .i64 a1_2, .int .i64 a1_3, .string a1_4] 30 (0, 0)) (bp_ BK241.out) hb); (try clear hb); (try clear hb2); (try clear hk); (try clear hi); (try clear ho0)))
   go_ret
   exact ⟨_, fi_, by (with_reducible repeat (first | apply Kd.R_alloc | apply Kd.R_drewN | apply Kd.R_drew)); exact HO246.out, bel_⟩
  ·replace c6 := Bool.eq_false_iff.mpr c6
   subst c6
   have H1 : (some (([] : List (S43)))) = some r := by rw [if_neg (show ¬ (false = true) by decide)] at H; exact H
   clear H
   have H := H1
   clear H1
   obtain ⟨y247, hy247⟩ : ∃ y_ : List (S43), y_ = (([] : List (S43))) := ⟨_, rfl⟩
   replace H : (some y247) = some r := by first | (rw [hy247]; with_reducible exact H) | (have H2_ := (Option.bind_some _ _).symm.trans H; rw [hy247]; with_reducible exact H2_) | (have H2_ := (Option.bind_some _ _).symm.trans H; with_reducible exact H2_) | with_reducible exact H | (rw [hy247]; exact H) | exact H
   have Ny247 := Aside0.mk hy247
   clear hy247
   obtain rfl := Option.some.inj H
   go_enter Tryd.func17, Tryd.ntmps17
   go_wp2_with (first | ((with_reducible refine gate_dst (N := 3) rfl ?_); refine box_event ?hg (N := 3) ?hd (cs := #[.int .i64 a1_0, .int .i64 a1_1, .int .i64 a1_2, .int .i64 a1_3, .string a1_4]) (t := 30) ?hr ?_; (case hd => rfl); (case hg => rfl); (case hr => first | (go_simp; done) | (go_simp; rfl)); intro gb241 hg w14 hbox hb; have n0_ := Aside0.mk (below_step (bel_) hb); have n1_ := Aside0.mk (hbox); have n2_ := Aside0.mk ((by rw [hg]; exact (below_size (bel_)) : w.heap.size ≤ gb241)); have n3_ := Aside0.mk ((by rw [hg]; exact (below_size (bel_)) : w.heap.size ≤ gb241)); clear HB; have HB := n0_; have BK241 := n1_; have GW241 := n2_; have GE241 := n3_; clear n0_ n1_ n2_ n3_; clear hb hbox hg) | ((with_reducible refine gate_callee (f := 26) rfl ?_); refine gl_ 6 Tryd.func26 #[.slice A0 l0.length c0] ?_; (with_reducible refine (spec_TreeOk.calls k _ _ l0 true _ ?side1 ?side2 A3.out).mono ?_); (case side1 => exact cp_ HR0.out); (case side2 => exact HC0.out); rintro e w15 ⟨rfl, hb⟩; refine ⟨_, rfl, ?_⟩; replace HB := Aside0.mk (below_step (bel_) hb); replace BK241 := Aside0.mk (blk_below (g := gb241) (o := .cells #[.int .i64 a1_0, .int .i64 a1_1, .int .i64 a1_2, .int .i64 a1_3, .string a1_4] 30 (0, 0)) (bp_ BK241.out) hb); (try clear hb); (try clear hb2); (try clear hk); (try clear hi); have hcz16_0 : w15.cell? ⟨gb241, 0, none⟩ = some (.int .i64 a1_0) := (blk_cell BK241.out 0).trans rfl; have hcz16_1 : w15.cell? ⟨gb241, 1, none⟩ = some (.int .i64 a1_1) := (blk_cell BK241.out 1).trans rfl; have hcz16_2 : w15.cell? ⟨gb241, 2, none⟩ = some (.int .i64 a1_2) := (blk_cell BK241.out 2).trans rfl; have hcz16_3 : w15.cell? ⟨gb241, 3, none⟩ = some (.int .i64 a1_3) := (blk_cell BK241.out 3).trans rfl; have hcz16_4 : w15.cell? ⟨gb241, 4, none⟩ = some (.string a1_4) := (blk_cell BK241.out 4).trans rfl; have hfz16_0 := blk_frozen BK241.out 0; have hfz16_1 := blk_frozen BK241.out 1; have hfz16_2 := blk_frozen BK241.out 2; have hfz16_3 := blk_frozen BK241.out 3; have hfz16_4 := blk_frozen BK241.out 4) | (go_at_call 27; (with_reducible refine (spec_OpOk.calls k a1_0 a1_1 a1_2 a1_3 a1_4 false _ A5.out).mono ?_); rintro e w17 ⟨rfl, hb⟩; replace HB := Aside0.mk (below_step (bel_) hb); replace BK241 := Aside0.mk (blk_below (g := gb241) (o := .cells #[.int .i64 a1_0, .int .i64 a1_1, .int .i64 a1_2, .int .i64 a1_3, .string a1_4] 30 (0, 0)) (bp_ BK241.out) hb); (try clear hb); (try clear hb2); (try clear hk); (try clear hi)) | ((with_reducible refine gate_dst (N := 13) rfl ?_); refine Kd.R_lit k43 _ 43 ?hg (N := 13) ?hd (xs := ([] : List (S43))) (inner := []) (ok := fun _ => True) (okp := fun _ => True) ?hr ?hp (fun _ hk => hk) trivial (Below.refl _ _) (Nat.le_refl _) (by simp) ?_; (case hd => rfl); (case hg => rfl); (case hr => first | (go_simp; done) | (go_simp; rfl)); (case hp => exact (Reps.none _ _)); intro v248 w18 ho19 hb hg_ hnew_; clear hg_ hnew_; (first | rw [← Ny247.out] at ho19 | (simp only [Int.reduceToNat] at ho19; rw [← Ny247.out] at ho19)); have HO249 := Aside0.mk (Kd.R_lower ho19 (below_size (bel_))); replace HB := Aside0.mk (below_step (bel_) hb); replace BK241 := Aside0.mk (blk_below (g := gb241) (o := .cells #[.int .i64 a1_0, .int .i64 a1_1, .int .i64 a1_2, .int .i64 a1_3, .string a1_4] 30 (0, 0)) (bp_ BK241.out) hb); clear hb ho19))
   go_ret
   exact ⟨_, fi_, by (with_reducible repeat (first | apply Kd.R_alloc | apply Kd.R_drewN | apply Kd.R_drew)); exact HO249.out, bel_⟩
 ·replace c4 := Bool.eq_false_iff.mpr c4
  subst c4
  have H1 : (some (([] : List (S43)))) = some r := by rw [if_neg (show ¬ (false = true) by decide)] at H; exact H
  clear H
  have H := H1
  clear H1
  obtain ⟨y250, hy250⟩ : ∃ y_ : List (S43), y_ = (([] : List (S43))) := ⟨_, rfl⟩
  replace H : (some y250) = some r := by first | (rw [hy250]; with_reducible exact H) | (have H2_ := (Option.bind_some _ _).symm.trans H; rw [hy250]; with_reducible exact H2_) | (have H2_ := (Option.bind_some _ _).symm.trans H; with_reducible exact H2_) | with_reducible exact H | (rw [hy250]; exact H) | exact H
  have Ny250 := Aside0.mk hy250
  clear hy250
  obtain rfl := Option.some.inj H
  go_enter Tryd.func17, Tryd.ntmps17
  go_wp2_with (first | ((with_reducible refine gate_dst (N := 3) rfl ?_); refine box_event ?hg (N := 3) ?hd (cs := #[.int .i64 a1_0, .int .i64 a1_1, .int .i64 a1_2, .int .i64 a1_3, .string a1_4]) (t := 30) ?hr ?_; (case hd => rfl); (case hg => rfl); (case hr => first | (go_simp; done) | (go_simp; rfl)); intro gb241 hg w20 hbox hb; have n0_ := Aside0.mk (below_step (bel_) hb); have n1_ := Aside0.mk (hbox); have n2_ := Aside0.mk ((by rw [hg]; exact (below_size (bel_)) : w.heap.size ≤ gb241)); have n3_ := Aside0.mk ((by rw [hg]; exact (below_size (bel_)) : w.heap.size ≤ gb241)); clear HB; have HB := n0_; have BK241 := n1_; have GW241 := n2_; have GE241 := n3_; clear n0_ n1_ n2_ n3_; clear hb hbox hg) | ((with_reducible refine gate_callee (f := 26) rfl ?_); refine gl_ 6 Tryd.func26 #[.slice A0 l0.length c0] ?_; (with_reducible refine (spec_TreeOk.calls k _ _ l0 false _ ?side1 ?side2 A3.out).mono ?_); (case side1 => exact cp_ HR0.out); (case side2 => exact HC0.out); rintro e w21 ⟨rfl, hb⟩; refine ⟨_, rfl, ?_⟩; replace HB := Aside0.mk (below_step (bel_) hb); replace BK241 := Aside0.mk (blk_below (g := gb241) (o := .cells #[.int .i64 a1_0, .int .i64 a1_1, .int .i64 a1_2, .int .i64 a1_3, .string a1_4] 30 (0, 0)) (bp_ BK241.out) hb); (try clear hb); (try clear hb2); (try clear hk); (try clear hi)) | ((with_reducible refine gate_dst (N := 13) rfl ?_); refine Kd.R_lit k43 _ 43 ?hg (N := 13) ?hd (xs := ([] : List (S43))) (inner := []) (ok := fun _ => True) (okp := fun _ => True) ?hr ?hp (fun _ hk => hk) trivial (Below.refl _ _) (Nat.le_refl _) (by simp) ?_; (case hd => rfl); (case hg => rfl); (case hr => first | (go_simp; done) | (go_simp; rfl)); (case hp => exact (Reps.none _ _)); intro v251 w22 ho23 hb hg_ hnew_; clear hg_ hnew_; (first | rw [← Ny250.out] at ho23 | (simp only [Int.reduceToNat] at ho23; rw [← Ny250.out] at ho23)); have HO252 := Aside0.mk (Kd.R_lower ho23 (below_size (bel_))); replace HB := Aside0.mk (below_step (bel_) hb); replace BK241 := Aside0.mk (blk_below (g := gb241) (o := .cells #[.int .i64 a1_0, .int .i64 a1_1, .int .i64 a1_2, .int .i64 a1_3, .string a1_4] 30 (0, 0)) (bp_ BK241.out) hb); clear hb ho23))
  go_ret
  exact ⟨_, fi_, by (with_reducible repeat (first | apply Kd.R_alloc | apply Kd.R_drewN | apply Kd.R_drew)); exact HO252.out, bel_⟩

def laws_toRow.f (a0_0 : Int) (a0_1 : Int) (a0_2 : ByteArray) : Option (Int × Int × ByteArray) := some (a0_0, a0_1, a0_2)
set_option maxHeartbeats 8000000 in
set_option maxRecDepth 100000 in
theorem laws_toRow.calls (a0_0 : Int) (a0_1 : Int) (a0_2 : ByteArray) (r1 : Int) (r2 : Int) (r3 : ByteArray) (w : World) (h : laws_toRow.f a0_0 a0_1 a0_2 = some (r1, r2, r3)) :
  Calls Tryd.prog 39 #[.agg #[.int .i64 a0_0, .int .i64 a0_1, .string a0_2]] w fun e w' => e = .returned (.agg #[.int .i64 r1, .int .i64 r2, .string r3]) ∧ Below w.heap.size w w' := by
 have hu54 := Tryd.underlying54
 have hu43 := Tryd.underlying43
 have HB := Aside0.mk (Below.refl w.heap.size w)
 have H : (some (a0_0, a0_1, a0_2)) = some (r1, r2, r3) := h
 clear h
 simp only [Option.some.injEq, Prod.mk.injEq] at H
 obtain ⟨rfl, rfl, rfl⟩ := H
 go_enter Tryd.func39, Tryd.ntmps39
 go_wp2_with (first | ((with_reducible refine gate_dst (N := 1) rfl ?_); refine box_event ?hg (N := 1) ?hd (cs := #[.int .i64 a0_0, .int .i64 a0_1, .string a0_2]) (t := 54) ?hr ?_; (case hd => rfl); (case hg => rfl); (case hr => first | (go_simp; done) | (go_simp; rfl)); intro gb253 hg w2 hbox hb; have n0_ := Aside0.mk (below_step (bel_) hb); have n1_ := Aside0.mk (hbox); have n2_ := Aside0.mk ((by rw [hg]; exact (below_size (bel_)) : w.heap.size ≤ gb253)); have n3_ := Aside0.mk ((by rw [hg]; exact (below_size (bel_)) : w.heap.size ≤ gb253)); clear HB; have HB := n0_; have BK253 := n1_; have GW253 := n2_; have GE253 := n3_; clear n0_ n1_ n2_ n3_; clear hb hbox hg) | ((with_reducible refine gate_dst (N := 2) rfl ?_); refine box_event ?hg (N := 2) ?hd (cs := #[.int .i64 0, .int .i64 0, .string (⟨#[]⟩ : ByteArray)]) (t := 43) ?hr ?_; (case hd => rfl); (case hg => rfl); (case hr => first | (go_simp; done) | (go_simp; rfl)); intro gb254 hg w3 hbox hb; have n0_ := Aside0.mk (blk_below (g := gb253) (o := .cells #[.int .i64 a0_0, .int .i64 a0_1, .string a0_2] 54 (0, 0)) (bp_ BK253.out) hb); have n1_ := Aside0.mk (below_step (bel_) hb); have n2_ := Aside0.mk (hbox); have n3_ := Aside0.mk ((by rw [hg]; exact (below_size (bel_)) : w.heap.size ≤ gb254)); have n4_ := Aside0.mk ((by rw [hg]; exact (below_size (bel_)) : w.heap.size ≤ gb254)); have n5_ := Aside0.mk ((by rw [hg]; exact Nat.ne_of_lt (blk_lt (g := gb253) (o := .cells #[.int .i64 a0_0, .int .i64 a0_1, .string a0_2] 54 (0, 0)) (bp_ BK253.out)) : gb253 ≠ gb254)); have n6_ := Aside0.mk ((by rw [hg]; exact Nat.ne_of_gt (blk_lt (g := gb253) (o := .cells #[.int .i64 a0_0, .int .i64 a0_1, .string a0_2] 54 (0, 0)) (bp_ BK253.out)) : gb254 ≠ gb253)); clear BK253; clear HB; have BK253 := n0_; have HB := n1_; have BK254 := n2_; have GW254 := n3_; have GE254 := n4_; have NB253_254 := n5_; have NB254_253 := n6_; clear n0_ n1_ n2_ n3_ n4_ n5_ n6_; clear hb hbox hg) | ((with_reducible refine gate_dst (N := 3) rfl ?_); refine box_event ?hg (N := 3) ?hd (cs := #[.int .i64 0, .int .i64 0, .string (⟨#[]⟩ : ByteArray)]) (t := 43) ?hr ?_; (case hd => rfl); (case hg => rfl); (case hr => first | (go_simp; done) | (go_simp; rfl)); intro gb255 hg w4 hbox hb; have n0_ := Aside0.mk (blk_below (g := gb253) (o := .cells #[.int .i64 a0_0, .int .i64 a0_1, .string a0_2] 54 (0, 0)) (bp_ BK253.out) hb); have n1_ := Aside0.mk (blk_below (g := gb254) (o := .cells #[.int .i64 0, .int .i64 0, .string (⟨#[]⟩ : ByteArray)] 43 (0, 0)) (bp_ BK254.out) hb); have n2_ := Aside0.mk (below_step (bel_) hb); have n3_ := Aside0.mk (hbox); have n4_ := Aside0.mk ((by rw [hg]; exact (below_size (bel_)) : w.heap.size ≤ gb255)); have n5_ := Aside0.mk ((by rw [hg]; exact (below_size (bel_)) : w.heap.size ≤ gb255)); have n6_ := Aside0.mk ((by rw [hg]; exact Nat.ne_of_lt (blk_lt (g := gb253) (o := .cells #[.int .i64 a0_0, .int .i64 a0_1, .string a0_2] 54 (0, 0)) (bp_ BK253.out)) : gb253 ≠ gb255)); have n7_ := Aside0.mk ((by rw [hg]; exact Nat.ne_of_gt (blk_lt (g := gb253) (o := .cells #[.int .i64 a0_0, .int .i64 a0_1, .string a0_2] 54 (0, 0)) (bp_ BK253.out)) : gb255 ≠ gb253)); have n8_ := Aside0.mk ((by rw [hg]; exact Nat.ne_of_lt (blk_lt (g := gb254) (o := .cells #[.int .i64 0, .int .i64 0, .string (⟨#[]⟩ : ByteArray)] 43 (0, 0)) (bp_ BK254.out)) : gb254 ≠ gb255)); have n9_ := Aside0.mk ((by rw [hg]; exact Nat.ne_of_gt (blk_lt (g := gb254) (o := .cells #[.int .i64 0, .int .i64 0, .string (⟨#[]⟩ : ByteArray)] 43 (0, 0)) (bp_ BK254.out)) : gb255 ≠ gb254)); clear BK253; clear BK254; clear HB; have BK253 := n0_; have BK254 := n1_; have HB := n2_; have BK255 := n3_; have GW255 := n4_; have GE255 := n5_; have NB253_255 := n6_; have NB255_253 := n7_; have NB254_255 := n8_; have NB255_254 := n9_; clear n0_ n1_ n2_ n3_ n4_ n5_ n6_ n7_ n8_ n9_; clear hb hbox hg; have hnb5 := NB253_254.out; have hnc5 := NB254_253.out; have hnb6 := NB253_255.out; have hnc6 := NB255_253.out; have hcz7_0 : w4.cell? ⟨gb253, 0, none⟩ = some (.int .i64 a0_0) := (blk_cell BK253.out 0).trans rfl; have hcz7_1 : w4.cell? ⟨gb253, 1, none⟩ = some (.int .i64 a0_1) := (blk_cell BK253.out 1).trans rfl; have hcz7_2 : w4.cell? ⟨gb253, 2, none⟩ = some (.string a0_2) := (blk_cell BK253.out 2).trans rfl; have hfz7_0 := blk_frozen BK253.out 0; have hfz7_1 := blk_frozen BK253.out 1; have hfz7_2 := blk_frozen BK253.out 2; have hnb8 := NB255_254.out; have hnc8 := NB254_255.out; have hcz9_0 : w4.cell? ⟨gb255, 0, none⟩ = some (.int .i64 0) := (blk_cell BK255.out 0).trans rfl; have hcz9_1 : w4.cell? ⟨gb255, 1, none⟩ = some (.int .i64 0) := (blk_cell BK255.out 1).trans rfl; have hcz9_2 : w4.cell? ⟨gb255, 2, none⟩ = some (.string (⟨#[]⟩ : ByteArray)) := (blk_cell BK255.out 2).trans rfl; have hfz9_0 := blk_frozen BK255.out 0; have hfz9_1 := blk_frozen BK255.out 1; have hfz9_2 := blk_frozen BK255.out 2; have hcz10_0 : w4.cell? ⟨gb254, 0, none⟩ = some (.int .i64 0) := (blk_cell BK254.out 0).trans rfl; have hcz10_1 : w4.cell? ⟨gb254, 1, none⟩ = some (.int .i64 0) := (blk_cell BK254.out 1).trans rfl; have hcz10_2 : w4.cell? ⟨gb254, 2, none⟩ = some (.string (⟨#[]⟩ : ByteArray)) := (blk_cell BK254.out 2).trans rfl; have hfz10_0 := blk_frozen BK254.out 0; have hfz10_1 := blk_frozen BK254.out 1; have hfz10_2 := blk_frozen BK254.out 2))
 refine bodyPost_ret (results_cell_row rfl _ _ gb254 43 #[.int .i64 a0_0, .int .i64 a0_1, .string a0_2] (0, 0) _ rfl (by (with_reducible repeat (first | refine blk_drewN ?_ _ | refine blk_drew ?_ | refine blk_alloc ?_ _)); refine blk_put (cs := #[.int .i64 a0_0, .int .i64 a0_1, .string (⟨#[]⟩ : ByteArray)]) ?_ 2 _ rfl; (with_reducible repeat (first | refine blk_drewN ?_ _ | refine blk_drew ?_ | refine blk_alloc ?_ _)); refine blk_put (cs := #[.int .i64 a0_0, .int .i64 0, .string (⟨#[]⟩ : ByteArray)]) ?_ 1 _ rfl; (with_reducible repeat (first | refine blk_drewN ?_ _ | refine blk_drew ?_ | refine blk_alloc ?_ _)); refine blk_put (cs := #[.int .i64 0, .int .i64 0, .string (⟨#[]⟩ : ByteArray)]) ?_ 0 _ rfl; (with_reducible repeat (first | refine blk_drewN ?_ _ | refine blk_drew ?_ | refine blk_alloc ?_ _)); refine blk_far ?_ NB254_255.out _; (with_reducible repeat (first | refine blk_drewN ?_ _ | refine blk_drew ?_ | refine blk_alloc ?_ _)); refine blk_far ?_ NB254_255.out _; (with_reducible repeat (first | refine blk_drewN ?_ _ | refine blk_drew ?_ | refine blk_alloc ?_ _)); refine blk_far ?_ NB254_255.out _; (with_reducible repeat (first | refine blk_drewN ?_ _ | refine blk_drew ?_ | refine blk_alloc ?_ _)); exact BK254.out) Tryd.underlying43 rfl (by kernel_rfl)) rfl ?_
 exact ⟨fi_, bel_⟩

def laws_toRowS.l0 : Nat → List (S54) → List (S43) → Int → Option ((List (S43)))
 | 0, _, _, _ => none
 | k + 1, x0, x3, x4 => if x4 < (x0.length : Int) then (if 0 ≤ x4 then ((laws_toRow.f ((rd_T54 x0 x4).f0) ((rd_T54 x0 x4).f1) ((rd_T54 x0 x4).f2)).bind fun bt260 => (if x4 < (x3.length : Int) then (laws_toRowS.l0 k x0 (x3.set (x4 : Int).toNat (⟨bt260.1, bt260.2.1, bt260.2.2⟩ : S43)) (wrap64 (x4 + 1))) else (none))) else (none)) else (some x3)
def laws_toRowS.f (k : Nat) (l0 : List (S54)) : Option ((List (S43))) := if 0 ≤ (l0.length : Int) then (if ((l0.length : Int) : Int).toNat ≤ 8796093022208 then (laws_toRowS.l0 k l0 (List.replicate ((l0.length : Int) : Int).toNat z43) 0) else (none)) else (none)
theorem laws_toRowS.mono_l : ∀ k, (∀ y0 y1 y2, LeO (laws_toRowS.l0 k y0 y1 y2) (laws_toRowS.l0 (k + 1) y0 y1 y2))
 | 0 => fun _ _ _ r h => by simp [laws_toRowS.l0] at h
 | k + 1 => by
  have ih0 := laws_toRowS.mono_l k
  ·intro y0 y1 y2
   unfold laws_toRowS.l0
   repeat' first
   | (with_reducible exact ih0 _ _ _)
   | (with_reducible exact LeO.refl _)
   | (with_reducible exact LeO.none _)
   | (with_reducible refine LeO.ite ?_ ?_)
   | (with_reducible refine LeO.bind ?_ (fun _ => ?_))
   | exact ih0 _ _ _
   | exact LeO.none _
   | refine LeO.ite ?_ ?_
   | refine LeO.bind ?_ (fun _ => ?_)
theorem laws_toRowS.mono : ∀ a0 k, LeO (laws_toRowS.f k a0) (laws_toRowS.f (k + 1) a0) := by
 intro a0 k
 have ih0 := laws_toRowS.mono_l k
 unfold laws_toRowS.f
 repeat' first
   | (with_reducible exact ih0 _ _ _)
   | (with_reducible exact LeO.refl _)
   | (with_reducible exact LeO.none _)
   | (with_reducible refine LeO.ite ?_ ?_)
   | (with_reducible refine LeO.bind ?_ (fun _ => ?_))
   | exact ih0 _ _ _
   | exact LeO.none _
   | refine LeO.ite ?_ ?_
   | refine LeO.bind ?_ (fun _ => ?_)
set_option maxHeartbeats 8000000 in
set_option maxRecDepth 100000 in
theorem laws_toRowS.calls (k : Nat) (A0 : Option Addr) (c0 : Nat) (l0 : List (S54)) (r : List (S43)) (w : World) (hr0 : Kd.C k54 w A0 l0.length l0) (hc0 : l0.length ≤ c0) (h : laws_toRowS.f k l0 = some r) :
  Calls Tryd.prog 18 #[.slice A0 l0.length c0] w fun e w' => ∃ v0_ : Value, e = .returned (v0_) ∧ Kd.R k43 43 w' w.heap.size (fun _ => True) v0_ r ∧ Below w.heap.size w w' := by
 have hu54 := Tryd.underlying54
 have hu43 := Tryd.underlying43
 have HR0 := Aside0.mk hr0
 have HC0 := Aside0.mk hc0
 clear hr0 hc0
 have HB := Aside0.mk (Below.refl w.heap.size w)
 have H : (if 0 ≤ (l0.length : Int) then (if ((l0.length : Int) : Int).toNat ≤ 8796093022208 then (laws_toRowS.l0 k l0 (List.replicate ((l0.length : Int) : Int).toNat z43) 0) else (none)) else (none)) = some r := h
 clear h
 by_cases c2 : 0 ≤ (l0.length : Int)
 ·rw [if_pos c2] at H
  have c2b0 := eq_true c2
  have c2b1 : decide (0 ≤ (l0.length : Int)) = true := decide_eq_true c2
  clear c2
  by_cases c3 : ((l0.length : Int) : Int).toNat ≤ 8796093022208
  ·rw [if_pos c3] at H
   have c3b0 := eq_true c3
   have c3b1 : decide (((l0.length : Int) : Int).toNat ≤ 8796093022208) = true := decide_eq_true c3
   clear c3
   obtain ⟨y256, hy256⟩ : ∃ y_ : List (S43), y_ = (List.replicate ((l0.length : Int) : Int).toNat z43) := ⟨_, rfl⟩
   replace H : (laws_toRowS.l0 k l0 y256 0) = some r := by first | (rw [hy256]; with_reducible exact H) | (have H2_ := (Option.bind_some _ _).symm.trans H; rw [hy256]; with_reducible exact H2_) | (have H2_ := (Option.bind_some _ _).symm.trans H; with_reducible exact H2_) | with_reducible exact H | (rw [hy256]; exact H) | exact H
   have Ny256 := Aside0.mk hy256
   clear hy256
   have H' := Aside0.mk H
   clear H
   go_enter Tryd.func18, Tryd.ntmps18
   go_wp2_with (first | ((with_reducible refine gate_dst (N := 7) rfl ?_); refine Kd.R_make k43 _ 43 rfl (N := 7) rfl 27 _ _ rfl (l0.length : Int) rfl rfl Tryd.underlying27 (.agg #[(.int .i64 0), (.int .i64 0), (.string ⟨#[]⟩)]) 32 info43 rfl (by decide) (by omega) z43 (ok := fun _ => True) (okp := fun _ => True) (k43_mkM _ _ _ z43 ) (fun _ hk => hk) trivial (od_) (Nat.le_trans (Nat.mul_le_mul_right _ (od_ : (l0.length : Int).toNat ≤ 8796093022208)) (by omega)) (Below.refl _ _) (Nat.le_refl _) ?_; intro v257 w4 ho5 hb hg_ hnew_; clear hg_ hnew_; (first | rw [← Ny256.out] at ho5 | (simp only [Int.reduceToNat] at ho5; rw [← Ny256.out] at ho5)); have HO258 := Aside0.mk (Kd.R_lower ho5 (below_size (bel_))); replace HB := Aside0.mk (below_step (bel_) hb); clear hb ho5))
   go_loopg [4] k (fun kq v4 w' => ∃ (x3_1 : List (S43)) (x4_1 : Int), v4 = .int .i64 x4_1 ∧ Aside0 (laws_toRowS.l0 kq l0 x3_1 x4_1 = some r) ∧ Aside0 (kq ≤ k) ∧ Aside0 (Kd.R k43 43 w' w.heap.size (fun _ => True) v257 x3_1) ∧ Aside0 (Below w.heap.size w w'))
   case atStart => exact ⟨(y256), (0), (si_), H', ⟨Nat.le_refl _⟩, ⟨by (with_reducible repeat (first | apply Kd.R_alloc | apply Kd.R_drewN | apply Kd.R_drew)); exact HO258.out⟩, ⟨bel_⟩⟩
   case round =>
    clear H'
    try clear c1
    try clear c2
    try clear c2b0
    try clear c2b1
    try clear p2
    try clear c3
    try clear c3b0
    try clear c3b1
    obtain ⟨x3_1, x4_1, rfl, HA, HK1, HO_3, HB⟩ := hrel
    cases gk with
    | zero => exact absurd HA.out (by simp [laws_toRowS.l0])
    | succ k1 =>
     have H := HA.out
     clear HA
     simp only [laws_toRowS.l0] at H
     by_cases c6 : x4_1 < (l0.length : Int)
     ·rw [if_pos c6] at H
      have c6b0 : decide (x4_1 < (l0.length : Int)) = true := decide_eq_true c6
      clear c6
      by_cases c7 : 0 ≤ x4_1
      ·rw [if_pos c7] at H
       have c7b0 : decide (0 ≤ x4_1) = true := decide_eq_true c7
       clear c7
       replace H := Option.bind_eq_some_iff.mp H
       obtain ⟨⟨t260, t261, t262⟩, A80, H⟩ := H
       replace H : (if x4_1 < (x3_1.length : Int) then (laws_toRowS.l0 k1 l0 (x3_1.set (x4_1 : Int).toNat (⟨t260, t261, t262⟩ : S43)) (wrap64 (x4_1 + 1))) else (none)) = some r := H
       have A8 := Aside0.mk A80
       clear A80
       by_cases c9 : x4_1 < (x3_1.length : Int)
       ·rw [if_pos c9] at H
        have c9b0 : decide (x4_1 < (x3_1.length : Int)) = true := decide_eq_true c9
        clear c9
        obtain ⟨y263, hy263⟩ : ∃ y_ : List (S43), y_ = (x3_1.set (x4_1 : Int).toNat (⟨t260, t261, t262⟩ : S43)) := ⟨_, rfl⟩
        replace H : (laws_toRowS.l0 k1 l0 y263 (wrap64 (x4_1 + 1))) = some r := by first | (rw [hy263]; with_reducible exact H) | (have H2_ := (Option.bind_some _ _).symm.trans H; rw [hy263]; with_reducible exact H2_) | (have H2_ := (Option.bind_some _ _).symm.trans H; with_reducible exact H2_) | with_reducible exact H | (rw [hy263]; exact H) | exact H
        have Ny263 := Aside0.mk hy263
        clear hy263
        have H' := Aside0.mk H
        clear H
        have p259 : 0 ≤ (x4_1 : Int) := od_
        have q259 : x4_1 < (l0.length : Int) := od_
        obtain ⟨ad259, e259, hx259_0, hx259_1, hx259_2⟩ := at_T54 HR0.out x4_1 p259 q259
        cases e259
        replace hx259_0 := (cb_ HB.out hx259_0 :)
        replace hx259_1 := (cb_ HB.out hx259_1 :)
        replace hx259_2 := (cb_ HB.out hx259_2 :)
        replace p259 := eq_true p259
        replace q259 := eq_true q259
        go_wp2_with (first | ((with_reducible refine gate_callee (f := 39) rfl ?_); refine gl_ 20 Tryd.func39 #[.agg #[.int .i64 ((rd_T54 l0 x4_1).f0), .int .i64 ((rd_T54 l0 x4_1).f1), .string ((rd_T54 l0 x4_1).f2)]] ?_; (with_reducible refine (laws_toRow.calls ((rd_T54 l0 x4_1).f0) ((rd_T54 l0 x4_1).f1) ((rd_T54 l0 x4_1).f2) t260 t261 t262 _ A8.out).mono ?_); rintro e w11 ⟨rfl, hb⟩; refine ⟨_, rfl, ?_⟩; replace HO_3 := Aside0.mk (Kd.R_below (rp_ HO_3.out) hb); replace HB := Aside0.mk (below_step (bel_) hb); (try clear hb); (try clear hb2); (try clear hk); (try clear hi); have p10 : 0 ≤ (x4_1 : Int) := od_; have q10 : (x4_1 : Int) < ((x3_1.length : Int) : Int) := od_; obtain ⟨go10, co10, eo10, gb10, gl10, cl10, HG10⟩ := Kd.R_form HO_3.out (by omega); (first | cases eo10 | (injection eo10 with ea_ en_ ec_; (first | subst ea_ | (injection ea_ with ea_; subst ea_)); subst ec_; clear en_)); have GB10 := Aside0.mk gb10; have GG10 := Aside0.mk HG10; clear gb10 gl10 HG10; obtain ⟨ce10, hcl10, hM10, hcc10, hfr10⟩ := Kd.R_elem HO_3.out z43 (x4_1 : Int) p10 q10; obtain rfl := k43_openM hM10; have hx10_0 : w11.cell? ⟨go10, (x4_1 : Int).toNat * 3, none⟩ = some (.int .i64 ((rd_T43 x3_1 x4_1).f0)) := hcc10 0 _ rfl; have hx10_1 : w11.cell? ⟨go10, (x4_1 : Int).toNat * 3 + 1, none⟩ = some (.int .i64 ((rd_T43 x3_1 x4_1).f1)) := hcc10 1 _ rfl; have hx10_2 : w11.cell? ⟨go10, (x4_1 : Int).toNat * 3 + 2, none⟩ = some (.string ((rd_T43 x3_1 x4_1).f2)) := hcc10 2 _ rfl; have hf10_0 : w11.frozen? ⟨go10, (x4_1 : Int).toNat * 3, none⟩ = false := hfr10 0; have hf10_1 : w11.frozen? ⟨go10, (x4_1 : Int).toNat * 3 + 1, none⟩ = false := hfr10 1; have hf10_2 : w11.frozen? ⟨go10, (x4_1 : Int).toNat * 3 + 2, none⟩ = false := hfr10 2; clear hcl10 hcc10 hfr10 hM10; replace p10 := eq_true p10; replace q10 := eq_true q10; have HX12 := Aside0.mk (show Kd.R k43 43 w11 w.heap.size (fun _ => True) (.slice (some ⟨go10, 0, none⟩) x3_1.length co10) x3_1 from (rp_ HO_3.out)); obtain ⟨ce12, hcl12, hM12, hcc12, hfr12⟩ := Kd.R_elem HX12.out z43 (x4_1 : Int) (od_) (by have h_ : (x4_1 : Int) < ((x3_1.length : Int) : Int) := od_; first | exact h_ | (have e_ := (Kd.R_reads' HO_3.out).1; omega) | simpa using h_); obtain rfl := k43_openM hM12; have HP12 := Kd.R_seg HX12.out (x4_1 : Int) (od_) (by have h_ : (x4_1 : Int) < ((x3_1.length : Int) : Int) := od_; first | exact h_ | (have e_ := (Kd.R_reads' HO_3.out).1; omega) | simpa using h_) (seg := [.int .i64 t260, .int .i64 t261, .string t262]) (j := 0) hcl12 hcc12 (show 3 ≤ 3 from by decide) (x' := (⟨t260, t261, t262⟩ : S43)) (k43_mkM _ _ _ (⟨t260, t261, t262⟩ : S43) ) (fun _ hk => hk); have hx12_0 := hcc12 0 _ rfl; (try simp only [show (k43).sz = 3 from rfl, Nat.mul_one, Nat.add_zero] at hx12_0); have hf12_0 := hfr12 0; (try simp only [show (k43).sz = 3 from rfl, Nat.mul_one, Nat.add_zero] at hf12_0); have hx12_1 := hcc12 1 _ rfl; (try simp only [show (k43).sz = 3 from rfl, Nat.mul_one, Nat.add_zero] at hx12_1); have hf12_1 := hfr12 1; (try simp only [show (k43).sz = 3 from rfl, Nat.mul_one, Nat.add_zero] at hf12_1); have hx12_2 := hcc12 2 _ rfl; (try simp only [show (k43).sz = 3 from rfl, Nat.mul_one, Nat.add_zero] at hx12_2); have hf12_2 := hfr12 2; (try simp only [show (k43).sz = 3 from rfl, Nat.mul_one, Nat.add_zero] at hf12_2); clear hcl12 hcc12 hfr12 hM12) | ((with_reducible refine gate_store (t := 43) (p := 21) rfl ?_); refine store_event (t := 43) (p := 21) (v := ?vo_w13) (w1 := (((w11.setCell ⟨go10, (x4_1 : Int).toNat * 3, none⟩ (.int .i64 t260)).setCell ⟨go10, (x4_1 : Int).toNat * 3 + 1, none⟩ (.int .i64 t261)).setCell ⟨go10, (x4_1 : Int).toNat * 3 + 2, none⟩ (.string t262))) ?hg ?ho ?hn ?hr ?_; (case ho => rfl); (case hg => rfl); (case hn => rfl); (case hr => first | (go_simp; done) | (go_simp; rfl)); intro w13 hw; have hg : w11.grownBy w13 (some go10) := (by rw [hw]; exact HP12.2); have hp_ : Kd.R k43 43 w13 w.heap.size (fun _ => True) (.slice (some ⟨go10, 0, none⟩) x3_1.length co10) y263 := (by rw [hw, Ny263.out]; exact HP12.1); clear HP12; have n0_ := Aside0.mk (hp_); have n1_ := Aside0.mk ((by rw [hw]; exact below_set (below_set (below_set (HB.out) GB10.out) GB10.out) GB10.out : Below w.heap.size w w13)); clear HO_3; clear HB; have HO_3 := n0_; have HB := n1_; clear n0_ n1_; clear hg hw hp_))
        go_roundg k1
        case measure => have := HK1.out; omega
        case rel => exact ⟨(y263), (wrap64 (x4_1 + 1)), (si_), H', ⟨by have := HK1.out; omega⟩, ⟨by (with_reducible repeat (first | apply Kd.R_alloc | apply Kd.R_drewN | apply Kd.R_drew)); exact HO_3.out⟩, ⟨bel_⟩⟩
       ·rw [if_neg c9] at H
        exact absurd H (by simp)
      ·rw [if_neg c7] at H
       exact absurd H (by simp)
     ·rw [if_neg c6] at H
      have c6b0 : decide (x4_1 < (l0.length : Int)) = false := decide_eq_false c6
      clear c6
      obtain rfl := Option.some.inj H
      go_wp2
      go_ret
      exact ⟨_, fi_, by (with_reducible repeat (first | apply Kd.R_alloc | apply Kd.R_drewN | apply Kd.R_drew)); exact HO_3.out, bel_⟩
  ·rw [if_neg c3] at H
   exact absurd H (by simp)
 ·rw [if_neg c2] at H
  exact absurd H (by simp)

def laws_toOp.f (a0_0 : Int) (a0_1 : Int) (a0_2 : Int) (a0_3 : Int) (a0_4 : ByteArray) : Option (Int × Int × Int × Int × ByteArray) := some (a0_0, a0_1, a0_2, a0_3, a0_4)
set_option maxHeartbeats 8000000 in
set_option maxRecDepth 100000 in
theorem laws_toOp.calls (a0_0 : Int) (a0_1 : Int) (a0_2 : Int) (a0_3 : Int) (a0_4 : ByteArray) (r1 : Int) (r2 : Int) (r3 : Int) (r4 : Int) (r5 : ByteArray) (w : World) (h : laws_toOp.f a0_0 a0_1 a0_2 a0_3 a0_4 = some (r1, r2, r3, r4, r5)) :
  Calls Tryd.prog 19 #[.agg #[.int .i64 a0_0, .int .i64 a0_1, .int .i64 a0_2, .int .i64 a0_3, .string a0_4]] w fun e w' => e = .returned (.agg #[.int .i64 r1, .int .i64 r2, .int .i64 r3, .int .i64 r4, .string r5]) ∧ Below w.heap.size w w' := by
 have hu24 := Tryd.underlying24
 have hu30 := Tryd.underlying30
 have HB := Aside0.mk (Below.refl w.heap.size w)
 have H : (some (a0_0, a0_1, a0_2, a0_3, a0_4)) = some (r1, r2, r3, r4, r5) := h
 clear h
 simp only [Option.some.injEq, Prod.mk.injEq] at H
 obtain ⟨rfl, rfl, rfl, rfl, rfl⟩ := H
 go_enter Tryd.func19, Tryd.ntmps19
 go_wp2_with (first | ((with_reducible refine gate_dst (N := 1) rfl ?_); refine box_event ?hg (N := 1) ?hd (cs := #[.int .i64 a0_0, .int .i64 a0_1, .int .i64 a0_2, .int .i64 a0_3, .string a0_4]) (t := 24) ?hr ?_; (case hd => rfl); (case hg => rfl); (case hr => first | (go_simp; done) | (go_simp; rfl)); intro gb264 hg w2 hbox hb; have n0_ := Aside0.mk (below_step (bel_) hb); have n1_ := Aside0.mk (hbox); have n2_ := Aside0.mk ((by rw [hg]; exact (below_size (bel_)) : w.heap.size ≤ gb264)); have n3_ := Aside0.mk ((by rw [hg]; exact (below_size (bel_)) : w.heap.size ≤ gb264)); clear HB; have HB := n0_; have BK264 := n1_; have GW264 := n2_; have GE264 := n3_; clear n0_ n1_ n2_ n3_; clear hb hbox hg) | ((with_reducible refine gate_dst (N := 2) rfl ?_); refine box_event ?hg (N := 2) ?hd (cs := #[.int .i64 0, .int .i64 0, .int .i64 0, .int .i64 0, .string (⟨#[]⟩ : ByteArray)]) (t := 30) ?hr ?_; (case hd => rfl); (case hg => rfl); (case hr => first | (go_simp; done) | (go_simp; rfl)); intro gb265 hg w3 hbox hb; have n0_ := Aside0.mk (blk_below (g := gb264) (o := .cells #[.int .i64 a0_0, .int .i64 a0_1, .int .i64 a0_2, .int .i64 a0_3, .string a0_4] 24 (0, 0)) (bp_ BK264.out) hb); have n1_ := Aside0.mk (below_step (bel_) hb); have n2_ := Aside0.mk (hbox); have n3_ := Aside0.mk ((by rw [hg]; exact (below_size (bel_)) : w.heap.size ≤ gb265)); have n4_ := Aside0.mk ((by rw [hg]; exact (below_size (bel_)) : w.heap.size ≤ gb265)); have n5_ := Aside0.mk ((by rw [hg]; exact Nat.ne_of_lt (blk_lt (g := gb264) (o := .cells #[.int .i64 a0_0, .int .i64 a0_1, .int .i64 a0_2, .int .i64 a0_3, .string a0_4] 24 (0, 0)) (bp_ BK264.out)) : gb264 ≠ gb265)); have n6_ := Aside0.mk ((by rw [hg]; exact Nat.ne_of_gt (blk_lt (g := gb264) (o := .cells #[.int .i64 a0_0, .int .i64 a0_1, .int .i64 a0_2, .int .i64 a0_3, .string a0_4] 24 (0, 0)) (bp_ BK264.out)) : gb265 ≠ gb264)); clear BK264; clear HB; have BK264 := n0_; have HB := n1_; have BK265 := n2_; have GW265 := n3_; have GE265 := n4_; have NB264_265 := n5_; have NB265_264 := n6_; clear n0_ n1_ n2_ n3_ n4_ n5_ n6_; clear hb hbox hg) | ((with_reducible refine gate_dst (N := 3) rfl ?_); refine box_event ?hg (N := 3) ?hd (cs := #[.int .i64 0, .int .i64 0, .int .i64 0, .int .i64 0, .string (⟨#[]⟩ : ByteArray)]) (t := 30) ?hr ?_; (case hd => rfl); (case hg => rfl); (case hr => first | (go_simp; done) | (go_simp; rfl)); intro gb266 hg w4 hbox hb; have n0_ := Aside0.mk (blk_below (g := gb264) (o := .cells #[.int .i64 a0_0, .int .i64 a0_1, .int .i64 a0_2, .int .i64 a0_3, .string a0_4] 24 (0, 0)) (bp_ BK264.out) hb); have n1_ := Aside0.mk (blk_below (g := gb265) (o := .cells #[.int .i64 0, .int .i64 0, .int .i64 0, .int .i64 0, .string (⟨#[]⟩ : ByteArray)] 30 (0, 0)) (bp_ BK265.out) hb); have n2_ := Aside0.mk (below_step (bel_) hb); have n3_ := Aside0.mk (hbox); have n4_ := Aside0.mk ((by rw [hg]; exact (below_size (bel_)) : w.heap.size ≤ gb266)); have n5_ := Aside0.mk ((by rw [hg]; exact (below_size (bel_)) : w.heap.size ≤ gb266)); have n6_ := Aside0.mk ((by rw [hg]; exact Nat.ne_of_lt (blk_lt (g := gb264) (o := .cells #[.int .i64 a0_0, .int .i64 a0_1, .int .i64 a0_2, .int .i64 a0_3, .string a0_4] 24 (0, 0)) (bp_ BK264.out)) : gb264 ≠ gb266)); have n7_ := Aside0.mk ((by rw [hg]; exact Nat.ne_of_gt (blk_lt (g := gb264) (o := .cells #[.int .i64 a0_0, .int .i64 a0_1, .int .i64 a0_2, .int .i64 a0_3, .string a0_4] 24 (0, 0)) (bp_ BK264.out)) : gb266 ≠ gb264)); have n8_ := Aside0.mk ((by rw [hg]; exact Nat.ne_of_lt (blk_lt (g := gb265) (o := .cells #[.int .i64 0, .int .i64 0, .int .i64 0, .int .i64 0, .string (⟨#[]⟩ : ByteArray)] 30 (0, 0)) (bp_ BK265.out)) : gb265 ≠ gb266)); have n9_ := Aside0.mk ((by rw [hg]; exact Nat.ne_of_gt (blk_lt (g := gb265) (o := .cells #[.int .i64 0, .int .i64 0, .int .i64 0, .int .i64 0, .string (⟨#[]⟩ : ByteArray)] 30 (0, 0)) (bp_ BK265.out)) : gb266 ≠ gb265)); clear BK264; clear BK265; clear HB; have BK264 := n0_; have BK265 := n1_; have HB := n2_; have BK266 := n3_; have GW266 := n4_; have GE266 := n5_; have NB264_266 := n6_; have NB266_264 := n7_; have NB265_266 := n8_; have NB266_265 := n9_; clear n0_ n1_ n2_ n3_ n4_ n5_ n6_ n7_ n8_ n9_; clear hb hbox hg; have hnb5 := NB264_265.out; have hnc5 := NB265_264.out; have hnb6 := NB264_266.out; have hnc6 := NB266_264.out; have hcz7_0 : w4.cell? ⟨gb264, 0, none⟩ = some (.int .i64 a0_0) := (blk_cell BK264.out 0).trans rfl; have hcz7_1 : w4.cell? ⟨gb264, 1, none⟩ = some (.int .i64 a0_1) := (blk_cell BK264.out 1).trans rfl; have hcz7_2 : w4.cell? ⟨gb264, 2, none⟩ = some (.int .i64 a0_2) := (blk_cell BK264.out 2).trans rfl; have hcz7_3 : w4.cell? ⟨gb264, 3, none⟩ = some (.int .i64 a0_3) := (blk_cell BK264.out 3).trans rfl; have hcz7_4 : w4.cell? ⟨gb264, 4, none⟩ = some (.string a0_4) := (blk_cell BK264.out 4).trans rfl; have hfz7_0 := blk_frozen BK264.out 0; have hfz7_1 := blk_frozen BK264.out 1; have hfz7_2 := blk_frozen BK264.out 2; have hfz7_3 := blk_frozen BK264.out 3; have hfz7_4 := blk_frozen BK264.out 4; have hnb8 := NB266_265.out; have hnc8 := NB265_266.out; have hcz9_0 : w4.cell? ⟨gb266, 0, none⟩ = some (.int .i64 0) := (blk_cell BK266.out 0).trans rfl; have hcz9_1 : w4.cell? ⟨gb266, 1, none⟩ = some (.int .i64 0) := (blk_cell BK266.out 1).trans rfl; have hcz9_2 : w4.cell? ⟨gb266, 2, none⟩ = some (.int .i64 0) := (blk_cell BK266.out 2).trans rfl; have hcz9_3 : w4.cell? ⟨gb266, 3, none⟩ = some (.int .i64 0) := (blk_cell BK266.out 3).trans rfl; have hcz9_4 : w4.cell? ⟨gb266, 4, none⟩ = some (.string (⟨#[]⟩ : ByteArray)) := (blk_cell BK266.out 4).trans rfl; have hfz9_0 := blk_frozen BK266.out 0; have hfz9_1 := blk_frozen BK266.out 1; have hfz9_2 := blk_frozen BK266.out 2; have hfz9_3 := blk_frozen BK266.out 3; have hfz9_4 := blk_frozen BK266.out 4; have hcz10_0 : w4.cell? ⟨gb265, 0, none⟩ = some (.int .i64 0) := (blk_cell BK265.out 0).trans rfl; have hcz10_1 : w4.cell? ⟨gb265, 1, none⟩ = some (.int .i64 0) := (blk_cell BK265.out 1).trans rfl; have hcz10_2 : w4.cell? ⟨gb265, 2, none⟩ = some (.int .i64 0) := (blk_cell BK265.out 2).trans rfl; have hcz10_3 : w4.cell? ⟨gb265, 3, none⟩ = some (.int .i64 0) := (blk_cell BK265.out 3).trans rfl; have hcz10_4 : w4.cell? ⟨gb265, 4, none⟩ = some (.string (⟨#[]⟩ : ByteArray)) := (blk_cell BK265.out 4).trans rfl; have hfz10_0 := blk_frozen BK265.out 0; have hfz10_1 := blk_frozen BK265.out 1; have hfz10_2 := blk_frozen BK265.out 2; have hfz10_3 := blk_frozen BK265.out 3; have hfz10_4 := blk_frozen BK265.out 4))
 refine bodyPost_ret (results_cell_row rfl _ _ gb265 30 #[.int .i64 a0_0, .int .i64 a0_1, .int .i64 a0_2, .int .i64 a0_3, .string a0_4] (0, 0) _ rfl (by (with_reducible repeat (first | refine blk_drewN ?_ _ | refine blk_drew ?_ | refine blk_alloc ?_ _)); refine blk_put (cs := #[.int .i64 a0_0, .int .i64 a0_1, .int .i64 a0_2, .int .i64 a0_3, .string (⟨#[]⟩ : ByteArray)]) ?_ 4 _ rfl; (with_reducible repeat (first | refine blk_drewN ?_ _ | refine blk_drew ?_ | refine blk_alloc ?_ _)); refine blk_put (cs := #[.int .i64 a0_0, .int .i64 a0_1, .int .i64 a0_2, .int .i64 0, .string (⟨#[]⟩ : ByteArray)]) ?_ 3 _ rfl; (with_reducible repeat (first | refine blk_drewN ?_ _ | refine blk_drew ?_ | refine blk_alloc ?_ _)); refine blk_put (cs := #[.int .i64 a0_0, .int .i64 a0_1, .int .i64 0, .int .i64 0, .string (⟨#[]⟩ : ByteArray)]) ?_ 2 _ rfl; (with_reducible repeat (first | refine blk_drewN ?_ _ | refine blk_drew ?_ | refine blk_alloc ?_ _)); refine blk_put (cs := #[.int .i64 a0_0, .int .i64 0, .int .i64 0, .int .i64 0, .string (⟨#[]⟩ : ByteArray)]) ?_ 1 _ rfl; (with_reducible repeat (first | refine blk_drewN ?_ _ | refine blk_drew ?_ | refine blk_alloc ?_ _)); refine blk_put (cs := #[.int .i64 0, .int .i64 0, .int .i64 0, .int .i64 0, .string (⟨#[]⟩ : ByteArray)]) ?_ 0 _ rfl; (with_reducible repeat (first | refine blk_drewN ?_ _ | refine blk_drew ?_ | refine blk_alloc ?_ _)); refine blk_far ?_ NB265_266.out _; (with_reducible repeat (first | refine blk_drewN ?_ _ | refine blk_drew ?_ | refine blk_alloc ?_ _)); refine blk_far ?_ NB265_266.out _; (with_reducible repeat (first | refine blk_drewN ?_ _ | refine blk_drew ?_ | refine blk_alloc ?_ _)); refine blk_far ?_ NB265_266.out _; (with_reducible repeat (first | refine blk_drewN ?_ _ | refine blk_drew ?_ | refine blk_alloc ?_ _)); refine blk_far ?_ NB265_266.out _; (with_reducible repeat (first | refine blk_drewN ?_ _ | refine blk_drew ?_ | refine blk_alloc ?_ _)); refine blk_far ?_ NB265_266.out _; (with_reducible repeat (first | refine blk_drewN ?_ _ | refine blk_drew ?_ | refine blk_alloc ?_ _)); exact BK265.out) Tryd.underlying30 rfl (by kernel_rfl)) rfl ?_
 exact ⟨fi_, bel_⟩

end Go.Proofs.YtkopimbbgckcnaaDoor.P
namespace Go.Proofs.YtkopimbbgckcnaaDoor.P
open Go.RowKit Go.Proofs.YtkopimbbgckcnaaDoorW.PrintWords Go.Proofs.YtkopimbbgckcnaaDoorW.PrintLast
set_option linter.unusedVariables false
set_option linter.unusedSimpArgs false
def laws_eqRow.f (a0_0 : Int) (a0_1 : Int) (a0_2 : ByteArray) (a1_0 : Int) (a1_1 : Int) (a1_2 : ByteArray) : Option (Bool) := if a0_0 = a1_0 then (if a0_1 = a1_1 then (if a0_2.toList = a1_2.toList then (some true) else (some false)) else (some false)) else (some false)
end Go.Proofs.YtkopimbbgckcnaaDoor.P
