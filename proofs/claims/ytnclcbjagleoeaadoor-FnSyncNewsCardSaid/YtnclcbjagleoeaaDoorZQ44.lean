/- Joined by a program (wip/shake.py): the declarations that 'YtnclcbjagleoeaaDoorCardFnSyncNews' reaches. -/
import Derived.Test.YtnclcbjagleoeaaDoorZQ43
namespace Go.Proofs.YtnclcbjagleoeaaDoor.P
open Go.RowKit Go.Proofs.YtnclcbjagleoeaaDoorW.PrintWords Go.Proofs.YtnclcbjagleoeaaDoorW.PrintLast
set_option linter.unusedVariables false
set_option linter.unusedSimpArgs false
set_option maxHeartbeats 8000000 in
set_option maxRecDepth 100000 in
theorem spec_l3Do.calls (k : Nat) (A0 : Option Addr) (c0 : Nat) (l0 : List (S120)) (a1_0 : Int) (a1_1 : Int) (a1_2 : Int) (a1_3 : Int) (a1_4 : ByteArray) (r : List (S120)) (w : World) (hr0 : Kd.C k120 w A0 l0.length l0) (hc0 : l0.length ≤ c0) (h : spec_l3Do.f k l0 a1_0 a1_1 a1_2 a1_3 a1_4 = some r) :
  Calls Tryd.prog 89 #[.slice A0 l0.length c0, .agg #[.int .i64 a1_0, .int .i64 a1_1, .int .i64 a1_2, .int .i64 a1_3, .string a1_4]] w fun e w' => ∃ v0_ : Value, e = .returned (v0_) ∧ Kd.R k120 120 w' w.heap.size (fun _ => True) v0_ r ∧ Below w.heap.size w w' := by
 have hu54 := Tryd.underlying54
 have hu120 := Tryd.underlying120
 have HR0 := Aside0.mk hr0
 have HC0 := Aside0.mk hc0
 clear hr0 hc0
 have HB := Aside0.mk (Below.refl w.heap.size w)
 have H : ((spec_l2At.f k l0 a1_1).bind fun t566 => (if a1_0 = 2 then ((some (([] : List (S120)) : List (S120))).bind fun y567 => (if y567.length + l0.length < 4398046511104 then ((some (y567 ++ l0 : List (S120))).bind fun y570 => (if t566 ≥ 0 then (if 0 ≤ t566 then (if t566 < (y570.length : Int) then (some (y570.set (t566 : Int).toNat (⟨(rd_T120 y570 t566).f0, (rd_T120 y570 t566).f1, a1_4⟩ : S120))) else (none)) else (none)) else (some y570))) else (none))) else ((spec_l3Where.f k l0 a1_0 a1_1 a1_2 a1_3 a1_4).bind fun bt574 => (if bt574.2.2 = true then (if a1_0 = 1 then ((spec_l3Put.f k l0 (([(⟨a1_1, 0, a1_4⟩ : S120)] : List (S120))) bt574.1 bt574.2.1).bind fun t586 => (some t586)) else ((spec_l2End.f k l0 t566).bind fun t589 => ((some (([] : List (S120)) : List (S120))).bind fun y590 => (if 0 ≤ t566 then (if t566 ≤ t589 then (if t589 ≤ (l0.length : Int) then ((some ((l0.take (t589 : Int).toNat).drop (t566 : Int).toNat : List (S120))).bind fun y593 => (if y590.length + y593.length < 4398046511104 then ((some (([] : List (S120)) : List (S120))).bind fun y600 => (if t566 ≤ (l0.length : Int) then ((some (l0.take (t566 : Int).toNat : List (S120))).bind fun y603 => (if y600.length + y603.length < 4398046511104 then ((some (y600 ++ y603 : List (S120))).bind fun y607 => (if 0 ≤ t589 then ((some (l0.drop (t589 : Int).toNat : List (S120))).bind fun y610 => (if y607.length + y610.length < 4398046511104 then ((spec_l3Put.f k (y607 ++ y610) (y590 ++ y593) bt574.1 bt574.2.1).bind fun t617 => (some t617)) else (none))) else (none))) else (none))) else (none))) else (none))) else (none)) else (none)) else (none))))) else ((some (([] : List (S120)) : List (S120))).bind fun y577 => (if y577.length + l0.length < 4398046511104 then (some (y577 ++ l0)) else (none))))))) = some r := h
 clear h
 replace H := Option.bind_eq_some_iff.mp H
 obtain ⟨t566, A30, H⟩ := H
 replace H : (if a1_0 = 2 then ((some (([] : List (S120)) : List (S120))).bind fun y567 => (if y567.length + l0.length < 4398046511104 then ((some (y567 ++ l0 : List (S120))).bind fun y570 => (if t566 ≥ 0 then (if 0 ≤ t566 then (if t566 < (y570.length : Int) then (some (y570.set (t566 : Int).toNat (⟨(rd_T120 y570 t566).f0, (rd_T120 y570 t566).f1, a1_4⟩ : S120))) else (none)) else (none)) else (some y570))) else (none))) else ((spec_l3Where.f k l0 a1_0 a1_1 a1_2 a1_3 a1_4).bind fun bt574 => (if bt574.2.2 = true then (if a1_0 = 1 then ((spec_l3Put.f k l0 (([(⟨a1_1, 0, a1_4⟩ : S120)] : List (S120))) bt574.1 bt574.2.1).bind fun t586 => (some t586)) else ((spec_l2End.f k l0 t566).bind fun t589 => ((some (([] : List (S120)) : List (S120))).bind fun y590 => (if 0 ≤ t566 then (if t566 ≤ t589 then (if t589 ≤ (l0.length : Int) then ((some ((l0.take (t589 : Int).toNat).drop (t566 : Int).toNat : List (S120))).bind fun y593 => (if y590.length + y593.length < 4398046511104 then ((some (([] : List (S120)) : List (S120))).bind fun y600 => (if t566 ≤ (l0.length : Int) then ((some (l0.take (t566 : Int).toNat : List (S120))).bind fun y603 => (if y600.length + y603.length < 4398046511104 then ((some (y600 ++ y603 : List (S120))).bind fun y607 => (if 0 ≤ t589 then ((some (l0.drop (t589 : Int).toNat : List (S120))).bind fun y610 => (if y607.length + y610.length < 4398046511104 then ((spec_l3Put.f k (y607 ++ y610) (y590 ++ y593) bt574.1 bt574.2.1).bind fun t617 => (some t617)) else (none))) else (none))) else (none))) else (none))) else (none))) else (none)) else (none)) else (none))))) else ((some (([] : List (S120)) : List (S120))).bind fun y577 => (if y577.length + l0.length < 4398046511104 then (some (y577 ++ l0)) else (none)))))) = some r := H
 have A3 := Aside0.mk A30
 clear A30
 by_cases c4 : a1_0 = 2
 ·rw [if_pos c4] at H
  have c4b0 : (a1_0 == 2) = true := beq_iff_eq.mpr c4
  have c4b1 : (a1_0 != 2) = false := bne_eq_false_iff_eq.mpr c4
  clear c4
  obtain ⟨y567, hy567⟩ : ∃ y_ : List (S120), y_ = (([] : List (S120))) := ⟨_, rfl⟩
  replace H : (if y567.length + l0.length < 4398046511104 then ((some (y567 ++ l0 : List (S120))).bind fun y570 => (if t566 ≥ 0 then (if 0 ≤ t566 then (if t566 < (y570.length : Int) then (some (y570.set (t566 : Int).toNat (⟨(rd_T120 y570 t566).f0, (rd_T120 y570 t566).f1, a1_4⟩ : S120))) else (none)) else (none)) else (some y570))) else (none)) = some r := by first | (rw [hy567]; with_reducible exact H) | (have H2_ := (Option.bind_some _ _).symm.trans H; rw [hy567]; with_reducible exact H2_) | (have H2_ := (Option.bind_some _ _).symm.trans H; with_reducible exact H2_) | with_reducible exact H | (rw [hy567]; exact H) | exact H
  have Ny567 := Aside0.mk hy567
  clear hy567
  by_cases c5 : y567.length + l0.length < 4398046511104
  ·rw [if_pos c5] at H
   have LMc5 := Aside0.mk c5
   clear c5
   obtain ⟨y570, hy570⟩ : ∃ y_ : List (S120), y_ = (y567 ++ l0) := ⟨_, rfl⟩
   replace H : (if t566 ≥ 0 then (if 0 ≤ t566 then (if t566 < (y570.length : Int) then (some (y570.set (t566 : Int).toNat (⟨(rd_T120 y570 t566).f0, (rd_T120 y570 t566).f1, a1_4⟩ : S120))) else (none)) else (none)) else (some y570)) = some r := by first | (rw [hy570]; with_reducible exact H) | (have H2_ := (Option.bind_some _ _).symm.trans H; rw [hy570]; with_reducible exact H2_) | (have H2_ := (Option.bind_some _ _).symm.trans H; with_reducible exact H2_) | with_reducible exact H | (rw [hy570]; exact H) | exact H
   have Ny570 := Aside0.mk hy570
   clear hy570
   by_cases c6 : t566 ≥ 0
   ·rw [if_pos c6] at H
    have c6b0 : decide (0 ≤ t566) = true := decide_eq_true c6
    clear c6
    by_cases c7 : 0 ≤ t566
    ·rw [if_pos c7] at H
     have c7b0 : decide (0 ≤ t566) = true := decide_eq_true c7
     clear c7
     by_cases c8 : t566 < (y570.length : Int)
     ·rw [if_pos c8] at H
      have c8b0 : decide (t566 < (y570.length : Int)) = true := decide_eq_true c8
      clear c8
      obtain ⟨y573, hy573⟩ : ∃ y_ : List (S120), y_ = (y570.set (t566 : Int).toNat (⟨(rd_T120 y570 t566).f0, (rd_T120 y570 t566).f1, a1_4⟩ : S120)) := ⟨_, rfl⟩
      replace H : (some y573) = some r := by first | (rw [hy573]; with_reducible exact H) | (have H2_ := (Option.bind_some _ _).symm.trans H; rw [hy573]; with_reducible exact H2_) | (have H2_ := (Option.bind_some _ _).symm.trans H; with_reducible exact H2_) | with_reducible exact H | (rw [hy573]; exact H) | exact H
      have Ny573 := Aside0.mk hy573
      clear hy573
      obtain rfl := Option.some.inj H
      go_enter Tryd.func89, Tryd.ntmps89
      go_wp2_with (first | ((with_reducible refine gate_dst (N := 3) rfl ?_); refine box_event ?hg (N := 3) ?hd (cs := #[.int .i64 a1_0, .int .i64 a1_1, .int .i64 a1_2, .int .i64 a1_3, .string a1_4]) (t := 54) ?hr ?_; (case hd => rfl); (case hg => rfl); (case hr => first | (go_simp; done) | (go_simp; rfl)); intro gb565 hg w10 hbox hb; have n0_ := Aside0.mk (below_step (bel_) hb); have n1_ := Aside0.mk (hbox); have n2_ := Aside0.mk ((by rw [hg]; exact (below_size (bel_)) : w.heap.size ≤ gb565)); have n3_ := Aside0.mk ((by rw [hg]; exact (below_size (bel_)) : w.heap.size ≤ gb565)); clear HB; have HB := n0_; have BK565 := n1_; have GW565 := n2_; have GE565 := n3_; clear n0_ n1_ n2_ n3_; clear hb hbox hg; have hcz11_0 : w10.cell? ⟨gb565, 0, none⟩ = some (.int .i64 a1_0) := (blk_cell BK565.out 0).trans rfl; have hcz11_1 : w10.cell? ⟨gb565, 1, none⟩ = some (.int .i64 a1_1) := (blk_cell BK565.out 1).trans rfl; have hcz11_2 : w10.cell? ⟨gb565, 2, none⟩ = some (.int .i64 a1_2) := (blk_cell BK565.out 2).trans rfl; have hcz11_3 : w10.cell? ⟨gb565, 3, none⟩ = some (.int .i64 a1_3) := (blk_cell BK565.out 3).trans rfl; have hcz11_4 : w10.cell? ⟨gb565, 4, none⟩ = some (.string a1_4) := (blk_cell BK565.out 4).trans rfl; have hfz11_0 := blk_frozen BK565.out 0; have hfz11_1 := blk_frozen BK565.out 1; have hfz11_2 := blk_frozen BK565.out 2; have hfz11_3 := blk_frozen BK565.out 3; have hfz11_4 := blk_frozen BK565.out 4) | ((with_reducible refine gate_callee (f := 98) rfl ?_); refine gl_ 16 Tryd.func98 #[.slice A0 l0.length c0, .int .i64 a1_1] ?_; (with_reducible refine (spec_l2At.calls k _ _ l0 a1_1 t566 _ ?side1 ?side2 A3.out).mono ?_); (case side1 => exact cp_ HR0.out); (case side2 => exact HC0.out); rintro e w' ⟨rfl, ⟨nd, rfl⟩⟩; refine ⟨_, rfl, ?_⟩; (try (rw [drewN_self w10]; generalize hq_ : World.drewN w10 _ = w10; have n0_ : Aside0 (w10.heap[gb565]? = some (.cells #[.int .i64 a1_0, .int .i64 a1_1, .int .i64 a1_2, .int .i64 a1_3, .string a1_4] 54 (0, 0))) := ⟨by rw [← hq_]; exact (bp_ BK565.out)⟩; have n1_ : Aside0 (Below w.heap.size w w10) := ⟨by rw [← hq_]; exact (bel_)⟩; clear BK565 HB hq_; have BK565 := n0_; have HB := n1_; clear n0_ n1_; have hcy_gb565_0 : w10.cell? ⟨gb565, 0, none⟩ = some (.int .i64 a1_0) := (blk_cell BK565.out 0).trans rfl; have hfy_gb565_0 := blk_frozen BK565.out 0; have hcy_gb565_1 : w10.cell? ⟨gb565, 1, none⟩ = some (.int .i64 a1_1) := (blk_cell BK565.out 1).trans rfl; have hfy_gb565_1 := blk_frozen BK565.out 1; have hcy_gb565_2 : w10.cell? ⟨gb565, 2, none⟩ = some (.int .i64 a1_2) := (blk_cell BK565.out 2).trans rfl; have hfy_gb565_2 := blk_frozen BK565.out 2; have hcy_gb565_3 : w10.cell? ⟨gb565, 3, none⟩ = some (.int .i64 a1_3) := (blk_cell BK565.out 3).trans rfl; have hfy_gb565_3 := blk_frozen BK565.out 3; have hcy_gb565_4 : w10.cell? ⟨gb565, 4, none⟩ = some (.string a1_4) := (blk_cell BK565.out 4).trans rfl; have hfy_gb565_4 := blk_frozen BK565.out 4))) | ((with_reducible refine gate_dst (N := 20) rfl ?_); refine Kd.R_lit k120 _ 120 ?hg (N := 20) ?hd (xs := ([] : List (S120))) (inner := []) (ok := fun _ => True) (okp := fun _ => True) ?hr ?hp (fun _ hk => hk) trivial (Below.refl _ _) (Nat.le_refl _) (by simp) ?_; (case hd => rfl); (case hg => rfl); (case hr => first | (go_simp; done) | (go_simp; rfl)); (case hp => exact (Reps.none _ _)); intro v568 w12 ho13 hb hg_ hnew_; clear hg_ hnew_; (first | rw [← Ny567.out] at ho13 | (simp only [Int.reduceToNat] at ho13; rw [← Ny567.out] at ho13)); have HO569 := Aside0.mk (Kd.R_lower ho13 (below_size (bel_))); replace HB := Aside0.mk (below_step (bel_) hb); replace BK565 := Aside0.mk (blk_below (g := gb565) (o := .cells #[.int .i64 a1_0, .int .i64 a1_1, .int .i64 a1_2, .int .i64 a1_3, .string a1_4] 54 (0, 0)) (bp_ BK565.out) hb); clear hb ho13) | ((with_reducible refine gate_builtin (b := .append) (xs := #[.tmp 20, .tmp 21]) rfl ?_); at_builtin; refine Kd.R_append_rows k120 (w0 := w) w.heap.size rfl (.tmp 20) (.tmp 21) 107 120 (.agg #[(.int .i64 0), (.int .i64 0), (.string ⟨#[]⟩)]) 32 rfl Tryd.underlying107 info120 rfl (by decide) (by omega) v568 y567 l0 _ _ _ (fun _ => True) (fun _ => False) rfl rfl ?aO ?aR (fun _ _ h => h) (fun _ h => h.elim) ?aF ?aB ?aS ?aL ?_; (case aR => repeat (first | exact (Kd.C_below HR0.out HB.out) | (with_reducible refine Kd.C_alloc ?_ _) | (with_reducible refine Kd.C_drewN ?_ _) | (with_reducible refine Kd.C_drew ?_))); (case aB => exact (bel_)); (case aF => exact (fun _ _ => trivial)); (case aO => exact (rp_ HO569.out)); (case aS => exact (below_size (bel_))); (case aL => have := LMc5.out; omega); intro v571 w14 ho hb hg hat; rw [← Ny570.out] at ho; replace BK565 := Aside0.mk (blk_grown (g := gb565) (o := .cells #[.int .i64 a1_0, .int .i64 a1_1, .int .i64 a1_2, .int .i64 a1_3, .string a1_4] 54 (0, 0)) (bp_ BK565.out) hg (Kd.R_ne HO569.out BK565.out (by decide))); replace HB := Aside0.mk (hb); have HO572 := Aside0.mk (ho); clear HO569; clear ho hb hg hat; have hcz15_0 : w14.cell? ⟨gb565, 0, none⟩ = some (.int .i64 a1_0) := (blk_cell BK565.out 0).trans rfl; have hcz15_1 : w14.cell? ⟨gb565, 1, none⟩ = some (.int .i64 a1_1) := (blk_cell BK565.out 1).trans rfl; have hcz15_2 : w14.cell? ⟨gb565, 2, none⟩ = some (.int .i64 a1_2) := (blk_cell BK565.out 2).trans rfl; have hcz15_3 : w14.cell? ⟨gb565, 3, none⟩ = some (.int .i64 a1_3) := (blk_cell BK565.out 3).trans rfl; have hcz15_4 : w14.cell? ⟨gb565, 4, none⟩ = some (.string a1_4) := (blk_cell BK565.out 4).trans rfl; have hfz15_0 := blk_frozen BK565.out 0; have hfz15_1 := blk_frozen BK565.out 1; have hfz15_2 := blk_frozen BK565.out 2; have hfz15_3 := blk_frozen BK565.out 3; have hfz15_4 := blk_frozen BK565.out 4; have p9 : 0 ≤ (t566 : Int) := od_; have q9 : (t566 : Int) < ((y570.length : Int) : Int) := od_; obtain ⟨go9, co9, eo9, gb9, gl9, cl9, HG9⟩ := Kd.R_form HO572.out (by omega); (first | cases eo9 | (injection eo9 with ea_ en_ ec_; (first | subst ea_ | (injection ea_ with ea_; subst ea_)); subst ec_; clear en_)); have GB9 := Aside0.mk gb9; have GG9 := Aside0.mk HG9; clear gb9 gl9 HG9; obtain ⟨ce9, hcl9, hM9, hcc9, hfr9⟩ := Kd.R_elem HO572.out z120 (t566 : Int) p9 q9; obtain rfl := k120_openM hM9; have hx9_0 : w14.cell? ⟨go9, (t566 : Int).toNat * 3, none⟩ = some (.int .i64 ((rd_T120 y570 t566).f0)) := hcc9 0 _ rfl; have hx9_1 : w14.cell? ⟨go9, (t566 : Int).toNat * 3 + 1, none⟩ = some (.int .i64 ((rd_T120 y570 t566).f1)) := hcc9 1 _ rfl; have hx9_2 : w14.cell? ⟨go9, (t566 : Int).toNat * 3 + 2, none⟩ = some (.string ((rd_T120 y570 t566).f2)) := hcc9 2 _ rfl; have hf9_0 : w14.frozen? ⟨go9, (t566 : Int).toNat * 3, none⟩ = false := hfr9 0; have hf9_1 : w14.frozen? ⟨go9, (t566 : Int).toNat * 3 + 1, none⟩ = false := hfr9 1; have hf9_2 : w14.frozen? ⟨go9, (t566 : Int).toNat * 3 + 2, none⟩ = false := hfr9 2; clear hcl9 hcc9 hfr9 hM9; replace p9 := eq_true p9; replace q9 := eq_true q9; have HX16 := Aside0.mk (show Kd.R k120 120 w14 w.heap.size (fun _ => True) (.slice (some ⟨go9, 0, none⟩) y570.length co9) y570 from (rp_ HO572.out)); obtain ⟨ce16, hcl16, hM16, hcc16, hfr16⟩ := Kd.R_elem HX16.out z120 (t566 : Int) (od_) (by have h_ : (t566 : Int) < ((y570.length : Int) : Int) := od_; first | exact h_ | (have e_ := (Kd.R_reads' HO572.out).1; omega) | simpa using h_); obtain rfl := k120_openM hM16; have HP16 := Kd.R_seg HX16.out (t566 : Int) (od_) (by have h_ : (t566 : Int) < ((y570.length : Int) : Int) := od_; first | exact h_ | (have e_ := (Kd.R_reads' HO572.out).1; omega) | simpa using h_) (seg := [.string a1_4]) (j := 2) hcl16 hcc16 (show 3 ≤ 3 from by decide) (x' := (⟨(rd_T120 y570 t566).f0, (rd_T120 y570 t566).f1, a1_4⟩ : S120)) (k120_mkM _ _ _ (⟨(rd_T120 y570 t566).f0, (rd_T120 y570 t566).f1, a1_4⟩ : S120) ) (fun _ hk => hk); have hx16_2 := hcc16 2 _ rfl; (try simp only [show (k120).sz = 3 from rfl, Nat.mul_one, Nat.add_zero] at hx16_2); have hf16_2 := hfr16 2; (try simp only [show (k120).sz = 3 from rfl, Nat.mul_one, Nat.add_zero] at hf16_2); clear hcl16 hcc16 hfr16 hM16) | ((with_reducible refine gate_store (t := 9) (p := 30) rfl ?_); refine store_event (t := 9) (p := 30) (v := ?vo_w17) (w1 := (w14.setCell ⟨go9, (t566 : Int).toNat * 3 + 2, none⟩ (.string a1_4))) ?hg ?ho ?hn ?hr ?_; (case ho => rfl); (case hg => rfl); (case hn => rfl); (case hr => first | (go_simp; done) | (go_simp; rfl)); intro w17 hw; have hg : w14.grownBy w17 (some go9) := (by rw [hw]; exact HP16.2); have hp_ : Kd.R k120 120 w17 w.heap.size (fun _ => True) (.slice (some ⟨go9, 0, none⟩) y570.length co9) y573 := (by rw [hw, Ny573.out]; exact HP16.1); clear HP16; have n0_ := Aside0.mk (blk_grown (g := gb565) (o := .cells #[.int .i64 a1_0, .int .i64 a1_1, .int .i64 a1_2, .int .i64 a1_3, .string a1_4] 54 (0, 0)) (bp_ BK565.out) hg (Kd.R_ne HO572.out BK565.out (by decide))); have n1_ := Aside0.mk (hp_); have n2_ := Aside0.mk ((by rw [hw]; exact below_set (HB.out) GB9.out : Below w.heap.size w w17)); clear BK565; clear HO572; clear HB; have BK565 := n0_; have HO572 := n1_; have HB := n2_; clear n0_ n1_ n2_; clear hg hw hp_))
      go_ret
      exact ⟨_, fi_, by (with_reducible repeat (first | apply Kd.R_alloc | apply Kd.R_drewN | apply Kd.R_drew)); exact HO572.out, bel_⟩
     ·rw [if_neg c8] at H
      exact absurd H (by simp)
    ·rw [if_neg c7] at H
     exact absurd H (by simp)
   ·rw [if_neg c6] at H
    have c6b0 : decide (0 ≤ t566) = false := decide_eq_false c6
    clear c6
    obtain rfl := Option.some.inj H
    go_enter Tryd.func89, Tryd.ntmps89
    go_wp2_with (first | ((with_reducible refine gate_dst (N := 3) rfl ?_); refine box_event ?hg (N := 3) ?hd (cs := #[.int .i64 a1_0, .int .i64 a1_1, .int .i64 a1_2, .int .i64 a1_3, .string a1_4]) (t := 54) ?hr ?_; (case hd => rfl); (case hg => rfl); (case hr => first | (go_simp; done) | (go_simp; rfl)); intro gb565 hg w18 hbox hb; have n0_ := Aside0.mk (below_step (bel_) hb); have n1_ := Aside0.mk (hbox); have n2_ := Aside0.mk ((by rw [hg]; exact (below_size (bel_)) : w.heap.size ≤ gb565)); have n3_ := Aside0.mk ((by rw [hg]; exact (below_size (bel_)) : w.heap.size ≤ gb565)); clear HB; have HB := n0_; have BK565 := n1_; have GW565 := n2_; have GE565 := n3_; clear n0_ n1_ n2_ n3_; clear hb hbox hg; have hcz19_0 : w18.cell? ⟨gb565, 0, none⟩ = some (.int .i64 a1_0) := (blk_cell BK565.out 0).trans rfl; have hcz19_1 : w18.cell? ⟨gb565, 1, none⟩ = some (.int .i64 a1_1) := (blk_cell BK565.out 1).trans rfl; have hcz19_2 : w18.cell? ⟨gb565, 2, none⟩ = some (.int .i64 a1_2) := (blk_cell BK565.out 2).trans rfl; have hcz19_3 : w18.cell? ⟨gb565, 3, none⟩ = some (.int .i64 a1_3) := (blk_cell BK565.out 3).trans rfl; have hcz19_4 : w18.cell? ⟨gb565, 4, none⟩ = some (.string a1_4) := (blk_cell BK565.out 4).trans rfl; have hfz19_0 := blk_frozen BK565.out 0; have hfz19_1 := blk_frozen BK565.out 1; have hfz19_2 := blk_frozen BK565.out 2; have hfz19_3 := blk_frozen BK565.out 3; have hfz19_4 := blk_frozen BK565.out 4) | ((with_reducible refine gate_callee (f := 98) rfl ?_); refine gl_ 16 Tryd.func98 #[.slice A0 l0.length c0, .int .i64 a1_1] ?_; (with_reducible refine (spec_l2At.calls k _ _ l0 a1_1 t566 _ ?side1 ?side2 A3.out).mono ?_); (case side1 => exact cp_ HR0.out); (case side2 => exact HC0.out); rintro e w' ⟨rfl, ⟨nd, rfl⟩⟩; refine ⟨_, rfl, ?_⟩) | ((with_reducible refine gate_dst (N := 20) rfl ?_); refine Kd.R_lit k120 _ 120 ?hg (N := 20) ?hd (xs := ([] : List (S120))) (inner := []) (ok := fun _ => True) (okp := fun _ => True) ?hr ?hp (fun _ hk => hk) trivial (Below.refl _ _) (Nat.le_refl _) (by simp) ?_; (case hd => rfl); (case hg => rfl); (case hr => first | (go_simp; done) | (go_simp; rfl)); (case hp => exact (Reps.none _ _)); intro v568 w20 ho21 hb hg_ hnew_; clear hg_ hnew_; (first | rw [← Ny567.out] at ho21 | (simp only [Int.reduceToNat] at ho21; rw [← Ny567.out] at ho21)); have HO569 := Aside0.mk (Kd.R_lower ho21 (below_size (bel_))); replace HB := Aside0.mk (below_step (bel_) hb); replace BK565 := Aside0.mk (blk_below (g := gb565) (o := .cells #[.int .i64 a1_0, .int .i64 a1_1, .int .i64 a1_2, .int .i64 a1_3, .string a1_4] 54 (0, 0)) (bp_ BK565.out) hb); clear hb ho21) | ((with_reducible refine gate_builtin (b := .append) (xs := #[.tmp 20, .tmp 21]) rfl ?_); at_builtin; refine Kd.R_append_rows k120 (w0 := w) w.heap.size rfl (.tmp 20) (.tmp 21) 107 120 (.agg #[(.int .i64 0), (.int .i64 0), (.string ⟨#[]⟩)]) 32 rfl Tryd.underlying107 info120 rfl (by decide) (by omega) v568 y567 l0 _ _ _ (fun _ => True) (fun _ => False) rfl rfl ?aO ?aR (fun _ _ h => h) (fun _ h => h.elim) ?aF ?aB ?aS ?aL ?_; (case aR => repeat (first | exact (Kd.C_below HR0.out HB.out) | (with_reducible refine Kd.C_alloc ?_ _) | (with_reducible refine Kd.C_drewN ?_ _) | (with_reducible refine Kd.C_drew ?_))); (case aB => exact (bel_)); (case aF => exact (fun _ _ => trivial)); (case aO => exact (rp_ HO569.out)); (case aS => exact (below_size (bel_))); (case aL => have := LMc5.out; omega); intro v571 w22 ho hb hg hat; rw [← Ny570.out] at ho; replace BK565 := Aside0.mk (blk_grown (g := gb565) (o := .cells #[.int .i64 a1_0, .int .i64 a1_1, .int .i64 a1_2, .int .i64 a1_3, .string a1_4] 54 (0, 0)) (bp_ BK565.out) hg (Kd.R_ne HO569.out BK565.out (by decide))); replace HB := Aside0.mk (hb); have HO572 := Aside0.mk (ho); clear HO569; clear ho hb hg hat))
    go_ret
    exact ⟨_, fi_, by (with_reducible repeat (first | apply Kd.R_alloc | apply Kd.R_drewN | apply Kd.R_drew)); exact HO572.out, bel_⟩
  ·rw [if_neg c5] at H
   exact absurd H (by simp)
 ·rw [if_neg c4] at H
  have c4b0 : (a1_0 == 2) = false := beq_eq_false_iff_ne.mpr c4
  have c4b1 : (a1_0 != 2) = true := bne_iff_ne.mpr c4
  replace H := Option.bind_eq_some_iff.mp H
  obtain ⟨⟨t574, t575, t576⟩, A230, H⟩ := H
  replace H : (if t576 = true then (if a1_0 = 1 then ((spec_l3Put.f k l0 (([(⟨a1_1, 0, a1_4⟩ : S120)] : List (S120))) t574 t575).bind fun t586 => (some t586)) else ((spec_l2End.f k l0 t566).bind fun t589 => ((some (([] : List (S120)) : List (S120))).bind fun y590 => (if 0 ≤ t566 then (if t566 ≤ t589 then (if t589 ≤ (l0.length : Int) then ((some ((l0.take (t589 : Int).toNat).drop (t566 : Int).toNat : List (S120))).bind fun y593 => (if y590.length + y593.length < 4398046511104 then ((some (([] : List (S120)) : List (S120))).bind fun y600 => (if t566 ≤ (l0.length : Int) then ((some (l0.take (t566 : Int).toNat : List (S120))).bind fun y603 => (if y600.length + y603.length < 4398046511104 then ((some (y600 ++ y603 : List (S120))).bind fun y607 => (if 0 ≤ t589 then ((some (l0.drop (t589 : Int).toNat : List (S120))).bind fun y610 => (if y607.length + y610.length < 4398046511104 then ((spec_l3Put.f k (y607 ++ y610) (y590 ++ y593) t574 t575).bind fun t617 => (some t617)) else (none))) else (none))) else (none))) else (none))) else (none))) else (none)) else (none)) else (none))))) else ((some (([] : List (S120)) : List (S120))).bind fun y577 => (if y577.length + l0.length < 4398046511104 then (some (y577 ++ l0)) else (none)))) = some r := H
  have A23 := Aside0.mk A230
  clear A230
  by_cases c24 : t576 = true
  ·subst c24
   have H1 : (if a1_0 = 1 then ((spec_l3Put.f k l0 (([(⟨a1_1, 0, a1_4⟩ : S120)] : List (S120))) t574 t575).bind fun t586 => (some t586)) else ((spec_l2End.f k l0 t566).bind fun t589 => ((some (([] : List (S120)) : List (S120))).bind fun y590 => (if 0 ≤ t566 then (if t566 ≤ t589 then (if t589 ≤ (l0.length : Int) then ((some ((l0.take (t589 : Int).toNat).drop (t566 : Int).toNat : List (S120))).bind fun y593 => (if y590.length + y593.length < 4398046511104 then ((some (([] : List (S120)) : List (S120))).bind fun y600 => (if t566 ≤ (l0.length : Int) then ((some (l0.take (t566 : Int).toNat : List (S120))).bind fun y603 => (if y600.length + y603.length < 4398046511104 then ((some (y600 ++ y603 : List (S120))).bind fun y607 => (if 0 ≤ t589 then ((some (l0.drop (t589 : Int).toNat : List (S120))).bind fun y610 => (if y607.length + y610.length < 4398046511104 then ((spec_l3Put.f k (y607 ++ y610) (y590 ++ y593) t574 t575).bind fun t617 => (some t617)) else (none))) else (none))) else (none))) else (none))) else (none))) else (none)) else (none)) else (none))))) = some r := by rw [if_pos rfl] at H; exact H
   clear H
   have H := H1
   clear H1
   by_cases c25 : a1_0 = 1
   ·rw [if_pos c25] at H
    have c25b0 : (a1_0 == 1) = true := beq_iff_eq.mpr c25
    have c25b1 : (a1_0 != 1) = false := bne_eq_false_iff_eq.mpr c25
    clear c25
    obtain ⟨y583, hy583⟩ : ∃ y_ : List (S120), y_ = (([(⟨a1_1, 0, a1_4⟩ : S120)] : List (S120))) := ⟨_, rfl⟩
    replace H : ((spec_l3Put.f k l0 y583 t574 t575).bind fun t586 => (some t586)) = some r := by first | (rw [hy583]; with_reducible exact H) | (have H2_ := (Option.bind_some _ _).symm.trans H; rw [hy583]; with_reducible exact H2_) | (have H2_ := (Option.bind_some _ _).symm.trans H; with_reducible exact H2_) | with_reducible exact H | (rw [hy583]; exact H) | exact H
    have Ny583 := Aside0.mk hy583
    clear hy583
    replace H := Option.bind_eq_some_iff.mp H
    obtain ⟨t586, A260, H⟩ := H
    replace H : (some t586) = some r := H
    have A26 := Aside0.mk A260
    clear A260
    obtain rfl := Option.some.inj H
    go_enter Tryd.func89, Tryd.ntmps89
    go_wp2_with (first | ((with_reducible refine gate_dst (N := 3) rfl ?_); refine box_event ?hg (N := 3) ?hd (cs := #[.int .i64 a1_0, .int .i64 a1_1, .int .i64 a1_2, .int .i64 a1_3, .string a1_4]) (t := 54) ?hr ?_; (case hd => rfl); (case hg => rfl); (case hr => first | (go_simp; done) | (go_simp; rfl)); intro gb565 hg w27 hbox hb; have n0_ := Aside0.mk (below_step (bel_) hb); have n1_ := Aside0.mk (hbox); have n2_ := Aside0.mk ((by rw [hg]; exact (below_size (bel_)) : w.heap.size ≤ gb565)); have n3_ := Aside0.mk ((by rw [hg]; exact (below_size (bel_)) : w.heap.size ≤ gb565)); clear HB; have HB := n0_; have BK565 := n1_; have GW565 := n2_; have GE565 := n3_; clear n0_ n1_ n2_ n3_; clear hb hbox hg; have hcz28_0 : w27.cell? ⟨gb565, 0, none⟩ = some (.int .i64 a1_0) := (blk_cell BK565.out 0).trans rfl; have hcz28_1 : w27.cell? ⟨gb565, 1, none⟩ = some (.int .i64 a1_1) := (blk_cell BK565.out 1).trans rfl; have hcz28_2 : w27.cell? ⟨gb565, 2, none⟩ = some (.int .i64 a1_2) := (blk_cell BK565.out 2).trans rfl; have hcz28_3 : w27.cell? ⟨gb565, 3, none⟩ = some (.int .i64 a1_3) := (blk_cell BK565.out 3).trans rfl; have hcz28_4 : w27.cell? ⟨gb565, 4, none⟩ = some (.string a1_4) := (blk_cell BK565.out 4).trans rfl; have hfz28_0 := blk_frozen BK565.out 0; have hfz28_1 := blk_frozen BK565.out 1; have hfz28_2 := blk_frozen BK565.out 2; have hfz28_3 := blk_frozen BK565.out 3; have hfz28_4 := blk_frozen BK565.out 4) | ((with_reducible refine gate_callee (f := 98) rfl ?_); refine gl_ 16 Tryd.func98 #[.slice A0 l0.length c0, .int .i64 a1_1] ?_; (with_reducible refine (spec_l2At.calls k _ _ l0 a1_1 t566 _ ?side1 ?side2 A3.out).mono ?_); (case side1 => exact cp_ HR0.out); (case side2 => exact HC0.out); rintro e w' ⟨rfl, ⟨nd, rfl⟩⟩; refine ⟨_, rfl, ?_⟩) | ((with_reducible refine gate_callee (f := 99) rfl ?_); refine gl_ 35 Tryd.func99 #[.slice A0 l0.length c0, .agg #[.int .i64 a1_0, .int .i64 a1_1, .int .i64 a1_2, .int .i64 a1_3, .string a1_4]] ?_; (with_reducible refine (spec_l3Where.calls k _ _ l0 a1_0 a1_1 a1_2 a1_3 a1_4 t574 t575 true _ ?side1 ?side2 A23.out).mono ?_); (case side1 => repeat (first | exact (Kd.C_below HR0.out (bel_)) | (with_reducible refine Kd.C_alloc ?_ _) | (with_reducible refine Kd.C_drewN ?_ _) | (with_reducible refine Kd.C_drew ?_))); (case side2 => exact HC0.out); rintro e w29 ⟨rfl, hb⟩; refine ⟨_, rfl, ?_⟩; replace HB := Aside0.mk (below_step (bel_) hb); replace BK565 := Aside0.mk (blk_below (g := gb565) (o := .cells #[.int .i64 a1_0, .int .i64 a1_1, .int .i64 a1_2, .int .i64 a1_3, .string a1_4] 54 (0, 0)) (bp_ BK565.out) hb); (try clear hb); (try clear hb2); (try clear hk); (try clear hi); have hcz30_0 : w29.cell? ⟨gb565, 0, none⟩ = some (.int .i64 a1_0) := (blk_cell BK565.out 0).trans rfl; have hcz30_1 : w29.cell? ⟨gb565, 1, none⟩ = some (.int .i64 a1_1) := (blk_cell BK565.out 1).trans rfl; have hcz30_2 : w29.cell? ⟨gb565, 2, none⟩ = some (.int .i64 a1_2) := (blk_cell BK565.out 2).trans rfl; have hcz30_3 : w29.cell? ⟨gb565, 3, none⟩ = some (.int .i64 a1_3) := (blk_cell BK565.out 3).trans rfl; have hcz30_4 : w29.cell? ⟨gb565, 4, none⟩ = some (.string a1_4) := (blk_cell BK565.out 4).trans rfl; have hfz30_0 := blk_frozen BK565.out 0; have hfz30_1 := blk_frozen BK565.out 1; have hfz30_2 := blk_frozen BK565.out 2; have hfz30_3 := blk_frozen BK565.out 3; have hfz30_4 := blk_frozen BK565.out 4) | ((with_reducible refine gate_dst (N := 53) rfl ?_); refine Kd.R_lit k120 _ 120 ?hg (N := 53) ?hd (xs := ([(⟨a1_1, 0, a1_4⟩ : S120)] : List (S120))) (inner := [.int .i64 a1_1, .int .i64 0, .string a1_4]) (ok := fun _ => True) (okp := fun _ => True) ?hr ?hp (fun _ hk => hk) trivial (Below.refl _ _) (Nat.le_refl _) (by simp) ?_; (case hd => rfl); (case hg => rfl); (case hr => first | (go_simp; done) | (go_simp; rfl)); (case hp => exact (Reps.c3 (show Kd.M k120 _ _ _ (⟨a1_1, 0, a1_4⟩ : S120) [.int .i64 a1_1, .int .i64 0, .string a1_4] from (k120_mkM _ _ _ (⟨a1_1, 0, a1_4⟩ : S120) )) (Reps.none _ _))); intro v584 w31 ho32 hb hg_ hnew_; clear hg_ hnew_; (first | rw [← Ny583.out] at ho32 | (simp only [Int.reduceToNat] at ho32; rw [← Ny583.out] at ho32)); have HO585 := Aside0.mk (Kd.R_lower ho32 (below_size (bel_))); replace HB := Aside0.mk (below_step (bel_) hb); replace BK565 := Aside0.mk (blk_below (g := gb565) (o := .cells #[.int .i64 a1_0, .int .i64 a1_1, .int .i64 a1_2, .int .i64 a1_3, .string a1_4] 54 (0, 0)) (bp_ BK565.out) hb); clear hb ho32; obtain ⟨Ao33, co33, eo33⟩ := Kd.R_slice HO585.out; subst eo33) | ((with_reducible refine gate_callee (f := 100) rfl ?_); refine gl_ 56 Tryd.func100 #[.slice A0 l0.length c0, .slice Ao33 y583.length co33, .int .i64 t574, .int .i64 t575] ?_; (with_reducible refine (spec_l3Put.calls k _ _ l0 _ _ y583 t574 t575 t586 _ ?side1 ?side2 ?side3 ?side4 A26.out).mono ?_); (case side1 => exact cp_ HR0.out); (case side2 => exact HC0.out); (case side3 => repeat (first | exact (Kd.R_reads' HO585.out).2.2 | (with_reducible refine Kd.C_alloc ?_ _) | (with_reducible refine Kd.C_drewN ?_ _) | (with_reducible refine Kd.C_drew ?_))); (case side4 => exact (Kd.R_reads' HO585.out).2.1); rintro e w34 ⟨v587, rfl, ho0, hb⟩; refine ⟨_, rfl, ?_⟩; have HO588 := Aside0.mk (Kd.R_lower (Kd.R_new' ho0 (Kd.R_lt (rp_ HO585.out))) (below_size (bel_))); replace HO585 := Aside0.mk (Kd.R_elder' (rp_ HO585.out) (Kd.R_base ho0) hb); replace HB := Aside0.mk (below_step (bel_) hb); replace BK565 := Aside0.mk (blk_below (g := gb565) (o := .cells #[.int .i64 a1_0, .int .i64 a1_1, .int .i64 a1_2, .int .i64 a1_3, .string a1_4] 54 (0, 0)) (bp_ BK565.out) hb); (try clear hb); (try clear hb2); (try clear hk); (try clear hi); (try clear ho0)))
    go_ret
    exact ⟨_, fi_, by (with_reducible repeat (first | apply Kd.R_alloc | apply Kd.R_drewN | apply Kd.R_drew)); exact Kd.R_mono HO588.out (fun _ hk => trivial), bel_⟩
   ·rw [if_neg c25] at H
    have c25b0 : (a1_0 == 1) = false := beq_eq_false_iff_ne.mpr c25
    have c25b1 : (a1_0 != 1) = true := bne_iff_ne.mpr c25
    replace H := Option.bind_eq_some_iff.mp H
    obtain ⟨t589, A350, H⟩ := H
    replace H : ((some (([] : List (S120)) : List (S120))).bind fun y590 => (if 0 ≤ t566 then (if t566 ≤ t589 then (if t589 ≤ (l0.length : Int) then ((some ((l0.take (t589 : Int).toNat).drop (t566 : Int).toNat : List (S120))).bind fun y593 => (if y590.length + y593.length < 4398046511104 then ((some (([] : List (S120)) : List (S120))).bind fun y600 => (if t566 ≤ (l0.length : Int) then ((some (l0.take (t566 : Int).toNat : List (S120))).bind fun y603 => (if y600.length + y603.length < 4398046511104 then ((some (y600 ++ y603 : List (S120))).bind fun y607 => (if 0 ≤ t589 then ((some (l0.drop (t589 : Int).toNat : List (S120))).bind fun y610 => (if y607.length + y610.length < 4398046511104 then ((spec_l3Put.f k (y607 ++ y610) (y590 ++ y593) t574 t575).bind fun t617 => (some t617)) else (none))) else (none))) else (none))) else (none))) else (none))) else (none)) else (none)) else (none))) = some r := H
    have A35 := Aside0.mk A350
    clear A350
    obtain ⟨y590, hy590⟩ : ∃ y_ : List (S120), y_ = (([] : List (S120))) := ⟨_, rfl⟩
    replace H : (if 0 ≤ t566 then (if t566 ≤ t589 then (if t589 ≤ (l0.length : Int) then ((some ((l0.take (t589 : Int).toNat).drop (t566 : Int).toNat : List (S120))).bind fun y593 => (if y590.length + y593.length < 4398046511104 then ((some (([] : List (S120)) : List (S120))).bind fun y600 => (if t566 ≤ (l0.length : Int) then ((some (l0.take (t566 : Int).toNat : List (S120))).bind fun y603 => (if y600.length + y603.length < 4398046511104 then ((some (y600 ++ y603 : List (S120))).bind fun y607 => (if 0 ≤ t589 then ((some (l0.drop (t589 : Int).toNat : List (S120))).bind fun y610 => (if y607.length + y610.length < 4398046511104 then ((spec_l3Put.f k (y607 ++ y610) (y590 ++ y593) t574 t575).bind fun t617 => (some t617)) else (none))) else (none))) else (none))) else (none))) else (none))) else (none)) else (none)) else (none)) = some r := by first | (rw [hy590]; with_reducible exact H) | (have H2_ := (Option.bind_some _ _).symm.trans H; rw [hy590]; with_reducible exact H2_) | (have H2_ := (Option.bind_some _ _).symm.trans H; with_reducible exact H2_) | with_reducible exact H | (rw [hy590]; exact H) | exact H
    have Ny590 := Aside0.mk hy590
    clear hy590
    by_cases c36 : 0 ≤ t566
    ·rw [if_pos c36] at H
     have c36b0 := eq_true c36
     have c36b1 : decide (0 ≤ t566) = true := decide_eq_true c36
     clear c36
     by_cases c37 : t566 ≤ t589
     ·rw [if_pos c37] at H
      have c37b0 := eq_true c37
      have c37b1 : decide (t566 ≤ t589) = true := decide_eq_true c37
      clear c37
      by_cases c38 : t589 ≤ (l0.length : Int)
      ·rw [if_pos c38] at H
       have c38b0 := eq_true c38
       have c38b1 : decide (t589 ≤ (l0.length : Int)) = true := decide_eq_true c38
       clear c38
       obtain ⟨y593, hy593⟩ : ∃ y_ : List (S120), y_ = ((l0.take (t589 : Int).toNat).drop (t566 : Int).toNat) := ⟨_, rfl⟩
       replace H : (if y590.length + y593.length < 4398046511104 then ((some (([] : List (S120)) : List (S120))).bind fun y600 => (if t566 ≤ (l0.length : Int) then ((some (l0.take (t566 : Int).toNat : List (S120))).bind fun y603 => (if y600.length + y603.length < 4398046511104 then ((some (y600 ++ y603 : List (S120))).bind fun y607 => (if 0 ≤ t589 then ((some (l0.drop (t589 : Int).toNat : List (S120))).bind fun y610 => (if y607.length + y610.length < 4398046511104 then ((spec_l3Put.f k (y607 ++ y610) (y590 ++ y593) t574 t575).bind fun t617 => (some t617)) else (none))) else (none))) else (none))) else (none))) else (none)) = some r := by first | (rw [hy593]; with_reducible exact H) | (have H2_ := (Option.bind_some _ _).symm.trans H; rw [hy593]; with_reducible exact H2_) | (have H2_ := (Option.bind_some _ _).symm.trans H; with_reducible exact H2_) | with_reducible exact H | (rw [hy593]; exact H) | exact H
       have Ny593 := Aside0.mk hy593
       clear hy593
       by_cases c39 : y590.length + y593.length < 4398046511104
       ·rw [if_pos c39] at H
        have LMc39 := Aside0.mk c39
        clear c39
        obtain ⟨y597, hy597⟩ : ∃ y_ : List (S120), y_ = (y590 ++ y593) := ⟨_, rfl⟩
        replace H : ((some (([] : List (S120)) : List (S120))).bind fun y600 => (if t566 ≤ (l0.length : Int) then ((some (l0.take (t566 : Int).toNat : List (S120))).bind fun y603 => (if y600.length + y603.length < 4398046511104 then ((some (y600 ++ y603 : List (S120))).bind fun y607 => (if 0 ≤ t589 then ((some (l0.drop (t589 : Int).toNat : List (S120))).bind fun y610 => (if y607.length + y610.length < 4398046511104 then ((spec_l3Put.f k (y607 ++ y610) y597 t574 t575).bind fun t617 => (some t617)) else (none))) else (none))) else (none))) else (none))) = some r := by first | (rw [hy597]; with_reducible exact H) | (have H2_ := (Option.bind_some _ _).symm.trans H; rw [hy597]; with_reducible exact H2_) | (have H2_ := (Option.bind_some _ _).symm.trans H; with_reducible exact H2_) | with_reducible exact H | (rw [hy597]; exact H) | exact H
        have Ny597 := Aside0.mk hy597
        clear hy597
        obtain ⟨y600, hy600⟩ : ∃ y_ : List (S120), y_ = (([] : List (S120))) := ⟨_, rfl⟩
        replace H : (if t566 ≤ (l0.length : Int) then ((some (l0.take (t566 : Int).toNat : List (S120))).bind fun y603 => (if y600.length + y603.length < 4398046511104 then ((some (y600 ++ y603 : List (S120))).bind fun y607 => (if 0 ≤ t589 then ((some (l0.drop (t589 : Int).toNat : List (S120))).bind fun y610 => (if y607.length + y610.length < 4398046511104 then ((spec_l3Put.f k (y607 ++ y610) y597 t574 t575).bind fun t617 => (some t617)) else (none))) else (none))) else (none))) else (none)) = some r := by first | (rw [hy600]; with_reducible exact H) | (have H2_ := (Option.bind_some _ _).symm.trans H; rw [hy600]; with_reducible exact H2_) | (have H2_ := (Option.bind_some _ _).symm.trans H; with_reducible exact H2_) | with_reducible exact H | (rw [hy600]; exact H) | exact H
        have Ny600 := Aside0.mk hy600
        clear hy600
        have c40b0 := eq_true (od_ : 0 ≤ t566)
        by_cases c41 : t566 ≤ (l0.length : Int)
        ·rw [if_pos c41] at H
         have c41b0 := eq_true c41
         have c41b1 : decide (t566 ≤ (l0.length : Int)) = true := decide_eq_true c41
         clear c41
         obtain ⟨y603, hy603⟩ : ∃ y_ : List (S120), y_ = (l0.take (t566 : Int).toNat) := ⟨_, rfl⟩
         replace H : (if y600.length + y603.length < 4398046511104 then ((some (y600 ++ y603 : List (S120))).bind fun y607 => (if 0 ≤ t589 then ((some (l0.drop (t589 : Int).toNat : List (S120))).bind fun y610 => (if y607.length + y610.length < 4398046511104 then ((spec_l3Put.f k (y607 ++ y610) y597 t574 t575).bind fun t617 => (some t617)) else (none))) else (none))) else (none)) = some r := by first | (rw [hy603]; with_reducible exact H) | (have H2_ := (Option.bind_some _ _).symm.trans H; rw [hy603]; with_reducible exact H2_) | (have H2_ := (Option.bind_some _ _).symm.trans H; with_reducible exact H2_) | with_reducible exact H | (rw [hy603]; exact H) | exact H
         have Ny603 := Aside0.mk hy603
         clear hy603
         by_cases c42 : y600.length + y603.length < 4398046511104
         ·rw [if_pos c42] at H
          have LMc42 := Aside0.mk c42
          clear c42
          obtain ⟨y607, hy607⟩ : ∃ y_ : List (S120), y_ = (y600 ++ y603) := ⟨_, rfl⟩
          replace H : (if 0 ≤ t589 then ((some (l0.drop (t589 : Int).toNat : List (S120))).bind fun y610 => (if y607.length + y610.length < 4398046511104 then ((spec_l3Put.f k (y607 ++ y610) y597 t574 t575).bind fun t617 => (some t617)) else (none))) else (none)) = some r := by first | (rw [hy607]; with_reducible exact H) | (have H2_ := (Option.bind_some _ _).symm.trans H; rw [hy607]; with_reducible exact H2_) | (have H2_ := (Option.bind_some _ _).symm.trans H; with_reducible exact H2_) | with_reducible exact H | (rw [hy607]; exact H) | exact H
          have Ny607 := Aside0.mk hy607
          clear hy607
          by_cases c43 : 0 ≤ t589
          ·rw [if_pos c43] at H
           have c43b0 := eq_true c43
           have c43b1 : decide (0 ≤ t589) = true := decide_eq_true c43
           clear c43
           have c44b0 := eq_true (od_ : t589 ≤ (l0.length : Int))
           obtain ⟨y610, hy610⟩ : ∃ y_ : List (S120), y_ = (l0.drop (t589 : Int).toNat) := ⟨_, rfl⟩
           replace H : (if y607.length + y610.length < 4398046511104 then ((spec_l3Put.f k (y607 ++ y610) y597 t574 t575).bind fun t617 => (some t617)) else (none)) = some r := by first | (rw [hy610]; with_reducible exact H) | (have H2_ := (Option.bind_some _ _).symm.trans H; rw [hy610]; with_reducible exact H2_) | (have H2_ := (Option.bind_some _ _).symm.trans H; with_reducible exact H2_) | with_reducible exact H | (rw [hy610]; exact H) | exact H
           have Ny610 := Aside0.mk hy610
           clear hy610
           by_cases c45 : y607.length + y610.length < 4398046511104
           ·rw [if_pos c45] at H
            have LMc45 := Aside0.mk c45
            clear c45
            obtain ⟨y614, hy614⟩ : ∃ y_ : List (S120), y_ = (y607 ++ y610) := ⟨_, rfl⟩
            replace H : ((spec_l3Put.f k y614 y597 t574 t575).bind fun t617 => (some t617)) = some r := by first | (rw [hy614]; with_reducible exact H) | (have H2_ := (Option.bind_some _ _).symm.trans H; rw [hy614]; with_reducible exact H2_) | (have H2_ := (Option.bind_some _ _).symm.trans H; with_reducible exact H2_) | with_reducible exact H | (rw [hy614]; exact H) | exact H
            have Ny614 := Aside0.mk hy614
            clear hy614
            replace H := Option.bind_eq_some_iff.mp H
            obtain ⟨t617, A460, H⟩ := H
            replace H : (some t617) = some r := H
            have A46 := Aside0.mk A460
            clear A460
            obtain rfl := Option.some.inj H
            go_enter Tryd.func89, Tryd.ntmps89
            try go_wp2_with (first | ((with_reducible refine gate_dst (N := 3) rfl ?_); refine box_event ?hg (N := 3) ?hd (cs := #[.int .i64 a1_0, .int .i64 a1_1, .int .i64 a1_2, .int .i64 a1_3, .string a1_4]) (t := 54) ?hr ?_; (case hd => rfl); (case hg => rfl); (case hr => first | (go_simp; done) | (go_simp; rfl)); intro gb565 hg w47 hbox hb; have n0_ := Aside0.mk (below_step (bel_) hb); have n1_ := Aside0.mk (hbox); have n2_ := Aside0.mk ((by rw [hg]; exact (below_size (bel_)) : w.heap.size ≤ gb565)); have n3_ := Aside0.mk ((by rw [hg]; exact (below_size (bel_)) : w.heap.size ≤ gb565)); clear HB; have HB := n0_; have BK565 := n1_; have GW565 := n2_; have GE565 := n3_; clear n0_ n1_ n2_ n3_; clear hb hbox hg; have hcz48_0 : w47.cell? ⟨gb565, 0, none⟩ = some (.int .i64 a1_0) := (blk_cell BK565.out 0).trans rfl; have hcz48_1 : w47.cell? ⟨gb565, 1, none⟩ = some (.int .i64 a1_1) := (blk_cell BK565.out 1).trans rfl; have hcz48_2 : w47.cell? ⟨gb565, 2, none⟩ = some (.int .i64 a1_2) := (blk_cell BK565.out 2).trans rfl; have hcz48_3 : w47.cell? ⟨gb565, 3, none⟩ = some (.int .i64 a1_3) := (blk_cell BK565.out 3).trans rfl; have hcz48_4 : w47.cell? ⟨gb565, 4, none⟩ = some (.string a1_4) := (blk_cell BK565.out 4).trans rfl; have hfz48_0 := blk_frozen BK565.out 0; have hfz48_1 := blk_frozen BK565.out 1; have hfz48_2 := blk_frozen BK565.out 2; have hfz48_3 := blk_frozen BK565.out 3; have hfz48_4 := blk_frozen BK565.out 4) | ((with_reducible refine gate_callee (f := 98) rfl ?_); refine gl_ 16 Tryd.func98 #[.slice A0 l0.length c0, .int .i64 a1_1] ?_; (with_reducible refine (spec_l2At.calls k _ _ l0 a1_1 t566 _ ?side1 ?side2 A3.out).mono ?_); (case side1 => exact cp_ HR0.out); (case side2 => exact HC0.out); rintro e w' ⟨rfl, ⟨nd, rfl⟩⟩; refine ⟨_, rfl, ?_⟩) | ((with_reducible refine gate_callee (f := 99) rfl ?_); refine gl_ 35 Tryd.func99 #[.slice A0 l0.length c0, .agg #[.int .i64 a1_0, .int .i64 a1_1, .int .i64 a1_2, .int .i64 a1_3, .string a1_4]] ?_; (with_reducible refine (spec_l3Where.calls k _ _ l0 a1_0 a1_1 a1_2 a1_3 a1_4 t574 t575 true _ ?side1 ?side2 A23.out).mono ?_); (case side1 => repeat (first | exact (Kd.C_below HR0.out (bel_)) | (with_reducible refine Kd.C_alloc ?_ _) | (with_reducible refine Kd.C_drewN ?_ _) | (with_reducible refine Kd.C_drew ?_))); (case side2 => exact HC0.out); rintro e w49 ⟨rfl, hb⟩; refine ⟨_, rfl, ?_⟩; replace HB := Aside0.mk (below_step (bel_) hb); replace BK565 := Aside0.mk (blk_below (g := gb565) (o := .cells #[.int .i64 a1_0, .int .i64 a1_1, .int .i64 a1_2, .int .i64 a1_3, .string a1_4] 54 (0, 0)) (bp_ BK565.out) hb); (try clear hb); (try clear hb2); (try clear hk); (try clear hi); have hcz50_0 : w49.cell? ⟨gb565, 0, none⟩ = some (.int .i64 a1_0) := (blk_cell BK565.out 0).trans rfl; have hcz50_1 : w49.cell? ⟨gb565, 1, none⟩ = some (.int .i64 a1_1) := (blk_cell BK565.out 1).trans rfl; have hcz50_2 : w49.cell? ⟨gb565, 2, none⟩ = some (.int .i64 a1_2) := (blk_cell BK565.out 2).trans rfl; have hcz50_3 : w49.cell? ⟨gb565, 3, none⟩ = some (.int .i64 a1_3) := (blk_cell BK565.out 3).trans rfl; have hcz50_4 : w49.cell? ⟨gb565, 4, none⟩ = some (.string a1_4) := (blk_cell BK565.out 4).trans rfl; have hfz50_0 := blk_frozen BK565.out 0; have hfz50_1 := blk_frozen BK565.out 1; have hfz50_2 := blk_frozen BK565.out 2; have hfz50_3 := blk_frozen BK565.out 3; have hfz50_4 := blk_frozen BK565.out 4) | ((with_reducible refine gate_callee (f := 101) rfl ?_); refine gl_ 59 Tryd.func101 #[.slice A0 l0.length c0, .int .i64 t566] ?_; (with_reducible refine (spec_l2End.calls k _ _ l0 t566 t589 _ ?side1 ?side2 A35.out).mono ?_); (case side1 => exact cp_ HR0.out); (case side2 => exact HC0.out); rintro e w' ⟨rfl, ⟨nd, rfl⟩⟩; refine ⟨_, rfl, ?_⟩) | ((with_reducible refine gate_dst (N := 60) rfl ?_); refine Kd.R_lit k120 _ 120 ?hg (N := 60) ?hd (xs := ([] : List (S120))) (inner := []) (ok := fun _ => True) (okp := fun _ => True) ?hr ?hp (fun _ hk => hk) trivial (Below.refl _ _) (Nat.le_refl _) (by simp) ?_; (case hd => rfl); (case hg => rfl); (case hr => first | (go_simp; done) | (go_simp; rfl)); (case hp => exact (Reps.none _ _)); intro v591 w51 ho52 hb hg_ hnew_; clear hg_ hnew_; (first | rw [← Ny590.out] at ho52 | (simp only [Int.reduceToNat] at ho52; rw [← Ny590.out] at ho52)); have HO592 := Aside0.mk (Kd.R_lower ho52 (below_size (bel_))); replace HB := Aside0.mk (below_step (bel_) hb); replace BK565 := Aside0.mk (blk_below (g := gb565) (o := .cells #[.int .i64 a1_0, .int .i64 a1_1, .int .i64 a1_2, .int .i64 a1_3, .string a1_4] 54 (0, 0)) (bp_ BK565.out) hb); clear hb ho52; have q53 : (t589 : Int) ≤ ((l0.length : Int) : Int) := od_; obtain ⟨i053, hi053, _, hsz53, _⟩ := info_parts info120; have hroom53 : l0.length ≤ c0 := HC0.out; have hC53 : Kd.C k120 _ A0 l0.length l0 := HR0.out; have ql53 : (t566 : Int) ≤ (t589 : Int) := od_; have q053 : (0 : Int) ≤ (t566 : Int) := od_; have hcut53 := cut_mid (P := Tryd.prog) 107 120 .i64 .i64 Tryd.underlying107 hi053 3 hsz53 A0 l0.length c0 t566 t589 q053 ql53 q53 hroom53; have hr53 := Kd.C_mid (lo := (t566 : Int).toNat) (hi := (t589 : Int).toNat) (c := c0) hC53 (by omega) (by omega) hroom53; obtain ⟨A53, hA53⟩ : ∃ A1, A1 = (if c0 = (t566 : Int).toNat then A0 else (A0 : Option Addr).map (·.add ((t566 : Int).toNat * 3))) := ⟨_, rfl⟩; obtain ⟨c53, hc53⟩ : ∃ c1, c1 = c0 - (t566 : Int).toNat := ⟨_, rfl⟩; have hy53 : y593.length = (t589 : Int).toNat - (t566 : Int).toNat := (by rw [Ny593.out, List.length_drop, List.length_take] <;> omega); rw [show ((l0).take (t589 : Int).toNat).drop (t566 : Int).toNat = y593 from Ny593.out.symm] at hr53; replace hr53 : Kd.C k120 _ A53 y593.length y593 := (by rw [hA53]; exact hr53); rw [← hy53, ← hA53, ← hc53] at hcut53; have HR596 := Aside0.mk hr53; have HC596 := Aside0.mk (show y593.length ≤ c53 from by rw [hy53, hc53]; exact Nat.sub_le_sub_right (Nat.le_trans (by omega) hroom53) _); clear hr53 hC53 hroom53 hi053 hsz53 hc53; have KY53 := Aside0.mk hy53; have KA53 := Aside0.mk hA53; clear hy53 hA53; replace q53 := eq_true q53) | ((with_reducible refine gate_builtin (b := .append) (xs := #[.tmp 60, .tmp 64]) rfl ?_); at_builtin; refine Kd.R_append_rows k120 (w0 := w) w.heap.size rfl (.tmp 60) (.tmp 64) 107 120 (.agg #[(.int .i64 0), (.int .i64 0), (.string ⟨#[]⟩)]) 32 rfl Tryd.underlying107 info120 rfl (by decide) (by omega) v591 y590 y593 _ _ _ (fun _ => True) (fun _ => False) rfl rfl ?aO ?aR (fun _ _ h => h) (fun _ h => h.elim) ?aF ?aB ?aS ?aL ?_; (case aR => repeat (first | exact (Kd.C_below HR596.out HB.out) | (with_reducible refine Kd.C_alloc ?_ _) | (with_reducible refine Kd.C_drewN ?_ _) | (with_reducible refine Kd.C_drew ?_))); (case aB => exact (bel_)); (case aF => exact (fun _ _ => trivial)); (case aO => exact (rp_ HO592.out)); (case aS => exact (below_size (bel_))); (case aL => have := LMc39.out; omega); intro v598 w54 ho hb hg hat; rw [← Ny597.out] at ho; replace BK565 := Aside0.mk (blk_grown (g := gb565) (o := .cells #[.int .i64 a1_0, .int .i64 a1_1, .int .i64 a1_2, .int .i64 a1_3, .string a1_4] 54 (0, 0)) (bp_ BK565.out) hg (Kd.R_ne HO592.out BK565.out (by decide))); replace HB := Aside0.mk (hb); have HO599 := Aside0.mk (ho); clear HO592; clear ho hb hg hat))
            have n0_ := Aside0.mk (Kd.R_drew HO599.out)
            have n1_ := Aside0.mk (blk_drew BK565.out)
            have n2_ := Aside0.mk (below_drew1 HB.out)
            clear HO599
            clear BK565
            clear HB
            have HO599 := n0_
            have BK565 := n1_
            have HB := n2_
            clear n0_ n1_ n2_
            have q56 : (t566 : Int) ≤ ((l0.length : Int) : Int) := od_
            obtain ⟨i056, hi056, _, hsz56, _⟩ := info_parts info120
            have hroom56 : l0.length ≤ c0 := HC0.out
            have hC56 : Kd.C k120 _ A0 l0.length l0 := HR0.out
            have hcut56 := cut_to (P := Tryd.prog) 107 120 .i64 Tryd.underlying107 hi056 A0 l0.length c0 t566 (od_) q56 hroom56
            have hr56 := Kd.C_take (m := (t566 : Int).toNat) hC56 (by omega)
            have hy56 : y603.length = (t566 : Int).toNat := (by rw [Ny603.out, List.length_take]; omega)
            rw [← Ny603.out] at hr56
            rw [← hy56] at hcut56
            have HR606 := Aside0.mk hr56
            have HC606 := Aside0.mk (show y603.length ≤ c0 from by omega)
            clear hr56 hC56 hroom56 hi056 hsz56
            have KY56 := Aside0.mk hy56
            clear hy56
            replace q56 := eq_true q56
            have q57 : (t589 : Int) ≤ ((l0.length : Int) : Int) := od_
            obtain ⟨i057, hi057, _, hsz57, _⟩ := info_parts info120
            have hroom57 : l0.length ≤ c0 := HC0.out
            have hC57 : Kd.C k120 _ A0 l0.length l0 := HR0.out
            have q057 : (0 : Int) ≤ (t589 : Int) := od_
            have hcut57 := cut_from (P := Tryd.prog) 107 120 .i64 Tryd.underlying107 hi057 3 hsz57 A0 l0.length c0 t589 q057 q57
            have hr57 := Kd.C_drop (m := (t589 : Int).toNat) (c := c0) hC57 (by omega) hroom57
            obtain ⟨A57, hA57⟩ : ∃ A1, A1 = (if c0 = (t589 : Int).toNat then A0 else (A0 : Option Addr).map (·.add ((t589 : Int).toNat * 3))) := ⟨_, rfl⟩
            obtain ⟨c57, hc57⟩ : ∃ c1, c1 = c0 - (t589 : Int).toNat := ⟨_, rfl⟩
            have hy57 : y610.length = l0.length - (t589 : Int).toNat := (by rw [Ny610.out, List.length_drop] <;> omega)
            rw [show (l0).drop (t589 : Int).toNat = y610 from Ny610.out.symm] at hr57
            replace hr57 : Kd.C k120 _ A57 y610.length y610 := (by rw [hA57]; exact hr57)
            rw [← hy57, ← hA57, ← hc57] at hcut57
            have HR613 := Aside0.mk hr57
            have HC613 := Aside0.mk (show y610.length ≤ c57 from by rw [hy57, hc57]; exact Nat.sub_le_sub_right hroom57 _)
            clear hr57 hC57 hroom57 hi057 hsz57 hc57
            have KY57 := Aside0.mk hy57
            have KA57 := Aside0.mk hA57
            clear hy57 hA57
            replace q57 := eq_true q57
            refine start_ (n := 10) (S := fun w' => True) (ds := []) #[false, false, false, false, false, false, false, false, false, false] (by kernel_rfl) rfl rfl trivial (fun hHeld => ?_); refine with_tabW spec_l3Do.tab14 spec_l3Do.bits14 (fun HT_ HW_ => ?_)
            generalize w54.drew = w55 at HO599 BK565 HB HR606 HR613 hHeld ⊢
            refine pa_ 1 67 ?_
            refine pa_ 2 68 ?_
            refine pa_ 3 69 ?_
            refine pa_ 5 71 ?_
            refine pa_ 6 72 ?_
            refine pa_ 7 73 ?_
            refine on_ 0 66 (fun K hK => ?_)
            refine Kd.R_lit_step k120 _ 120 ?hg (N := 66) ?hd (xs := ([] : List (S120))) (inner := []) (ok := fun _ => True) (okp := fun _ => True) ?hr ?hp (fun _ hk => hk) trivial (Below.refl _ _) (Nat.le_refl _) (by simp) ?_; (case hd => rfl); (case hg => rfl); (case hr => first | (go_simp; done) | (go_simp; rfl)); (case hp => exact (Reps.none _ _))
            intro v601 w58 ho59 hb hg_ hnew_
            clear hg_ hnew_
            (first | rw [← Ny600.out] at ho59 | (simp only [Int.reduceToNat] at ho59; rw [← Ny600.out] at ho59))
            have n0_ := Aside0.mk (Kd.R_elder' (rp_ HO599.out) (Kd.R_base ho59) hb)
            have n1_ := Aside0.mk (Kd.R_lower (Kd.R_new' ho59 (Kd.R_lt (rp_ HO599.out))) (below_size (bel_)))
            have n2_ := Aside0.mk (blk_below (g := gb565) (o := .cells #[.int .i64 a1_0, .int .i64 a1_1, .int .i64 a1_2, .int .i64 a1_3, .string a1_4] 54 (0, 0)) (bp_ BK565.out) hb)
            have n3_ := Aside0.mk (below_step (bel_) hb)
            clear HO599
            clear BK565
            clear HB
            have HO599 := n0_
            have HO602 := n1_
            have BK565 := n2_
            have HB := n3_
            clear n0_ n1_ n2_ n3_
            clear hb ho59
            refine hK.out _ _ trivial (fun hHeld => ?_)
            clear hK K
            refine no_ ?_
            refine on_ 4 70 (fun K hK => ?_)
            refine Kd.R_append_rows_step k120 (w0 := w) w.heap.size (by rfl) (.tmp 66) (.tmp 69) 107 120 (.agg #[(.int .i64 0), (.int .i64 0), (.string ⟨#[]⟩)]) 32 rfl Tryd.underlying107 info120 rfl (by decide) (by omega) v601 y600 y603 _ _ _ (fun k_ => some k_ ≠ (v598 : Value).ownBlock) (fun _ => False) rfl rfl ?aO ?aR (fun _ _ h => h) (fun _ h => h.elim) ?aF ?aB ?aS ?aL ?_
            (case aR => repeat (first | exact (Kd.C_below HR606.out HB.out) | (with_reducible refine Kd.C_alloc ?_ _) | (with_reducible refine Kd.C_drewN ?_ _) | (with_reducible refine Kd.C_drew ?_)))
            (case aB => exact (bel_))
            (case aF => exact (fun k_ hk => Kd.fresh' (Kd.R_lt (rp_ HO599.out)) k_ hk))
            (case aO => exact (by (with_reducible repeat (first | apply Kd.R_alloc | apply Kd.R_drewN | apply Kd.R_drew)); exact Kd.R_mono HO602.out (fun _ hk => hk.2)))
            (case aS => exact (below_size (bel_)))
            (case aL => have := LMc42.out; omega)
            intro v608 w60 ho hb hg hat
            rw [← Ny607.out] at ho
            have n0_ := Aside0.mk (blk_grown (g := gb565) (o := .cells #[.int .i64 a1_0, .int .i64 a1_1, .int .i64 a1_2, .int .i64 a1_3, .string a1_4] 54 (0, 0)) (bp_ BK565.out) hg (Kd.R_ne HO602.out BK565.out (by decide)))
            have n1_ := Aside0.mk (Kd.R_after (ok := (fun _ => True)) (rp_ HO599.out) hg hat)
            have n2_ := Aside0.mk (hb)
            have n3_ := Aside0.mk (ho)
            clear BK565
            clear HO599
            clear HB
            clear HO602
            have BK565 := n0_
            have HO599 := n1_
            have HB := n2_
            have HO609 := n3_
            clear n0_ n1_ n2_ n3_
            clear ho hb hg hat
            refine hK.out _ _ trivial (fun hHeld => ?_)
            clear hK K
            refine no_ ?_
            refine on_ 8 74 (fun K hK => ?_)
            refine Kd.R_append_rows_step k120 (w0 := w) w.heap.size (by rfl) (.tmp 70) (.tmp 73) 107 120 (.agg #[(.int .i64 0), (.int .i64 0), (.string ⟨#[]⟩)]) 32 rfl Tryd.underlying107 info120 rfl (by decide) (by omega) v608 y607 y610 _ _ _ (fun k_ => some k_ ≠ (v598 : Value).ownBlock) (fun _ => False) rfl rfl ?aO ?aR (fun _ _ h => h) (fun _ h => h.elim) ?aF ?aB ?aS ?aL ?_
            (case aR => repeat (first | exact (Kd.C_below HR613.out HB.out) | (with_reducible refine Kd.C_alloc ?_ _) | (with_reducible refine Kd.C_drewN ?_ _) | (with_reducible refine Kd.C_drew ?_)))
            (case aB => exact (bel_))
            (case aF => exact (fun k_ hk => Kd.fresh' (Kd.R_lt (rp_ HO599.out)) k_ hk))
            (case aO => exact (rp_ HO609.out))
            (case aS => exact (below_size (bel_)))
            (case aL => have := LMc45.out; omega)
            intro v615 w61 ho hb hg hat
            rw [← Ny614.out] at ho
            have n0_ := Aside0.mk (blk_grown (g := gb565) (o := .cells #[.int .i64 a1_0, .int .i64 a1_1, .int .i64 a1_2, .int .i64 a1_3, .string a1_4] 54 (0, 0)) (bp_ BK565.out) hg (Kd.R_ne HO609.out BK565.out (by decide)))
            have n1_ := Aside0.mk (Kd.R_after (ok := (fun _ => True)) (rp_ HO599.out) hg hat)
            have n2_ := Aside0.mk (hb)
            have n3_ := Aside0.mk (ho)
            clear BK565
            clear HO599
            clear HB
            clear HO609
            have BK565 := n0_
            have HO599 := n1_
            have HB := n2_
            have HO616 := n3_
            clear n0_ n1_ n2_ n3_
            clear ho hb hg hat
            refine hK.out _ _ trivial (fun hHeld => ?_)
            clear hK K
            refine no_ ?_
            refine pa_ 9 12 ?_
            refine done_ (done_of HT_.out (by kernel_rfl)) ?_
            obtain ⟨Ao62, co62, eo62⟩ := Kd.R_slice HO616.out
            subst eo62
            obtain ⟨Ao63, co63, eo63⟩ := Kd.R_slice HO599.out
            subst eo63
            try go_wp2_with (first | ((with_reducible refine gate_callee (f := 100) rfl ?_); refine gl_ 79 Tryd.func100 #[.slice Ao62 y614.length co62, .slice Ao63 y597.length co63, .int .i64 t574, .int .i64 t575] ?_; (with_reducible refine (spec_l3Put.calls k _ _ y614 _ _ y597 t574 t575 t617 _ ?side1 ?side2 ?side3 ?side4 A46.out).mono ?_); (case side1 => repeat (first | exact (Kd.R_reads' HO616.out).2.2 | (with_reducible refine Kd.C_alloc ?_ _) | (with_reducible refine Kd.C_drewN ?_ _) | (with_reducible refine Kd.C_drew ?_))); (case side2 => exact (Kd.R_reads' HO616.out).2.1); (case side3 => repeat (first | exact (Kd.R_reads' HO599.out).2.2 | (with_reducible refine Kd.C_alloc ?_ _) | (with_reducible refine Kd.C_drewN ?_ _) | (with_reducible refine Kd.C_drew ?_))); (case side4 => exact (Kd.R_reads' HO599.out).2.1); rintro e w64 ⟨v618, rfl, ho0, hb⟩; refine ⟨_, rfl, ?_⟩; have HO619 := Aside0.mk (Kd.R_lower (Kd.R_new' (Kd.R_new' ho0 (Kd.R_lt (rp_ HO599.out))) (Kd.R_lt (rp_ HO616.out))) (below_size (bel_))); replace HO599 := Aside0.mk (Kd.R_elder' (rp_ HO599.out) (Kd.R_base ho0) hb); replace HO616 := Aside0.mk (Kd.R_elder' (rp_ HO616.out) (Kd.R_base ho0) hb); replace HB := Aside0.mk (below_step (bel_) hb); replace BK565 := Aside0.mk (blk_below (g := gb565) (o := .cells #[.int .i64 a1_0, .int .i64 a1_1, .int .i64 a1_2, .int .i64 a1_3, .string a1_4] 54 (0, 0)) (bp_ BK565.out) hb); (try clear hb); (try clear hb2); (try clear hk); (try clear hi); (try clear ho0)))
            go_ret
            exact ⟨_, fi_, by (with_reducible repeat (first | apply Kd.R_alloc | apply Kd.R_drewN | apply Kd.R_drew)); exact Kd.R_mono HO619.out (fun _ hk => trivial), bel_⟩
           ·rw [if_neg c45] at H
            exact absurd H (by simp)
          ·rw [if_neg c43] at H
           exact absurd H (by simp)
         ·rw [if_neg c42] at H
          exact absurd H (by simp)
        ·rw [if_neg c41] at H
         exact absurd H (by simp)
       ·rw [if_neg c39] at H
        exact absurd H (by simp)
      ·rw [if_neg c38] at H
       exact absurd H (by simp)
     ·rw [if_neg c37] at H
      exact absurd H (by simp)
    ·rw [if_neg c36] at H
     exact absurd H (by simp)
  ·replace c24 := Bool.eq_false_iff.mpr c24
   subst c24
   have H1 : ((some (([] : List (S120)) : List (S120))).bind fun y577 => (if y577.length + l0.length < 4398046511104 then (some (y577 ++ l0)) else (none))) = some r := by rw [if_neg (show ¬ (false = true) by decide)] at H; exact H
   clear H
   have H := H1
   clear H1
   obtain ⟨y577, hy577⟩ : ∃ y_ : List (S120), y_ = (([] : List (S120))) := ⟨_, rfl⟩
   replace H : (if y577.length + l0.length < 4398046511104 then (some (y577 ++ l0)) else (none)) = some r := by first | (rw [hy577]; with_reducible exact H) | (have H2_ := (Option.bind_some _ _).symm.trans H; rw [hy577]; with_reducible exact H2_) | (have H2_ := (Option.bind_some _ _).symm.trans H; with_reducible exact H2_) | with_reducible exact H | (rw [hy577]; exact H) | exact H
   have Ny577 := Aside0.mk hy577
   clear hy577
   by_cases c65 : y577.length + l0.length < 4398046511104
   ·rw [if_pos c65] at H
    have LMc65 := Aside0.mk c65
    clear c65
    obtain ⟨y580, hy580⟩ : ∃ y_ : List (S120), y_ = (y577 ++ l0) := ⟨_, rfl⟩
    replace H : (some y580) = some r := by first | (rw [hy580]; with_reducible exact H) | (have H2_ := (Option.bind_some _ _).symm.trans H; rw [hy580]; with_reducible exact H2_) | (have H2_ := (Option.bind_some _ _).symm.trans H; with_reducible exact H2_) | with_reducible exact H | (rw [hy580]; exact H) | exact H
    have Ny580 := Aside0.mk hy580
    clear hy580
    obtain rfl := Option.some.inj H
    go_enter Tryd.func89, Tryd.ntmps89
    go_wp2_with (first | ((with_reducible refine gate_dst (N := 3) rfl ?_); refine box_event ?hg (N := 3) ?hd (cs := #[.int .i64 a1_0, .int .i64 a1_1, .int .i64 a1_2, .int .i64 a1_3, .string a1_4]) (t := 54) ?hr ?_; (case hd => rfl); (case hg => rfl); (case hr => first | (go_simp; done) | (go_simp; rfl)); intro gb565 hg w66 hbox hb; have n0_ := Aside0.mk (below_step (bel_) hb); have n1_ := Aside0.mk (hbox); have n2_ := Aside0.mk ((by rw [hg]; exact (below_size (bel_)) : w.heap.size ≤ gb565)); have n3_ := Aside0.mk ((by rw [hg]; exact (below_size (bel_)) : w.heap.size ≤ gb565)); clear HB; have HB := n0_; have BK565 := n1_; have GW565 := n2_; have GE565 := n3_; clear n0_ n1_ n2_ n3_; clear hb hbox hg; have hcz67_0 : w66.cell? ⟨gb565, 0, none⟩ = some (.int .i64 a1_0) := (blk_cell BK565.out 0).trans rfl; have hcz67_1 : w66.cell? ⟨gb565, 1, none⟩ = some (.int .i64 a1_1) := (blk_cell BK565.out 1).trans rfl; have hcz67_2 : w66.cell? ⟨gb565, 2, none⟩ = some (.int .i64 a1_2) := (blk_cell BK565.out 2).trans rfl; have hcz67_3 : w66.cell? ⟨gb565, 3, none⟩ = some (.int .i64 a1_3) := (blk_cell BK565.out 3).trans rfl; have hcz67_4 : w66.cell? ⟨gb565, 4, none⟩ = some (.string a1_4) := (blk_cell BK565.out 4).trans rfl; have hfz67_0 := blk_frozen BK565.out 0; have hfz67_1 := blk_frozen BK565.out 1; have hfz67_2 := blk_frozen BK565.out 2; have hfz67_3 := blk_frozen BK565.out 3; have hfz67_4 := blk_frozen BK565.out 4) | ((with_reducible refine gate_callee (f := 98) rfl ?_); refine gl_ 16 Tryd.func98 #[.slice A0 l0.length c0, .int .i64 a1_1] ?_; (with_reducible refine (spec_l2At.calls k _ _ l0 a1_1 t566 _ ?side1 ?side2 A3.out).mono ?_); (case side1 => exact cp_ HR0.out); (case side2 => exact HC0.out); rintro e w' ⟨rfl, ⟨nd, rfl⟩⟩; refine ⟨_, rfl, ?_⟩) | ((with_reducible refine gate_callee (f := 99) rfl ?_); refine gl_ 35 Tryd.func99 #[.slice A0 l0.length c0, .agg #[.int .i64 a1_0, .int .i64 a1_1, .int .i64 a1_2, .int .i64 a1_3, .string a1_4]] ?_; (with_reducible refine (spec_l3Where.calls k _ _ l0 a1_0 a1_1 a1_2 a1_3 a1_4 t574 t575 false _ ?side1 ?side2 A23.out).mono ?_); (case side1 => repeat (first | exact (Kd.C_below HR0.out (bel_)) | (with_reducible refine Kd.C_alloc ?_ _) | (with_reducible refine Kd.C_drewN ?_ _) | (with_reducible refine Kd.C_drew ?_))); (case side2 => exact HC0.out); rintro e w68 ⟨rfl, hb⟩; refine ⟨_, rfl, ?_⟩; replace HB := Aside0.mk (below_step (bel_) hb); replace BK565 := Aside0.mk (blk_below (g := gb565) (o := .cells #[.int .i64 a1_0, .int .i64 a1_1, .int .i64 a1_2, .int .i64 a1_3, .string a1_4] 54 (0, 0)) (bp_ BK565.out) hb); (try clear hb); (try clear hb2); (try clear hk); (try clear hi)) | ((with_reducible refine gate_dst (N := 41) rfl ?_); refine Kd.R_lit k120 _ 120 ?hg (N := 41) ?hd (xs := ([] : List (S120))) (inner := []) (ok := fun _ => True) (okp := fun _ => True) ?hr ?hp (fun _ hk => hk) trivial (Below.refl _ _) (Nat.le_refl _) (by simp) ?_; (case hd => rfl); (case hg => rfl); (case hr => first | (go_simp; done) | (go_simp; rfl)); (case hp => exact (Reps.none _ _)); intro v578 w69 ho70 hb hg_ hnew_; clear hg_ hnew_; (first | rw [← Ny577.out] at ho70 | (simp only [Int.reduceToNat] at ho70; rw [← Ny577.out] at ho70)); have HO579 := Aside0.mk (Kd.R_lower ho70 (below_size (bel_))); replace HB := Aside0.mk (below_step (bel_) hb); replace BK565 := Aside0.mk (blk_below (g := gb565) (o := .cells #[.int .i64 a1_0, .int .i64 a1_1, .int .i64 a1_2, .int .i64 a1_3, .string a1_4] 54 (0, 0)) (bp_ BK565.out) hb); clear hb ho70) | ((with_reducible refine gate_builtin (b := .append) (xs := #[.tmp 41, .tmp 42]) rfl ?_); at_builtin; refine Kd.R_append_rows k120 (w0 := w) w.heap.size rfl (.tmp 41) (.tmp 42) 107 120 (.agg #[(.int .i64 0), (.int .i64 0), (.string ⟨#[]⟩)]) 32 rfl Tryd.underlying107 info120 rfl (by decide) (by omega) v578 y577 l0 _ _ _ (fun _ => True) (fun _ => False) rfl rfl ?aO ?aR (fun _ _ h => h) (fun _ h => h.elim) ?aF ?aB ?aS ?aL ?_; (case aR => repeat (first | exact (Kd.C_below HR0.out HB.out) | (with_reducible refine Kd.C_alloc ?_ _) | (with_reducible refine Kd.C_drewN ?_ _) | (with_reducible refine Kd.C_drew ?_))); (case aB => exact (bel_)); (case aF => exact (fun _ _ => trivial)); (case aO => exact (rp_ HO579.out)); (case aS => exact (below_size (bel_))); (case aL => have := LMc65.out; omega); intro v581 w71 ho hb hg hat; rw [← Ny580.out] at ho; replace BK565 := Aside0.mk (blk_grown (g := gb565) (o := .cells #[.int .i64 a1_0, .int .i64 a1_1, .int .i64 a1_2, .int .i64 a1_3, .string a1_4] 54 (0, 0)) (bp_ BK565.out) hg (Kd.R_ne HO579.out BK565.out (by decide))); replace HB := Aside0.mk (hb); have HO582 := Aside0.mk (ho); clear HO579; clear ho hb hg hat))
    go_ret
    exact ⟨_, fi_, by (with_reducible repeat (first | apply Kd.R_alloc | apply Kd.R_drewN | apply Kd.R_drew)); exact HO582.out, bel_⟩
   ·rw [if_neg c65] at H
    exact absurd H (by simp)

end Go.Proofs.YtnclcbjagleoeaaDoor.P
namespace Go.Proofs.YtnclcbjagleoeaaDoor.P
open Go.RowKit Go.Proofs.YtnclcbjagleoeaaDoorW.PrintWords Go.Proofs.YtnclcbjagleoeaaDoorW.PrintLast
set_option linter.unusedVariables false
set_option linter.unusedSimpArgs false
mutual
def spec_l71Op.j1 : Nat → List Int → Int → Int → Int → Int → Int → ByteArray → Option (Int × Int × Int × Int × ByteArray × Int)
 | 0, _, _, _, _, _, _, _ => none
 | k + 1, x1000, x1001, x626000, x626001, x626002, x626003, x626004 => (spec_l6Rd_pick.f k x1000 x1001 30).bind fun bt644 => (if bt644.1 = 0 then ((spec_l6Rd_pick.f k x1000 bt644.2 5).bind fun bt646 => (some (bt646.1, x626001, x626002, x626003, x626004, bt646.2))) else (if bt644.1 = 1 then ((spec_l6Rd_pick.f k x1000 bt644.2 50).bind fun bt648 => (some (x626000, bt648.1, x626002, x626003, x626004, bt648.2))) else (if bt644.1 = 2 then ((spec_l6Rd_pick.f k x1000 bt644.2 50).bind fun bt650 => (some (x626000, x626001, bt650.1, x626003, x626004, bt650.2))) else (if bt644.1 = 3 then ((spec_l6Rd_pick.f k x1000 bt644.2 50).bind fun bt652 => (some (x626000, x626001, x626002, bt652.1, x626004, bt652.2))) else (some (x626000, x626001, x626002, x626003, x626004, bt644.2))))))
def spec_l71Op.j0 : Nat → Int → Int → Int → Bool → List Int → Int → Int → Int → Int → Int → ByteArray → Option (Int × Int × Int × Int × ByteArray × Int)
 | 0, _, _, _, _, _, _, _, _, _, _, _ => none
 | k + 1, x4, x5, x26, x27, x1000, x1001, x626000, x626001, x626002, x626003, x626004 => if x27 = true then (spec_l71Op.j1 k x1000 x1001 1 x626001 x4 x5 x626004) else (if x26 = 2 then (spec_l71Op.j1 k x1000 x1001 3 x626001 x4 x5 (⟨#[]⟩ : ByteArray)) else (if x26 = 3 then (spec_l71Op.j1 k x1000 x1001 3 x626001 x4 x5 (⟨#[]⟩ : ByteArray)) else (spec_l71Op.j1 k x1000 x1001 x626000 x626001 x626002 x626003 x626004)))
end
def spec_l71Op.f (k : Nat) (s0_0 : List Int) (s0_1 : Int) : Option (Int × Int × Int × Int × ByteArray × Int) := (spec_l71Id.f k s0_0 s0_1).bind fun bt621 => ((spec_l71Text.f k s0_0 bt621.2).bind fun bt623 => ((spec_l71Id.f k s0_0 bt623.2).bind fun bt626 => ((some (([1, 1, bt626.1, 2, 3] : List Int) : List Int)).bind fun y628 => ((spec_l6Rd_pick.f k s0_0 bt626.2 5).bind fun bt631 => (if 0 ≤ bt631.1 then (if bt631.1 < (y628.length : Int) then ((spec_l71Id.f k s0_0 bt631.2).bind fun bt634 => ((some (([0, bt634.1] : List Int) : List Int)).bind fun y636 => ((spec_l6Rd_pick.f k s0_0 bt634.2 2).bind fun bt639 => (if 0 ≤ bt639.1 then (if bt639.1 < (y636.length : Int) then ((spec_l6Rd_pick.f k s0_0 bt639.2 5).bind fun bt642 => (if bt642.1 = 0 then (spec_l71Op.j0 k (rd y628 bt631.1) (rd y636 bt639.1) bt642.1 (bt642.1 == 0) s0_0 bt642.2 2 bt621.1 0 0 bt623.1) else (spec_l71Op.j0 k (rd y628 bt631.1) (rd y636 bt639.1) bt642.1 (bt642.1 == 1) s0_0 bt642.2 2 bt621.1 0 0 bt623.1))) else (none)) else (none))))) else (none)) else (none))))))
theorem spec_l71Op.mono_l : ∀ k, (∀ y0 y1 y2 y3 y4 y5 y6, LeO (spec_l71Op.j1 k y0 y1 y2 y3 y4 y5 y6) (spec_l71Op.j1 (k + 1) y0 y1 y2 y3 y4 y5 y6)) ∧ (∀ y0 y1 y2 y3 y4 y5 y6 y7 y8 y9 y10, LeO (spec_l71Op.j0 k y0 y1 y2 y3 y4 y5 y6 y7 y8 y9 y10) (spec_l71Op.j0 (k + 1) y0 y1 y2 y3 y4 y5 y6 y7 y8 y9 y10))
 | 0 => ⟨fun _ _ _ _ _ _ _ r h => by simp [spec_l71Op.j1] at h, fun _ _ _ _ _ _ _ _ _ _ _ r h => by simp [spec_l71Op.j0] at h⟩
 | k + 1 => by
  obtain ⟨ih0, ih1⟩ := spec_l71Op.mono_l k
  refine ⟨?_, ?_⟩
  ·intro y0 y1 y2 y3 y4 y5 y6
   unfold spec_l71Op.j1
   repeat' first
   | (with_reducible exact ih0 _ _ _ _ _ _ _)
   | (with_reducible exact ih1 _ _ _ _ _ _ _ _ _ _ _)
   | (with_reducible exact spec_l6Rd_pick.mono _ _ _ _)
   | (with_reducible exact spec_l71Id.mono _ _ _)
   | (with_reducible exact spec_l71Text.mono _ _ _)
   | (with_reducible exact LeO.refl _)
   | (with_reducible exact LeO.none _)
   | (with_reducible refine LeO.ite ?_ ?_)
   | (with_reducible refine LeO.bind ?_ (fun _ => ?_))
   | exact ih0 _ _ _ _ _ _ _
   | exact ih1 _ _ _ _ _ _ _ _ _ _ _
   | exact spec_l6Rd_pick.mono _ _ _ _
   | exact spec_l71Id.mono _ _ _
   | exact spec_l71Text.mono _ _ _
   | exact LeO.none _
   | refine LeO.ite ?_ ?_
   | refine LeO.bind ?_ (fun _ => ?_)
  ·intro y0 y1 y2 y3 y4 y5 y6 y7 y8 y9 y10
   unfold spec_l71Op.j0
   repeat' first
   | (with_reducible exact ih0 _ _ _ _ _ _ _)
   | (with_reducible exact ih1 _ _ _ _ _ _ _ _ _ _ _)
   | (with_reducible exact spec_l6Rd_pick.mono _ _ _ _)
   | (with_reducible exact spec_l71Id.mono _ _ _)
   | (with_reducible exact spec_l71Text.mono _ _ _)
   | (with_reducible exact LeO.refl _)
   | (with_reducible exact LeO.none _)
   | (with_reducible refine LeO.ite ?_ ?_)
   | (with_reducible refine LeO.bind ?_ (fun _ => ?_))
   | exact ih0 _ _ _ _ _ _ _
   | exact ih1 _ _ _ _ _ _ _ _ _ _ _
   | exact spec_l6Rd_pick.mono _ _ _ _
   | exact spec_l71Id.mono _ _ _
   | exact spec_l71Text.mono _ _ _
   | exact LeO.none _
   | refine LeO.ite ?_ ?_
   | refine LeO.bind ?_ (fun _ => ?_)
theorem spec_l71Op.mono : ∀ a0 a1 k, LeO (spec_l71Op.f k a0 a1) (spec_l71Op.f (k + 1) a0 a1) := by
 intro a0 a1 k
 obtain ⟨ih0, ih1⟩ := spec_l71Op.mono_l k
 unfold spec_l71Op.f
 repeat' first
   | (with_reducible exact ih0 _ _ _ _ _ _ _)
   | (with_reducible exact ih1 _ _ _ _ _ _ _ _ _ _ _)
   | (with_reducible exact spec_l6Rd_pick.mono _ _ _ _)
   | (with_reducible exact spec_l71Id.mono _ _ _)
   | (with_reducible exact spec_l71Text.mono _ _ _)
   | (with_reducible exact LeO.refl _)
   | (with_reducible exact LeO.none _)
   | (with_reducible refine LeO.ite ?_ ?_)
   | (with_reducible refine LeO.bind ?_ (fun _ => ?_))
   | exact ih0 _ _ _ _ _ _ _
   | exact ih1 _ _ _ _ _ _ _ _ _ _ _
   | exact spec_l6Rd_pick.mono _ _ _ _
   | exact spec_l71Id.mono _ _ _
   | exact spec_l71Text.mono _ _ _
   | exact LeO.none _
   | refine LeO.ite ?_ ?_
   | refine LeO.bind ?_ (fun _ => ?_)
set_option maxHeartbeats 8000000 in
set_option maxRecDepth 100000 in
theorem spec_l71Op.calls (k : Nat) (g : Nat) (s0_0 : List Int) (s0_1 : Int) (r1 : Int) (r2 : Int) (r3 : Int) (r4 : Int) (r5 : ByteArray) (r6 : Int) (w0 w : World) (hI : IsS96 w0 w g s0_0 s0_1) (hB : Below w0.heap.size w0 w) (h : spec_l71Op.f k s0_0 s0_1 = some (r1, r2, r3, r4, r5, r6)) :
  Calls Tryd.prog 90 #[.pointer (some ⟨g, 0, none⟩)] w fun e w' => e = .returned (.agg #[.int .i64 r1, .int .i64 r2, .int .i64 r3, .int .i64 r4, .string r5]) ∧ IsS96 w0 w' g s0_0 r6 ∧ Below w0.heap.size w0 w' ∧ KeepBut w w' g none := by
 have hu54 := Tryd.underlying54
 have HI0 := Aside0.mk hI
 have HK := Aside0.mk (KeepBut.refl w g none)
 have HL := Aside0.mk hB.size
 clear hI
 have HW0 := Aside0.mk hB.size
 have HB := Aside0.mk hB
 clear hB
 have H : ((spec_l71Id.f k s0_0 s0_1).bind fun bt621 => ((spec_l71Text.f k s0_0 bt621.2).bind fun bt623 => ((spec_l71Id.f k s0_0 bt623.2).bind fun bt626 => ((some (([1, 1, bt626.1, 2, 3] : List Int) : List Int)).bind fun y628 => ((spec_l6Rd_pick.f k s0_0 bt626.2 5).bind fun bt631 => (if 0 ≤ bt631.1 then (if bt631.1 < (y628.length : Int) then ((spec_l71Id.f k s0_0 bt631.2).bind fun bt634 => ((some (([0, bt634.1] : List Int) : List Int)).bind fun y636 => ((spec_l6Rd_pick.f k s0_0 bt634.2 2).bind fun bt639 => (if 0 ≤ bt639.1 then (if bt639.1 < (y636.length : Int) then ((spec_l6Rd_pick.f k s0_0 bt639.2 5).bind fun bt642 => (if bt642.1 = 0 then (spec_l71Op.j0 k (rd y628 bt631.1) (rd y636 bt639.1) bt642.1 (bt642.1 == 0) s0_0 bt642.2 2 bt621.1 0 0 bt623.1) else (spec_l71Op.j0 k (rd y628 bt631.1) (rd y636 bt639.1) bt642.1 (bt642.1 == 1) s0_0 bt642.2 2 bt621.1 0 0 bt623.1))) else (none)) else (none))))) else (none)) else (none))))))) = some (r1, r2, r3, r4, r5, r6) := h
 clear h
 replace H := Option.bind_eq_some_iff.mp H
 obtain ⟨⟨t621, t622⟩, A20, H⟩ := H
 replace H : ((spec_l71Text.f k s0_0 t622).bind fun bt623 => ((spec_l71Id.f k s0_0 bt623.2).bind fun bt626 => ((some (([1, 1, bt626.1, 2, 3] : List Int) : List Int)).bind fun y628 => ((spec_l6Rd_pick.f k s0_0 bt626.2 5).bind fun bt631 => (if 0 ≤ bt631.1 then (if bt631.1 < (y628.length : Int) then ((spec_l71Id.f k s0_0 bt631.2).bind fun bt634 => ((some (([0, bt634.1] : List Int) : List Int)).bind fun y636 => ((spec_l6Rd_pick.f k s0_0 bt634.2 2).bind fun bt639 => (if 0 ≤ bt639.1 then (if bt639.1 < (y636.length : Int) then ((spec_l6Rd_pick.f k s0_0 bt639.2 5).bind fun bt642 => (if bt642.1 = 0 then (spec_l71Op.j0 k (rd y628 bt631.1) (rd y636 bt639.1) bt642.1 (bt642.1 == 0) s0_0 bt642.2 2 t621 0 0 bt623.1) else (spec_l71Op.j0 k (rd y628 bt631.1) (rd y636 bt639.1) bt642.1 (bt642.1 == 1) s0_0 bt642.2 2 t621 0 0 bt623.1))) else (none)) else (none))))) else (none)) else (none)))))) = some (r1, r2, r3, r4, r5, r6) := H
 have A2 := Aside0.mk A20
 clear A20
 replace H := Option.bind_eq_some_iff.mp H
 obtain ⟨⟨t623, t624⟩, A30, H⟩ := H
 replace H : ((spec_l71Id.f k s0_0 t624).bind fun bt626 => ((some (([1, 1, bt626.1, 2, 3] : List Int) : List Int)).bind fun y628 => ((spec_l6Rd_pick.f k s0_0 bt626.2 5).bind fun bt631 => (if 0 ≤ bt631.1 then (if bt631.1 < (y628.length : Int) then ((spec_l71Id.f k s0_0 bt631.2).bind fun bt634 => ((some (([0, bt634.1] : List Int) : List Int)).bind fun y636 => ((spec_l6Rd_pick.f k s0_0 bt634.2 2).bind fun bt639 => (if 0 ≤ bt639.1 then (if bt639.1 < (y636.length : Int) then ((spec_l6Rd_pick.f k s0_0 bt639.2 5).bind fun bt642 => (if bt642.1 = 0 then (spec_l71Op.j0 k (rd y628 bt631.1) (rd y636 bt639.1) bt642.1 (bt642.1 == 0) s0_0 bt642.2 2 t621 0 0 t623) else (spec_l71Op.j0 k (rd y628 bt631.1) (rd y636 bt639.1) bt642.1 (bt642.1 == 1) s0_0 bt642.2 2 t621 0 0 t623))) else (none)) else (none))))) else (none)) else (none))))) = some (r1, r2, r3, r4, r5, r6) := H
 have A3 := Aside0.mk A30
 clear A30
 replace H := Option.bind_eq_some_iff.mp H
 obtain ⟨⟨t626, t627⟩, A40, H⟩ := H
 replace H : ((some (([1, 1, t626, 2, 3] : List Int) : List Int)).bind fun y628 => ((spec_l6Rd_pick.f k s0_0 t627 5).bind fun bt631 => (if 0 ≤ bt631.1 then (if bt631.1 < (y628.length : Int) then ((spec_l71Id.f k s0_0 bt631.2).bind fun bt634 => ((some (([0, bt634.1] : List Int) : List Int)).bind fun y636 => ((spec_l6Rd_pick.f k s0_0 bt634.2 2).bind fun bt639 => (if 0 ≤ bt639.1 then (if bt639.1 < (y636.length : Int) then ((spec_l6Rd_pick.f k s0_0 bt639.2 5).bind fun bt642 => (if bt642.1 = 0 then (spec_l71Op.j0 k (rd y628 bt631.1) (rd y636 bt639.1) bt642.1 (bt642.1 == 0) s0_0 bt642.2 2 t621 0 0 t623) else (spec_l71Op.j0 k (rd y628 bt631.1) (rd y636 bt639.1) bt642.1 (bt642.1 == 1) s0_0 bt642.2 2 t621 0 0 t623))) else (none)) else (none))))) else (none)) else (none)))) = some (r1, r2, r3, r4, r5, r6) := H
 have A4 := Aside0.mk A40
 clear A40
 obtain ⟨y628, hy628⟩ : ∃ y_ : List Int, y_ = (([1, 1, t626, 2, 3] : List Int)) := ⟨_, rfl⟩
 replace H : ((spec_l6Rd_pick.f k s0_0 t627 5).bind fun bt631 => (if 0 ≤ bt631.1 then (if bt631.1 < (y628.length : Int) then ((spec_l71Id.f k s0_0 bt631.2).bind fun bt634 => ((some (([0, bt634.1] : List Int) : List Int)).bind fun y636 => ((spec_l6Rd_pick.f k s0_0 bt634.2 2).bind fun bt639 => (if 0 ≤ bt639.1 then (if bt639.1 < (y636.length : Int) then ((spec_l6Rd_pick.f k s0_0 bt639.2 5).bind fun bt642 => (if bt642.1 = 0 then (spec_l71Op.j0 k (rd y628 bt631.1) (rd y636 bt639.1) bt642.1 (bt642.1 == 0) s0_0 bt642.2 2 t621 0 0 t623) else (spec_l71Op.j0 k (rd y628 bt631.1) (rd y636 bt639.1) bt642.1 (bt642.1 == 1) s0_0 bt642.2 2 t621 0 0 t623))) else (none)) else (none))))) else (none)) else (none))) = some (r1, r2, r3, r4, r5, r6) := by first | (rw [hy628]; with_reducible exact H) | (have H2_ := (Option.bind_some _ _).symm.trans H; rw [hy628]; with_reducible exact H2_) | (have H2_ := (Option.bind_some _ _).symm.trans H; with_reducible exact H2_) | with_reducible exact H | (rw [hy628]; exact H) | exact H
 have Ny628 := Aside0.mk hy628
 clear hy628
 replace H := Option.bind_eq_some_iff.mp H
 obtain ⟨⟨t631, t632⟩, A50, H⟩ := H
 replace H : (if 0 ≤ t631 then (if t631 < (y628.length : Int) then ((spec_l71Id.f k s0_0 t632).bind fun bt634 => ((some (([0, bt634.1] : List Int) : List Int)).bind fun y636 => ((spec_l6Rd_pick.f k s0_0 bt634.2 2).bind fun bt639 => (if 0 ≤ bt639.1 then (if bt639.1 < (y636.length : Int) then ((spec_l6Rd_pick.f k s0_0 bt639.2 5).bind fun bt642 => (if bt642.1 = 0 then (spec_l71Op.j0 k (rd y628 t631) (rd y636 bt639.1) bt642.1 (bt642.1 == 0) s0_0 bt642.2 2 t621 0 0 t623) else (spec_l71Op.j0 k (rd y628 t631) (rd y636 bt639.1) bt642.1 (bt642.1 == 1) s0_0 bt642.2 2 t621 0 0 t623))) else (none)) else (none))))) else (none)) else (none)) = some (r1, r2, r3, r4, r5, r6) := H
 have A5 := Aside0.mk A50
 clear A50
 by_cases c6 : 0 ≤ t631
 ·rw [if_pos c6] at H
  have c6b0 : decide (0 ≤ t631) = true := decide_eq_true c6
  clear c6
  by_cases c7 : t631 < (y628.length : Int)
  ·rw [if_pos c7] at H
   have c7b0 : decide (t631 < (y628.length : Int)) = true := decide_eq_true c7
   clear c7
   replace H := Option.bind_eq_some_iff.mp H
   obtain ⟨⟨t634, t635⟩, A80, H⟩ := H
   replace H : ((some (([0, t634] : List Int) : List Int)).bind fun y636 => ((spec_l6Rd_pick.f k s0_0 t635 2).bind fun bt639 => (if 0 ≤ bt639.1 then (if bt639.1 < (y636.length : Int) then ((spec_l6Rd_pick.f k s0_0 bt639.2 5).bind fun bt642 => (if bt642.1 = 0 then (spec_l71Op.j0 k (rd y628 t631) (rd y636 bt639.1) bt642.1 (bt642.1 == 0) s0_0 bt642.2 2 t621 0 0 t623) else (spec_l71Op.j0 k (rd y628 t631) (rd y636 bt639.1) bt642.1 (bt642.1 == 1) s0_0 bt642.2 2 t621 0 0 t623))) else (none)) else (none)))) = some (r1, r2, r3, r4, r5, r6) := H
   have A8 := Aside0.mk A80
   clear A80
   obtain ⟨y636, hy636⟩ : ∃ y_ : List Int, y_ = (([0, t634] : List Int)) := ⟨_, rfl⟩
   replace H : ((spec_l6Rd_pick.f k s0_0 t635 2).bind fun bt639 => (if 0 ≤ bt639.1 then (if bt639.1 < (y636.length : Int) then ((spec_l6Rd_pick.f k s0_0 bt639.2 5).bind fun bt642 => (if bt642.1 = 0 then (spec_l71Op.j0 k (rd y628 t631) (rd y636 bt639.1) bt642.1 (bt642.1 == 0) s0_0 bt642.2 2 t621 0 0 t623) else (spec_l71Op.j0 k (rd y628 t631) (rd y636 bt639.1) bt642.1 (bt642.1 == 1) s0_0 bt642.2 2 t621 0 0 t623))) else (none)) else (none))) = some (r1, r2, r3, r4, r5, r6) := by first | (rw [hy636]; with_reducible exact H) | (have H2_ := (Option.bind_some _ _).symm.trans H; rw [hy636]; with_reducible exact H2_) | (have H2_ := (Option.bind_some _ _).symm.trans H; with_reducible exact H2_) | with_reducible exact H | (rw [hy636]; exact H) | exact H
   have Ny636 := Aside0.mk hy636
   clear hy636
   replace H := Option.bind_eq_some_iff.mp H
   obtain ⟨⟨t639, t640⟩, A90, H⟩ := H
   replace H : (if 0 ≤ t639 then (if t639 < (y636.length : Int) then ((spec_l6Rd_pick.f k s0_0 t640 5).bind fun bt642 => (if bt642.1 = 0 then (spec_l71Op.j0 k (rd y628 t631) (rd y636 t639) bt642.1 (bt642.1 == 0) s0_0 bt642.2 2 t621 0 0 t623) else (spec_l71Op.j0 k (rd y628 t631) (rd y636 t639) bt642.1 (bt642.1 == 1) s0_0 bt642.2 2 t621 0 0 t623))) else (none)) else (none)) = some (r1, r2, r3, r4, r5, r6) := H
   have A9 := Aside0.mk A90
   clear A90
   by_cases c10 : 0 ≤ t639
   ·rw [if_pos c10] at H
    have c10b0 : decide (0 ≤ t639) = true := decide_eq_true c10
    clear c10
    by_cases c11 : t639 < (y636.length : Int)
    ·rw [if_pos c11] at H
     have c11b0 : decide (t639 < (y636.length : Int)) = true := decide_eq_true c11
     clear c11
     replace H := Option.bind_eq_some_iff.mp H
     obtain ⟨⟨t642, t643⟩, A120, H⟩ := H
     replace H : (if t642 = 0 then (spec_l71Op.j0 k (rd y628 t631) (rd y636 t639) t642 (t642 == 0) s0_0 t643 2 t621 0 0 t623) else (spec_l71Op.j0 k (rd y628 t631) (rd y636 t639) t642 (t642 == 1) s0_0 t643 2 t621 0 0 t623)) = some (r1, r2, r3, r4, r5, r6) := H
     have A12 := Aside0.mk A120
     clear A120
     have HC13 := Aside0.mk H
     clear H
     go_enter Tryd.func90, Tryd.ntmps90
     go_upto_block 0 with (first | ((with_reducible refine gate_dst (N := 2) rfl ?_); refine box_event ?hg (N := 2) ?hd (cs := #[.int .i64 0, .int .i64 0, .int .i64 0, .int .i64 0, .string (⟨#[]⟩ : ByteArray)]) (t := 54) ?hr ?_; (case hd => rfl); (case hg => rfl); (case hr => first | (go_simp; done) | (go_simp; rfl)); intro gb620 hg w14 hbox hb; have n0_ := Aside0.mk (IsS96.below (is_HI0) hb); have n1_ := Aside0.mk (KeepBut.trans (ke_) (KeepBut.of_below hb g none) (.inl rfl)); have n2_ := Aside0.mk (below_step (bel_) hb); have n3_ := Aside0.mk (hbox); have n4_ := Aside0.mk ((by rw [hg]; exact (keep_size (w := w) (g := g) (row := none) (ke_)) : w.heap.size ≤ gb620)); have n5_ := Aside0.mk ((Nat.le_trans HW0.out (by rw [hg]; exact (keep_size (w := w) (g := g) (row := none) (ke_)) : w.heap.size ≤ gb620) : w0.heap.size ≤ gb620)); have n6_ := Aside0.mk ((by rw [hg]; exact Nat.ne_of_lt (IsS96.lt (show IsS96 w0 _ g s0_0 s0_1 from is_HI0)) : g ≠ gb620)); have n7_ := Aside0.mk ((by rw [hg]; exact Nat.ne_of_gt (IsS96.lt (show IsS96 w0 _ g s0_0 s0_1 from is_HI0)) : gb620 ≠ g)); clear HI0; clear HK; clear HB; have HI0 := n0_; have HK := n1_; have HB := n2_; have BK620 := n3_; have GW620 := n4_; have GE620 := n5_; have NB0_620 := n6_; have NB620_0 := n7_; clear n0_ n1_ n2_ n3_ n4_ n5_ n6_ n7_; clear hb hbox hg) | ((with_reducible refine gate_callee (f := 96) rfl ?_); refine gl_ 7 Tryd.func96 #[.pointer (some ⟨g, 0, none⟩)] ?_; (with_reducible refine (spec_l71Id.calls k g s0_0 s0_1 t621 t622 w0 _ ?side1 ?side2 A2.out).mono ?_); (case side1 => repeat (first | (with_reducible first | exact HI0.out | apply IsS96.alloc | apply IsS96.drewN | apply IsS96.drew | apply IsS96.set_1 | refine IsS96.far ?_ NB0_620.out _) | exact HI0.out)); (case side2 => exact bel_); rintro e w15 ⟨rfl, hi, hb, hk⟩; refine ⟨_, rfl, ?_⟩; replace BK620 := Aside0.mk (KeepBut.blk hk (g' := gb620) (o := .cells #[.int .i64 0, .int .i64 0, .int .i64 0, .int .i64 0, .string (⟨#[]⟩ : ByteArray)] 54 (0, 0)) (bp_ BK620.out) NB620_0.out (by simp)); replace HK := Aside0.mk (KeepBut.trans (by repeat (first | (with_reducible first | exact HK.out | apply KeepBut.set_ | apply keep_drewN | apply keep_drew | apply keep_alloc | refine keep_far ?_ GW620.out _) | exact HK.out)) hk (.inl rfl)); replace HB := Aside0.mk (hb); replace HI0 := Aside0.mk (hi); (try clear hb); (try clear hb2); (try clear hk); (try clear hi)) | ((with_reducible refine gate_callee (f := 95) rfl ?_); refine gl_ 9 Tryd.func95 #[.pointer (some ⟨g, 0, none⟩)] ?_; (with_reducible refine (spec_l71Text.calls k g s0_0 t622 t623 t624 w0 _ ?side1 ?side2 A3.out).mono ?_); (case side1 => repeat (first | (with_reducible first | exact HI0.out | apply IsS96.alloc | apply IsS96.drewN | apply IsS96.drew | apply IsS96.set_1 | refine IsS96.far ?_ NB0_620.out _) | exact HI0.out)); (case side2 => exact bel_); rintro e w16 ⟨rfl, hi, hb, hk⟩; refine ⟨_, rfl, ?_⟩; replace BK620 := Aside0.mk (KeepBut.blk hk (g' := gb620) (o := .cells #[.int .i64 0, .int .i64 0, .int .i64 0, .int .i64 0, .string (⟨#[]⟩ : ByteArray)] 54 (0, 0)) (bp_ BK620.out) NB620_0.out (by simp)); replace HK := Aside0.mk (KeepBut.trans (by repeat (first | (with_reducible first | exact HK.out | apply KeepBut.set_ | apply keep_drewN | apply keep_drew | apply keep_alloc | refine keep_far ?_ GW620.out _) | exact HK.out)) hk (.inl rfl)); replace HB := Aside0.mk (hb); replace HI0 := Aside0.mk (hi); (try clear hb); (try clear hb2); (try clear hk); (try clear hi)) | ((with_reducible refine gate_dst (N := 3) rfl ?_); refine box_event ?hg (N := 3) ?hd (cs := #[.int .i64 0, .int .i64 0, .int .i64 0, .int .i64 0, .string (⟨#[]⟩ : ByteArray)]) (t := 54) ?hr ?_; (case hd => rfl); (case hg => rfl); (case hr => first | (go_simp; done) | (go_simp; rfl)); intro gb625 hg w17 hbox hb; have n0_ := Aside0.mk (IsS96.below (by repeat (first | (with_reducible first | exact HI0.out | apply IsS96.alloc | apply IsS96.drewN | apply IsS96.drew | apply IsS96.set_1 | refine IsS96.far ?_ NB0_620.out _) | exact HI0.out)) hb); have n1_ := Aside0.mk (blk_below (g := gb620) (o := .cells #[.int .i64 0, .int .i64 0, .int .i64 0, .int .i64 0, .string (⟨#[]⟩ : ByteArray)] 54 (0, 0)) (bp_ BK620.out) hb); have n2_ := Aside0.mk (KeepBut.trans (by repeat (first | (with_reducible first | exact HK.out | apply KeepBut.set_ | apply keep_drewN | apply keep_drew | apply keep_alloc | refine keep_far ?_ GW620.out _) | exact HK.out)) (KeepBut.of_below hb g none) (.inl rfl)); have n3_ := Aside0.mk (below_step (bel_) hb); have n4_ := Aside0.mk (hbox); have n5_ := Aside0.mk ((by rw [hg]; exact (keep_size (w := w) (g := g) (row := none) (by repeat (first | (with_reducible first | exact HK.out | apply KeepBut.set_ | apply keep_drewN | apply keep_drew | apply keep_alloc | refine keep_far ?_ GW620.out _) | exact HK.out))) : w.heap.size ≤ gb625)); have n6_ := Aside0.mk ((Nat.le_trans HW0.out (by rw [hg]; exact (keep_size (w := w) (g := g) (row := none) (by repeat (first | (with_reducible first | exact HK.out | apply KeepBut.set_ | apply keep_drewN | apply keep_drew | apply keep_alloc | refine keep_far ?_ GW620.out _) | exact HK.out))) : w.heap.size ≤ gb625) : w0.heap.size ≤ gb625)); have n7_ := Aside0.mk ((by rw [hg]; exact Nat.ne_of_lt (blk_lt (g := gb620) (o := .cells #[.int .i64 0, .int .i64 0, .int .i64 0, .int .i64 0, .string (⟨#[]⟩ : ByteArray)] 54 (0, 0)) (bp_ BK620.out)) : gb620 ≠ gb625)); have n8_ := Aside0.mk ((by rw [hg]; exact Nat.ne_of_gt (blk_lt (g := gb620) (o := .cells #[.int .i64 0, .int .i64 0, .int .i64 0, .int .i64 0, .string (⟨#[]⟩ : ByteArray)] 54 (0, 0)) (bp_ BK620.out)) : gb625 ≠ gb620)); have n9_ := Aside0.mk ((by rw [hg]; exact Nat.ne_of_lt (IsS96.lt (show IsS96 w0 _ g s0_0 t624 from by repeat (first | (with_reducible first | exact HI0.out | apply IsS96.alloc | apply IsS96.drewN | apply IsS96.drew | apply IsS96.set_1 | refine IsS96.far ?_ NB0_620.out _) | exact HI0.out))) : g ≠ gb625)); have n10_ := Aside0.mk ((by rw [hg]; exact Nat.ne_of_gt (IsS96.lt (show IsS96 w0 _ g s0_0 t624 from by repeat (first | (with_reducible first | exact HI0.out | apply IsS96.alloc | apply IsS96.drewN | apply IsS96.drew | apply IsS96.set_1 | refine IsS96.far ?_ NB0_620.out _) | exact HI0.out))) : gb625 ≠ g)); clear HI0; clear BK620; clear HK; clear HB; have HI0 := n0_; have BK620 := n1_; have HK := n2_; have HB := n3_; have BK625 := n4_; have GW625 := n5_; have GE625 := n6_; have NB620_625 := n7_; have NB625_620 := n8_; have NB0_625 := n9_; have NB625_0 := n10_; clear n0_ n1_ n2_ n3_ n4_ n5_ n6_ n7_ n8_ n9_ n10_; clear hb hbox hg; have hnb18 := NB625_620.out; have hnc18 := NB620_625.out; have hnb19 := NB625_0.out; have hnc19 := NB0_625.out; have hcz20_0 : w17.cell? ⟨gb625, 0, none⟩ = some (.int .i64 0) := (blk_cell BK625.out 0).trans rfl; have hcz20_1 : w17.cell? ⟨gb625, 1, none⟩ = some (.int .i64 0) := (blk_cell BK625.out 1).trans rfl; have hcz20_2 : w17.cell? ⟨gb625, 2, none⟩ = some (.int .i64 0) := (blk_cell BK625.out 2).trans rfl; have hcz20_3 : w17.cell? ⟨gb625, 3, none⟩ = some (.int .i64 0) := (blk_cell BK625.out 3).trans rfl; have hcz20_4 : w17.cell? ⟨gb625, 4, none⟩ = some (.string (⟨#[]⟩ : ByteArray)) := (blk_cell BK625.out 4).trans rfl; have hfz20_0 := blk_frozen BK625.out 0; have hfz20_1 := blk_frozen BK625.out 1; have hfz20_2 := blk_frozen BK625.out 2; have hfz20_3 := blk_frozen BK625.out 3; have hfz20_4 := blk_frozen BK625.out 4) | ((with_reducible refine gate_callee (f := 96) rfl ?_); refine gl_ 12 Tryd.func96 #[.pointer (some ⟨g, 0, none⟩)] ?_; (with_reducible refine (spec_l71Id.calls k g s0_0 t624 t626 t627 w0 _ ?side1 ?side2 A4.out).mono ?_); (case side1 => repeat (first | (with_reducible first | exact HI0.out | apply IsS96.alloc | apply IsS96.drewN | apply IsS96.drew | apply IsS96.set_1 | refine IsS96.far ?_ NB0_620.out _ | refine IsS96.far ?_ NB0_625.out _) | exact HI0.out)); (case side2 => exact bel_); rintro e w21 ⟨rfl, hi, hb, hk⟩; refine ⟨_, rfl, ?_⟩; have n0_ := Aside0.mk (KeepBut.blk hk (g' := gb620) (o := .cells #[.int .i64 0, .int .i64 0, .int .i64 0, .int .i64 0, .string (⟨#[]⟩ : ByteArray)] 54 (0, 0)) (by (with_reducible repeat (first | refine blk_drewN ?_ _ | refine blk_drew ?_ | refine blk_alloc ?_ _)); refine blk_far ?_ NB620_625.out _; (with_reducible repeat (first | refine blk_drewN ?_ _ | refine blk_drew ?_ | refine blk_alloc ?_ _)); refine blk_far ?_ NB620_625.out _; (with_reducible repeat (first | refine blk_drewN ?_ _ | refine blk_drew ?_ | refine blk_alloc ?_ _)); refine blk_far ?_ NB620_625.out _; (with_reducible repeat (first | refine blk_drewN ?_ _ | refine blk_drew ?_ | refine blk_alloc ?_ _)); refine blk_far ?_ NB620_625.out _; (with_reducible repeat (first | refine blk_drewN ?_ _ | refine blk_drew ?_ | refine blk_alloc ?_ _)); refine blk_far ?_ NB620_625.out _; (with_reducible repeat (first | refine blk_drewN ?_ _ | refine blk_drew ?_ | refine blk_alloc ?_ _)); exact BK620.out) NB620_0.out (by simp)); have n1_ := Aside0.mk (KeepBut.blk hk (g' := gb625) (o := .cells #[.int .i64 2, .int .i64 t621, .int .i64 0, .int .i64 0, .string t623] 54 (0, 0)) (by (with_reducible repeat (first | refine blk_drewN ?_ _ | refine blk_drew ?_ | refine blk_alloc ?_ _)); refine blk_put (cs := #[.int .i64 2, .int .i64 t621, .int .i64 0, .int .i64 0, .string (⟨#[]⟩ : ByteArray)]) ?_ 4 _ rfl; (with_reducible repeat (first | refine blk_drewN ?_ _ | refine blk_drew ?_ | refine blk_alloc ?_ _)); refine blk_put (cs := #[.int .i64 2, .int .i64 t621, .int .i64 0, .int .i64 0, .string (⟨#[]⟩ : ByteArray)]) ?_ 3 _ rfl; (with_reducible repeat (first | refine blk_drewN ?_ _ | refine blk_drew ?_ | refine blk_alloc ?_ _)); refine blk_put (cs := #[.int .i64 2, .int .i64 t621, .int .i64 0, .int .i64 0, .string (⟨#[]⟩ : ByteArray)]) ?_ 2 _ rfl; (with_reducible repeat (first | refine blk_drewN ?_ _ | refine blk_drew ?_ | refine blk_alloc ?_ _)); refine blk_put (cs := #[.int .i64 2, .int .i64 0, .int .i64 0, .int .i64 0, .string (⟨#[]⟩ : ByteArray)]) ?_ 1 _ rfl; (with_reducible repeat (first | refine blk_drewN ?_ _ | refine blk_drew ?_ | refine blk_alloc ?_ _)); refine blk_put (cs := #[.int .i64 0, .int .i64 0, .int .i64 0, .int .i64 0, .string (⟨#[]⟩ : ByteArray)]) ?_ 0 _ rfl; (with_reducible repeat (first | refine blk_drewN ?_ _ | refine blk_drew ?_ | refine blk_alloc ?_ _)); exact BK625.out) NB625_0.out (by simp)); have n2_ := Aside0.mk (KeepBut.trans (by repeat (first | (with_reducible first | exact HK.out | apply KeepBut.set_ | apply keep_drewN | apply keep_drew | apply keep_alloc | refine keep_far ?_ GW620.out _ | refine keep_far ?_ GW625.out _) | exact HK.out)) hk (.inl rfl)); have n3_ := Aside0.mk (hb); have n4_ := Aside0.mk (hi); clear BK620; clear BK625; clear HK; clear HB; clear HI0; have BK620 := n0_; have BK625 := n1_; have HK := n2_; have HB := n3_; have HI0 := n4_; clear n0_ n1_ n2_ n3_ n4_; (try clear hb); (try clear hb2); (try clear hk); (try clear hi)) | ((with_reducible refine gate_dst (N := 13) rfl ?_); refine Kd.R_lit (Kd.int .i64) _ 3 ?hg (N := 13) ?hd (xs := ([1, 1, t626, 2, 3] : List Int)) (inner := [.int .i64 1, .int .i64 1, .int .i64 t626, .int .i64 2, .int .i64 3]) (ok := fun _ => True) (okp := fun _ => True) ?hr ?hp (fun _ hk => hk) trivial (Below.refl _ _) (Nat.le_refl _) (by simp) ?_; (case hd => rfl); (case hg => rfl); (case hr => first | (go_simp; done) | (go_simp; rfl)); (case hp => exact (Reps.one (show Kd.M (Kd.int .i64) _ _ _ 1 [.int .i64 1] from rfl) (Reps.one (show Kd.M (Kd.int .i64) _ _ _ 1 [.int .i64 1] from rfl) (Reps.one (show Kd.M (Kd.int .i64) _ _ _ t626 [.int .i64 t626] from rfl) (Reps.one (show Kd.M (Kd.int .i64) _ _ _ 2 [.int .i64 2] from rfl) (Reps.one (show Kd.M (Kd.int .i64) _ _ _ 3 [.int .i64 3] from rfl) (Reps.none _ _))))))); intro v629 w22 ho23 hb hg_ hnew_; clear hg_ hnew_; (first | rw [← Ny628.out] at ho23 | (simp only [Int.reduceToNat] at ho23; rw [← Ny628.out] at ho23)); have HO630 := Aside0.mk (Kd.R_lower ho23 (keep_size (w := w) (g := g) (row := none) (by repeat (first | (with_reducible first | exact HK.out | apply KeepBut.set_ | apply keep_drewN | apply keep_drew | apply keep_alloc | refine keep_far ?_ GW620.out _ | refine keep_far ?_ GW625.out _) | exact HK.out)))); replace HK := Aside0.mk (KeepBut.trans (by repeat (first | (with_reducible first | exact HK.out | apply KeepBut.set_ | apply keep_drewN | apply keep_drew | apply keep_alloc | refine keep_far ?_ GW620.out _ | refine keep_far ?_ GW625.out _) | exact HK.out)) (KeepBut.of_below hb g none) (.inl rfl)); replace HB := Aside0.mk (below_step (bel_) hb); replace HI0 := Aside0.mk (IsS96.below (by repeat (first | (with_reducible first | exact HI0.out | apply IsS96.alloc | apply IsS96.drewN | apply IsS96.drew | apply IsS96.set_1 | refine IsS96.far ?_ NB0_620.out _ | refine IsS96.far ?_ NB0_625.out _) | exact HI0.out)) hb); replace BK620 := Aside0.mk (blk_below (g := gb620) (o := .cells #[.int .i64 0, .int .i64 0, .int .i64 0, .int .i64 0, .string (⟨#[]⟩ : ByteArray)] 54 (0, 0)) (bp_ BK620.out) hb); replace BK625 := Aside0.mk (blk_below (g := gb625) (o := .cells #[.int .i64 2, .int .i64 t621, .int .i64 0, .int .i64 0, .string t623] 54 (0, 0)) (bp_ BK625.out) hb); clear hb ho23) | ((with_reducible refine gate_callee (f := 56) rfl ?_); refine gl_ 15 Tryd.func56 #[.pointer (some ⟨g, 0, none⟩), .int .i64 5] ?_; (with_reducible refine (spec_l6Rd_pick.calls k g s0_0 t627 5 t631 t632 w0 _ ?side1 ?side2 A5.out).mono ?_); (case side1 => repeat (first | (with_reducible first | exact HI0.out | apply IsS96.alloc | apply IsS96.drewN | apply IsS96.drew | apply IsS96.set_1 | refine IsS96.far ?_ NB0_620.out _ | refine IsS96.far ?_ NB0_625.out _) | exact HI0.out)); (case side2 => exact bel_); rintro e w24 ⟨rfl, hi, hb, hk⟩; refine ⟨_, rfl, ?_⟩; replace BK620 := Aside0.mk (KeepBut.blk hk (g' := gb620) (o := .cells #[.int .i64 0, .int .i64 0, .int .i64 0, .int .i64 0, .string (⟨#[]⟩ : ByteArray)] 54 (0, 0)) (bp_ BK620.out) NB620_0.out (by simp)); replace BK625 := Aside0.mk (KeepBut.blk hk (g' := gb625) (o := .cells #[.int .i64 2, .int .i64 t621, .int .i64 0, .int .i64 0, .string t623] 54 (0, 0)) (bp_ BK625.out) NB625_0.out (by simp)); replace HO630 := Aside0.mk (Kd.R_mono (Kd.R_keep (IsS96.apart (show IsS96 w0 _ g s0_0 t627 from by repeat (first | (with_reducible first | exact HI0.out | apply IsS96.alloc | apply IsS96.drewN | apply IsS96.drew | apply IsS96.set_1 | refine IsS96.far ?_ NB0_620.out _ | refine IsS96.far ?_ NB0_625.out _) | exact HI0.out)) (rp_ HO630.out) (by decide)) hk (fun _ h => h.2)) (fun _ h => h.1)); replace HK := Aside0.mk (KeepBut.trans (by repeat (first | (with_reducible first | exact HK.out | apply KeepBut.set_ | apply keep_drewN | apply keep_drew | apply keep_alloc | refine keep_far ?_ GW620.out _ | refine keep_far ?_ GW625.out _) | exact HK.out)) hk (.inl rfl)); replace HB := Aside0.mk (hb); replace HI0 := Aside0.mk (hi); (try clear hb); (try clear hb2); (try clear hk); (try clear hi); obtain ⟨Ao25, co25, eo25⟩ := Kd.R_slice HO630.out; subst eo25; have p633 : 0 ≤ (t631 : Int) := od_; have q633 : t631 < (y628.length : Int) := od_; obtain ⟨ad633, e633, hx633_0⟩ := Kd.at_int (Kd.R_reads' HO630.out).2.2 t631 p633 q633; cases e633; replace p633 := eq_true p633; replace q633 := eq_true q633) | ((with_reducible refine gate_callee (f := 96) rfl ?_); refine gl_ 19 Tryd.func96 #[.pointer (some ⟨g, 0, none⟩)] ?_; (with_reducible refine (spec_l71Id.calls k g s0_0 t632 t634 t635 w0 _ ?side1 ?side2 A8.out).mono ?_); (case side1 => repeat (first | (with_reducible first | exact HI0.out | apply IsS96.alloc | apply IsS96.drewN | apply IsS96.drew | apply IsS96.set_1 | refine IsS96.far ?_ NB0_620.out _ | refine IsS96.far ?_ NB0_625.out _) | exact HI0.out)); (case side2 => exact bel_); rintro e w26 ⟨rfl, hi, hb, hk⟩; refine ⟨_, rfl, ?_⟩; replace BK620 := Aside0.mk (KeepBut.blk hk (g' := gb620) (o := .cells #[.int .i64 0, .int .i64 0, .int .i64 0, .int .i64 0, .string (⟨#[]⟩ : ByteArray)] 54 (0, 0)) (bp_ BK620.out) NB620_0.out (by simp)); replace BK625 := Aside0.mk (KeepBut.blk hk (g' := gb625) (o := .cells #[.int .i64 2, .int .i64 t621, .int .i64 0, .int .i64 0, .string t623] 54 (0, 0)) (bp_ BK625.out) NB625_0.out (by simp)); replace HO630 := Aside0.mk (Kd.R_mono (Kd.R_keep (IsS96.apart (show IsS96 w0 _ g s0_0 t632 from by repeat (first | (with_reducible first | exact HI0.out | apply IsS96.alloc | apply IsS96.drewN | apply IsS96.drew | apply IsS96.set_1 | refine IsS96.far ?_ NB0_620.out _ | refine IsS96.far ?_ NB0_625.out _) | exact HI0.out)) (rp_ HO630.out) (by decide)) hk (fun _ h => h.2)) (fun _ h => h.1)); replace HK := Aside0.mk (KeepBut.trans (by repeat (first | (with_reducible first | exact HK.out | apply KeepBut.set_ | apply keep_drewN | apply keep_drew | apply keep_alloc | refine keep_far ?_ GW620.out _ | refine keep_far ?_ GW625.out _) | exact HK.out)) hk (.inl rfl)); replace HB := Aside0.mk (hb); replace HI0 := Aside0.mk (hi); (try clear hb); (try clear hb2); (try clear hk); (try clear hi)) | ((with_reducible refine gate_dst (N := 20) rfl ?_); refine Kd.R_lit (Kd.int .i64) _ 3 ?hg (N := 20) ?hd (xs := ([0, t634] : List Int)) (inner := [.int .i64 0, .int .i64 t634]) (ok := fun _ => True) (okp := fun _ => True) ?hr ?hp (fun _ hk => hk) trivial (Below.refl _ _) (Nat.le_refl _) (by simp) ?_; (case hd => rfl); (case hg => rfl); (case hr => first | (go_simp; done) | (go_simp; rfl)); (case hp => exact (Reps.one (show Kd.M (Kd.int .i64) _ _ _ 0 [.int .i64 0] from rfl) (Reps.one (show Kd.M (Kd.int .i64) _ _ _ t634 [.int .i64 t634] from rfl) (Reps.none _ _)))); intro v637 w27 ho28 hb hg_ hnew_; clear hg_ hnew_; (first | rw [← Ny636.out] at ho28 | (simp only [Int.reduceToNat] at ho28; rw [← Ny636.out] at ho28)); have HO638 := Aside0.mk (Kd.R_lower (Kd.R_new' ho28 (Kd.R_lt (rp_ HO630.out))) (keep_size (w := w) (g := g) (row := none) (by repeat (first | (with_reducible first | exact HK.out | apply KeepBut.set_ | apply keep_drewN | apply keep_drew | apply keep_alloc | refine keep_far ?_ GW620.out _ | refine keep_far ?_ GW625.out _) | exact HK.out)))); replace HO630 := Aside0.mk (Kd.R_elder' (rp_ HO630.out) (Kd.R_base ho28) hb); replace HK := Aside0.mk (KeepBut.trans (by repeat (first | (with_reducible first | exact HK.out | apply KeepBut.set_ | apply keep_drewN | apply keep_drew | apply keep_alloc | refine keep_far ?_ GW620.out _ | refine keep_far ?_ GW625.out _) | exact HK.out)) (KeepBut.of_below hb g none) (.inl rfl)); replace HB := Aside0.mk (below_step (bel_) hb); replace HI0 := Aside0.mk (IsS96.below (by repeat (first | (with_reducible first | exact HI0.out | apply IsS96.alloc | apply IsS96.drewN | apply IsS96.drew | apply IsS96.set_1 | refine IsS96.far ?_ NB0_620.out _ | refine IsS96.far ?_ NB0_625.out _) | exact HI0.out)) hb); replace BK620 := Aside0.mk (blk_below (g := gb620) (o := .cells #[.int .i64 0, .int .i64 0, .int .i64 0, .int .i64 0, .string (⟨#[]⟩ : ByteArray)] 54 (0, 0)) (bp_ BK620.out) hb); replace BK625 := Aside0.mk (blk_below (g := gb625) (o := .cells #[.int .i64 2, .int .i64 t621, .int .i64 0, .int .i64 0, .string t623] 54 (0, 0)) (bp_ BK625.out) hb); clear hb ho28) | ((with_reducible refine gate_callee (f := 56) rfl ?_); refine gl_ 22 Tryd.func56 #[.pointer (some ⟨g, 0, none⟩), .int .i64 2] ?_; (with_reducible refine (spec_l6Rd_pick.calls k g s0_0 t635 2 t639 t640 w0 _ ?side1 ?side2 A9.out).mono ?_); (case side1 => repeat (first | (with_reducible first | exact HI0.out | apply IsS96.alloc | apply IsS96.drewN | apply IsS96.drew | apply IsS96.set_1 | refine IsS96.far ?_ NB0_620.out _ | refine IsS96.far ?_ NB0_625.out _) | exact HI0.out)); (case side2 => exact bel_); rintro e w29 ⟨rfl, hi, hb, hk⟩; refine ⟨_, rfl, ?_⟩; replace BK620 := Aside0.mk (KeepBut.blk hk (g' := gb620) (o := .cells #[.int .i64 0, .int .i64 0, .int .i64 0, .int .i64 0, .string (⟨#[]⟩ : ByteArray)] 54 (0, 0)) (bp_ BK620.out) NB620_0.out (by simp)); replace BK625 := Aside0.mk (KeepBut.blk hk (g' := gb625) (o := .cells #[.int .i64 2, .int .i64 t621, .int .i64 0, .int .i64 0, .string t623] 54 (0, 0)) (bp_ BK625.out) NB625_0.out (by simp)); replace HO630 := Aside0.mk (Kd.R_mono (Kd.R_keep (IsS96.apart (show IsS96 w0 _ g s0_0 t635 from by repeat (first | (with_reducible first | exact HI0.out | apply IsS96.alloc | apply IsS96.drewN | apply IsS96.drew | apply IsS96.set_1 | refine IsS96.far ?_ NB0_620.out _ | refine IsS96.far ?_ NB0_625.out _) | exact HI0.out)) (rp_ HO630.out) (by decide)) hk (fun _ h => h.2)) (fun _ h => h.1)); replace HO638 := Aside0.mk (Kd.R_mono (Kd.R_keep (IsS96.apart (show IsS96 w0 _ g s0_0 t635 from by repeat (first | (with_reducible first | exact HI0.out | apply IsS96.alloc | apply IsS96.drewN | apply IsS96.drew | apply IsS96.set_1 | refine IsS96.far ?_ NB0_620.out _ | refine IsS96.far ?_ NB0_625.out _) | exact HI0.out)) (rp_ HO638.out) (by decide)) hk (fun _ h => h.2)) (fun _ h => h.1)); replace HK := Aside0.mk (KeepBut.trans (by repeat (first | (with_reducible first | exact HK.out | apply KeepBut.set_ | apply keep_drewN | apply keep_drew | apply keep_alloc | refine keep_far ?_ GW620.out _ | refine keep_far ?_ GW625.out _) | exact HK.out)) hk (.inl rfl)); replace HB := Aside0.mk (hb); replace HI0 := Aside0.mk (hi); (try clear hb); (try clear hb2); (try clear hk); (try clear hi); obtain ⟨Ao30, co30, eo30⟩ := Kd.R_slice HO638.out; subst eo30; have p641 : 0 ≤ (t639 : Int) := od_; have q641 : t639 < (y636.length : Int) := od_; obtain ⟨ad641, e641, hx641_0⟩ := Kd.at_int (Kd.R_reads' HO638.out).2.2 t639 p641 q641; cases e641; replace p641 := eq_true p641; replace q641 := eq_true q641) | ((with_reducible refine gate_callee (f := 56) rfl ?_); refine gl_ 26 Tryd.func56 #[.pointer (some ⟨g, 0, none⟩), .int .i64 5] ?_; (with_reducible refine (spec_l6Rd_pick.calls k g s0_0 t640 5 t642 t643 w0 _ ?side1 ?side2 A12.out).mono ?_); (case side1 => repeat (first | (with_reducible first | exact HI0.out | apply IsS96.alloc | apply IsS96.drewN | apply IsS96.drew | apply IsS96.set_1 | refine IsS96.far ?_ NB0_620.out _ | refine IsS96.far ?_ NB0_625.out _) | exact HI0.out)); (case side2 => exact bel_); rintro e w31 ⟨rfl, hi, hb, hk⟩; refine ⟨_, rfl, ?_⟩; replace BK620 := Aside0.mk (KeepBut.blk hk (g' := gb620) (o := .cells #[.int .i64 0, .int .i64 0, .int .i64 0, .int .i64 0, .string (⟨#[]⟩ : ByteArray)] 54 (0, 0)) (bp_ BK620.out) NB620_0.out (by simp)); replace BK625 := Aside0.mk (KeepBut.blk hk (g' := gb625) (o := .cells #[.int .i64 2, .int .i64 t621, .int .i64 0, .int .i64 0, .string t623] 54 (0, 0)) (bp_ BK625.out) NB625_0.out (by simp)); replace HO630 := Aside0.mk (Kd.R_mono (Kd.R_keep (IsS96.apart (show IsS96 w0 _ g s0_0 t640 from by repeat (first | (with_reducible first | exact HI0.out | apply IsS96.alloc | apply IsS96.drewN | apply IsS96.drew | apply IsS96.set_1 | refine IsS96.far ?_ NB0_620.out _ | refine IsS96.far ?_ NB0_625.out _) | exact HI0.out)) (rp_ HO630.out) (by decide)) hk (fun _ h => h.2)) (fun _ h => h.1)); replace HO638 := Aside0.mk (Kd.R_mono (Kd.R_keep (IsS96.apart (show IsS96 w0 _ g s0_0 t640 from by repeat (first | (with_reducible first | exact HI0.out | apply IsS96.alloc | apply IsS96.drewN | apply IsS96.drew | apply IsS96.set_1 | refine IsS96.far ?_ NB0_620.out _ | refine IsS96.far ?_ NB0_625.out _) | exact HI0.out)) (rp_ HO638.out) (by decide)) hk (fun _ h => h.2)) (fun _ h => h.1)); replace HK := Aside0.mk (KeepBut.trans (by repeat (first | (with_reducible first | exact HK.out | apply KeepBut.set_ | apply keep_drewN | apply keep_drew | apply keep_alloc | refine keep_far ?_ GW620.out _ | refine keep_far ?_ GW625.out _) | exact HK.out)) hk (.inl rfl)); replace HB := Aside0.mk (hb); replace HI0 := Aside0.mk (hi); (try clear hb); (try clear hb2); (try clear hk); (try clear hi)))
     (try simp only [Act.put, List.setIfInBounds_toArray, List.set_cons_zero, List.set_cons_succ])
     go_cut [] (fun wc => ∃ (kq : Nat) (x626000_12 : Int) (x626001_12 : Int) (x626002_12 : Int) (x626003_12 : Int) (x626004_12 : ByteArray), Aside0 (spec_l71Op.j1 kq s0_0 t643 x626000_12 x626001_12 x626002_12 x626003_12 x626004_12 = some (r1, r2, r3, r4, r5, r6)) ∧ Aside0 (kq ≤ k) ∧ Aside0 (wc.heap[gb620]? = some (.cells #[.int .i64 0, .int .i64 0, .int .i64 0, .int .i64 0, .string (⟨#[]⟩ : ByteArray)] 54 (0, 0))) ∧ Aside0 (wc.heap[gb625]? = some (.cells #[.int .i64 x626000_12, .int .i64 x626001_12, .int .i64 x626002_12, .int .i64 x626003_12, .string x626004_12] 54 (0, 0))) ∧ Aside0 (IsS96 w0 wc g s0_0 t643) ∧ Aside0 (KeepBut w wc g none) ∧ Aside0 (Below w0.heap.size w0 wc))
     case first =>
      have H := HC13.out
      clear HC13
      have HC32 := Aside0.mk H
      clear H
      go_upto_if 27 with (fail)
      go_cut [27] (fun v27 wc => ∃ (kq : Nat) (x27_31 : Bool), v27 = .bool x27_31 ∧ Aside0 (spec_l71Op.j0 kq (rd y628 t631) (rd y636 t639) t642 x27_31 s0_0 t643 2 t621 0 0 t623 = some (r1, r2, r3, r4, r5, r6)) ∧ Aside0 (kq ≤ k) ∧ Aside0 (wc.heap[gb620]? = some (.cells #[.int .i64 0, .int .i64 0, .int .i64 0, .int .i64 0, .string (⟨#[]⟩ : ByteArray)] 54 (0, 0))) ∧ Aside0 (wc.heap[gb625]? = some (.cells #[.int .i64 2, .int .i64 t621, .int .i64 0, .int .i64 0, .string t623] 54 (0, 0))) ∧ Aside0 (IsS96 w0 wc g s0_0 t643) ∧ Aside0 (KeepBut w wc g none) ∧ Aside0 (Below w0.heap.size w0 wc))
      case first =>
       have H := HC32.out
       clear HC32
       by_cases c33 : t642 = 0
       ·rw [if_pos c33] at H
        have c33b0 : (t642 == 0) = true := beq_iff_eq.mpr c33
        have c33b1 : (t642 != 0) = false := bne_eq_false_iff_eq.mpr c33
        clear c33
        (first | rw [c33b0] | (simp only [i64_w, i32_w]; rw [c33b0]) | skip)
        have H' := Aside0.mk H
        clear H
        go_wp2
        go_meet
        case rel => exact ⟨_, ((t642 == 0)), (si_), H', ⟨by first | omega | exact Nat.le_refl _⟩, ⟨by (with_reducible repeat (first | refine blk_drewN ?_ _ | refine blk_drew ?_ | refine blk_alloc ?_ _)); exact BK620.out⟩, ⟨by (with_reducible repeat (first | refine blk_drewN ?_ _ | refine blk_drew ?_ | refine blk_alloc ?_ _)); exact BK625.out⟩, ⟨by repeat (first | (with_reducible first | exact HI0.out | apply IsS96.alloc | apply IsS96.drewN | apply IsS96.drew | apply IsS96.set_1 | refine IsS96.far ?_ NB0_620.out _ | refine IsS96.far ?_ NB0_625.out _) | exact HI0.out)⟩, ⟨by repeat (first | (with_reducible first | exact HK.out | apply KeepBut.set_ | apply keep_drewN | apply keep_drew | apply keep_alloc | refine keep_far ?_ GW620.out _ | refine keep_far ?_ GW625.out _) | exact HK.out)⟩, ⟨bel_⟩⟩
       ·rw [if_neg c33] at H
        have c33b0 : (t642 == 0) = false := beq_eq_false_iff_ne.mpr c33
        have c33b1 : (t642 != 0) = true := bne_iff_ne.mpr c33
        (first | rw [c33b0] | (simp only [i64_w, i32_w]; rw [c33b0]) | skip)
        have H' := Aside0.mk H
        clear H
        go_wp2
        go_meet
        case rel => exact ⟨_, ((t642 == 1)), (si_), H', ⟨by first | omega | exact Nat.le_refl _⟩, ⟨by (with_reducible repeat (first | refine blk_drewN ?_ _ | refine blk_drew ?_ | refine blk_alloc ?_ _)); exact BK620.out⟩, ⟨by (with_reducible repeat (first | refine blk_drewN ?_ _ | refine blk_drew ?_ | refine blk_alloc ?_ _)); exact BK625.out⟩, ⟨by repeat (first | (with_reducible first | exact HI0.out | apply IsS96.alloc | apply IsS96.drewN | apply IsS96.drew | apply IsS96.set_1 | refine IsS96.far ?_ NB0_620.out _ | refine IsS96.far ?_ NB0_625.out _) | exact HI0.out)⟩, ⟨by repeat (first | (with_reducible first | exact HK.out | apply KeepBut.set_ | apply keep_drewN | apply keep_drew | apply keep_alloc | refine keep_far ?_ GW620.out _ | refine keep_far ?_ GW625.out _) | exact HK.out)⟩, ⟨bel_⟩⟩
      case rest =>
       clear HC32
       try clear c1
       try clear p2
       try clear c3
       try clear c5
       try clear c6
       try clear c6b0
       try clear p6
       try clear q6
       try clear hx6
       try clear c7
       try clear c7b0
       try clear c9
       try clear c10
       try clear c10b0
       try clear c11
       try clear c11b0
       try clear c18
       try clear c19
       try clear c33
       try clear c33b0
       try clear c33b1
       try clear hcz20_0
       try clear hcz20_1
       try clear hcz20_2
       try clear hcz20_3
       try clear hcz20_4
       try clear hfz20_0
       try clear hfz20_1
       try clear hfz20_2
       try clear hfz20_3
       try clear hfz20_4
       try clear hx633_0
       try clear hx641_0
       try clear p633
       try clear p641
       try clear q633
       try clear q641
       obtain ⟨kq, x27_31, rfl, HA, HJ31, BK620, BK625, HI0, HK, HB⟩ := hcut
       cases kq with
       | zero => exact absurd HA.out (by simp [spec_l71Op.j0])
       | succ kj31 =>
        have H := HA.out
        clear HA
        simp only [spec_l71Op.j0] at H
        by_cases c34 : x27_31 = true
        ·subst c34
         have H1 : (spec_l71Op.j1 kj31 s0_0 t643 1 t621 (rd y628 t631) (rd y636 t639) t623) = some (r1, r2, r3, r4, r5, r6) := by rw [if_pos rfl] at H; exact H
         clear H
         have H := H1
         clear H1
         have H' := Aside0.mk H
         clear H
         have hnb35 := NB625_620.out
         have hnc35 := NB620_625.out
         have hnb36 := NB625_0.out
         have hnc36 := NB0_625.out
         have hcz37_0 : wc.cell? ⟨gb625, 0, none⟩ = some (.int .i64 2) := (blk_cell BK625.out 0).trans rfl
         have hcz37_1 : wc.cell? ⟨gb625, 1, none⟩ = some (.int .i64 t621) := (blk_cell BK625.out 1).trans rfl
         have hcz37_2 : wc.cell? ⟨gb625, 2, none⟩ = some (.int .i64 0) := (blk_cell BK625.out 2).trans rfl
         have hcz37_3 : wc.cell? ⟨gb625, 3, none⟩ = some (.int .i64 0) := (blk_cell BK625.out 3).trans rfl
         have hcz37_4 : wc.cell? ⟨gb625, 4, none⟩ = some (.string t623) := (blk_cell BK625.out 4).trans rfl
         have hfz37_0 := blk_frozen BK625.out 0
         have hfz37_1 := blk_frozen BK625.out 1
         have hfz37_2 := blk_frozen BK625.out 2
         have hfz37_3 := blk_frozen BK625.out 3
         have hfz37_4 := blk_frozen BK625.out 4
         go_wp2
         go_meet
         case rel => exact ⟨_, (1), (t621), ((rd y628 t631)), ((rd y636 t639)), (t623), H', ⟨by have := HJ31.out; first | omega | exact Nat.le_refl _⟩, ⟨by (with_reducible repeat (first | refine blk_drewN ?_ _ | refine blk_drew ?_ | refine blk_alloc ?_ _)); refine blk_far ?_ NB620_625.out _; (with_reducible repeat (first | refine blk_drewN ?_ _ | refine blk_drew ?_ | refine blk_alloc ?_ _)); refine blk_far ?_ NB620_625.out _; (with_reducible repeat (first | refine blk_drewN ?_ _ | refine blk_drew ?_ | refine blk_alloc ?_ _)); refine blk_far ?_ NB620_625.out _; (with_reducible repeat (first | refine blk_drewN ?_ _ | refine blk_drew ?_ | refine blk_alloc ?_ _)); refine blk_far ?_ NB620_625.out _; (with_reducible repeat (first | refine blk_drewN ?_ _ | refine blk_drew ?_ | refine blk_alloc ?_ _)); refine blk_far ?_ NB620_625.out _; (with_reducible repeat (first | refine blk_drewN ?_ _ | refine blk_drew ?_ | refine blk_alloc ?_ _)); exact BK620.out⟩, ⟨by (with_reducible repeat (first | refine blk_drewN ?_ _ | refine blk_drew ?_ | refine blk_alloc ?_ _)); refine blk_put (cs := #[.int .i64 1, .int .i64 t621, .int .i64 (rd y628 t631), .int .i64 (rd y636 t639), .string t623]) ?_ 4 _ rfl; (with_reducible repeat (first | refine blk_drewN ?_ _ | refine blk_drew ?_ | refine blk_alloc ?_ _)); refine blk_put (cs := #[.int .i64 1, .int .i64 t621, .int .i64 (rd y628 t631), .int .i64 0, .string t623]) ?_ 3 _ rfl; (with_reducible repeat (first | refine blk_drewN ?_ _ | refine blk_drew ?_ | refine blk_alloc ?_ _)); refine blk_put (cs := #[.int .i64 1, .int .i64 t621, .int .i64 0, .int .i64 0, .string t623]) ?_ 2 _ rfl; (with_reducible repeat (first | refine blk_drewN ?_ _ | refine blk_drew ?_ | refine blk_alloc ?_ _)); refine blk_put (cs := #[.int .i64 1, .int .i64 t621, .int .i64 0, .int .i64 0, .string t623]) ?_ 1 _ rfl; (with_reducible repeat (first | refine blk_drewN ?_ _ | refine blk_drew ?_ | refine blk_alloc ?_ _)); refine blk_put (cs := #[.int .i64 2, .int .i64 t621, .int .i64 0, .int .i64 0, .string t623]) ?_ 0 _ rfl; (with_reducible repeat (first | refine blk_drewN ?_ _ | refine blk_drew ?_ | refine blk_alloc ?_ _)); exact BK625.out⟩, ⟨by repeat (first | (with_reducible first | exact HI0.out | apply IsS96.alloc | apply IsS96.drewN | apply IsS96.drew | apply IsS96.set_1 | refine IsS96.far ?_ NB0_620.out _ | refine IsS96.far ?_ NB0_625.out _) | exact HI0.out)⟩, ⟨by repeat (first | (with_reducible first | exact HK.out | apply KeepBut.set_ | apply keep_drewN | apply keep_drew | apply keep_alloc | refine keep_far ?_ GW620.out _ | refine keep_far ?_ GW625.out _) | exact HK.out)⟩, ⟨bel_⟩⟩
        ·replace c34 := Bool.eq_false_iff.mpr c34
         subst c34
         have H1 : (if t642 = 2 then (spec_l71Op.j1 kj31 s0_0 t643 3 t621 (rd y628 t631) (rd y636 t639) (⟨#[]⟩ : ByteArray)) else (if t642 = 3 then (spec_l71Op.j1 kj31 s0_0 t643 3 t621 (rd y628 t631) (rd y636 t639) (⟨#[]⟩ : ByteArray)) else (spec_l71Op.j1 kj31 s0_0 t643 2 t621 0 0 t623))) = some (r1, r2, r3, r4, r5, r6) := by rw [if_neg (show ¬ (false = true) by decide)] at H; exact H
         clear H
         have H := H1
         clear H1
         by_cases c38 : t642 = 2
         ·rw [if_pos c38] at H
          have c38b0 : (t642 == 2) = true := beq_iff_eq.mpr c38
          have c38b1 : (t642 != 2) = false := bne_eq_false_iff_eq.mpr c38
          clear c38
          have H' := Aside0.mk H
          clear H
          have hnb39 := NB625_620.out
          have hnc39 := NB620_625.out
          have hnb40 := NB625_0.out
          have hnc40 := NB0_625.out
          have hcz41_0 : wc.cell? ⟨gb625, 0, none⟩ = some (.int .i64 2) := (blk_cell BK625.out 0).trans rfl
          have hcz41_1 : wc.cell? ⟨gb625, 1, none⟩ = some (.int .i64 t621) := (blk_cell BK625.out 1).trans rfl
          have hcz41_2 : wc.cell? ⟨gb625, 2, none⟩ = some (.int .i64 0) := (blk_cell BK625.out 2).trans rfl
          have hcz41_3 : wc.cell? ⟨gb625, 3, none⟩ = some (.int .i64 0) := (blk_cell BK625.out 3).trans rfl
          have hcz41_4 : wc.cell? ⟨gb625, 4, none⟩ = some (.string t623) := (blk_cell BK625.out 4).trans rfl
          have hfz41_0 := blk_frozen BK625.out 0
          have hfz41_1 := blk_frozen BK625.out 1
          have hfz41_2 := blk_frozen BK625.out 2
          have hfz41_3 := blk_frozen BK625.out 3
          have hfz41_4 := blk_frozen BK625.out 4
          go_wp2
          go_meet
          case rel => exact ⟨_, (3), (t621), ((rd y628 t631)), ((rd y636 t639)), ((⟨#[]⟩ : ByteArray)), H', ⟨by have := HJ31.out; first | omega | exact Nat.le_refl _⟩, ⟨by (with_reducible repeat (first | refine blk_drewN ?_ _ | refine blk_drew ?_ | refine blk_alloc ?_ _)); refine blk_far ?_ NB620_625.out _; (with_reducible repeat (first | refine blk_drewN ?_ _ | refine blk_drew ?_ | refine blk_alloc ?_ _)); refine blk_far ?_ NB620_625.out _; (with_reducible repeat (first | refine blk_drewN ?_ _ | refine blk_drew ?_ | refine blk_alloc ?_ _)); refine blk_far ?_ NB620_625.out _; (with_reducible repeat (first | refine blk_drewN ?_ _ | refine blk_drew ?_ | refine blk_alloc ?_ _)); refine blk_far ?_ NB620_625.out _; (with_reducible repeat (first | refine blk_drewN ?_ _ | refine blk_drew ?_ | refine blk_alloc ?_ _)); refine blk_far ?_ NB620_625.out _; (with_reducible repeat (first | refine blk_drewN ?_ _ | refine blk_drew ?_ | refine blk_alloc ?_ _)); exact BK620.out⟩, ⟨by (with_reducible repeat (first | refine blk_drewN ?_ _ | refine blk_drew ?_ | refine blk_alloc ?_ _)); refine blk_put (cs := #[.int .i64 3, .int .i64 t621, .int .i64 (rd y628 t631), .int .i64 (rd y636 t639), .string t623]) ?_ 4 _ rfl; (with_reducible repeat (first | refine blk_drewN ?_ _ | refine blk_drew ?_ | refine blk_alloc ?_ _)); refine blk_put (cs := #[.int .i64 3, .int .i64 t621, .int .i64 (rd y628 t631), .int .i64 0, .string t623]) ?_ 3 _ rfl; (with_reducible repeat (first | refine blk_drewN ?_ _ | refine blk_drew ?_ | refine blk_alloc ?_ _)); refine blk_put (cs := #[.int .i64 3, .int .i64 t621, .int .i64 0, .int .i64 0, .string t623]) ?_ 2 _ rfl; (with_reducible repeat (first | refine blk_drewN ?_ _ | refine blk_drew ?_ | refine blk_alloc ?_ _)); refine blk_put (cs := #[.int .i64 3, .int .i64 t621, .int .i64 0, .int .i64 0, .string t623]) ?_ 1 _ rfl; (with_reducible repeat (first | refine blk_drewN ?_ _ | refine blk_drew ?_ | refine blk_alloc ?_ _)); refine blk_put (cs := #[.int .i64 2, .int .i64 t621, .int .i64 0, .int .i64 0, .string t623]) ?_ 0 _ rfl; (with_reducible repeat (first | refine blk_drewN ?_ _ | refine blk_drew ?_ | refine blk_alloc ?_ _)); exact BK625.out⟩, ⟨by repeat (first | (with_reducible first | exact HI0.out | apply IsS96.alloc | apply IsS96.drewN | apply IsS96.drew | apply IsS96.set_1 | refine IsS96.far ?_ NB0_620.out _ | refine IsS96.far ?_ NB0_625.out _) | exact HI0.out)⟩, ⟨by repeat (first | (with_reducible first | exact HK.out | apply KeepBut.set_ | apply keep_drewN | apply keep_drew | apply keep_alloc | refine keep_far ?_ GW620.out _ | refine keep_far ?_ GW625.out _) | exact HK.out)⟩, ⟨bel_⟩⟩
         ·rw [if_neg c38] at H
          have c38b0 : (t642 == 2) = false := beq_eq_false_iff_ne.mpr c38
          have c38b1 : (t642 != 2) = true := bne_iff_ne.mpr c38
          by_cases c42 : t642 = 3
          ·rw [if_pos c42] at H
           have c42b0 : (t642 == 3) = true := beq_iff_eq.mpr c42
           have c42b1 : (t642 != 3) = false := bne_eq_false_iff_eq.mpr c42
           clear c42
           have H' := Aside0.mk H
           clear H
           have hnb43 := NB625_620.out
           have hnc43 := NB620_625.out
           have hnb44 := NB625_0.out
           have hnc44 := NB0_625.out
           have hcz45_0 : wc.cell? ⟨gb625, 0, none⟩ = some (.int .i64 2) := (blk_cell BK625.out 0).trans rfl
           have hcz45_1 : wc.cell? ⟨gb625, 1, none⟩ = some (.int .i64 t621) := (blk_cell BK625.out 1).trans rfl
           have hcz45_2 : wc.cell? ⟨gb625, 2, none⟩ = some (.int .i64 0) := (blk_cell BK625.out 2).trans rfl
           have hcz45_3 : wc.cell? ⟨gb625, 3, none⟩ = some (.int .i64 0) := (blk_cell BK625.out 3).trans rfl
           have hcz45_4 : wc.cell? ⟨gb625, 4, none⟩ = some (.string t623) := (blk_cell BK625.out 4).trans rfl
           have hfz45_0 := blk_frozen BK625.out 0
           have hfz45_1 := blk_frozen BK625.out 1
           have hfz45_2 := blk_frozen BK625.out 2
           have hfz45_3 := blk_frozen BK625.out 3
           have hfz45_4 := blk_frozen BK625.out 4
           go_wp2
           go_meet
           case rel => exact ⟨_, (3), (t621), ((rd y628 t631)), ((rd y636 t639)), ((⟨#[]⟩ : ByteArray)), H', ⟨by have := HJ31.out; first | omega | exact Nat.le_refl _⟩, ⟨by (with_reducible repeat (first | refine blk_drewN ?_ _ | refine blk_drew ?_ | refine blk_alloc ?_ _)); refine blk_far ?_ NB620_625.out _; (with_reducible repeat (first | refine blk_drewN ?_ _ | refine blk_drew ?_ | refine blk_alloc ?_ _)); refine blk_far ?_ NB620_625.out _; (with_reducible repeat (first | refine blk_drewN ?_ _ | refine blk_drew ?_ | refine blk_alloc ?_ _)); refine blk_far ?_ NB620_625.out _; (with_reducible repeat (first | refine blk_drewN ?_ _ | refine blk_drew ?_ | refine blk_alloc ?_ _)); refine blk_far ?_ NB620_625.out _; (with_reducible repeat (first | refine blk_drewN ?_ _ | refine blk_drew ?_ | refine blk_alloc ?_ _)); refine blk_far ?_ NB620_625.out _; (with_reducible repeat (first | refine blk_drewN ?_ _ | refine blk_drew ?_ | refine blk_alloc ?_ _)); exact BK620.out⟩, ⟨by (with_reducible repeat (first | refine blk_drewN ?_ _ | refine blk_drew ?_ | refine blk_alloc ?_ _)); refine blk_put (cs := #[.int .i64 3, .int .i64 t621, .int .i64 (rd y628 t631), .int .i64 (rd y636 t639), .string t623]) ?_ 4 _ rfl; (with_reducible repeat (first | refine blk_drewN ?_ _ | refine blk_drew ?_ | refine blk_alloc ?_ _)); refine blk_put (cs := #[.int .i64 3, .int .i64 t621, .int .i64 (rd y628 t631), .int .i64 0, .string t623]) ?_ 3 _ rfl; (with_reducible repeat (first | refine blk_drewN ?_ _ | refine blk_drew ?_ | refine blk_alloc ?_ _)); refine blk_put (cs := #[.int .i64 3, .int .i64 t621, .int .i64 0, .int .i64 0, .string t623]) ?_ 2 _ rfl; (with_reducible repeat (first | refine blk_drewN ?_ _ | refine blk_drew ?_ | refine blk_alloc ?_ _)); refine blk_put (cs := #[.int .i64 3, .int .i64 t621, .int .i64 0, .int .i64 0, .string t623]) ?_ 1 _ rfl; (with_reducible repeat (first | refine blk_drewN ?_ _ | refine blk_drew ?_ | refine blk_alloc ?_ _)); refine blk_put (cs := #[.int .i64 2, .int .i64 t621, .int .i64 0, .int .i64 0, .string t623]) ?_ 0 _ rfl; (with_reducible repeat (first | refine blk_drewN ?_ _ | refine blk_drew ?_ | refine blk_alloc ?_ _)); exact BK625.out⟩, ⟨by repeat (first | (with_reducible first | exact HI0.out | apply IsS96.alloc | apply IsS96.drewN | apply IsS96.drew | apply IsS96.set_1 | refine IsS96.far ?_ NB0_620.out _ | refine IsS96.far ?_ NB0_625.out _) | exact HI0.out)⟩, ⟨by repeat (first | (with_reducible first | exact HK.out | apply KeepBut.set_ | apply keep_drewN | apply keep_drew | apply keep_alloc | refine keep_far ?_ GW620.out _ | refine keep_far ?_ GW625.out _) | exact HK.out)⟩, ⟨bel_⟩⟩
          ·rw [if_neg c42] at H
           have c42b0 : (t642 == 3) = false := beq_eq_false_iff_ne.mpr c42
           have c42b1 : (t642 != 3) = true := bne_iff_ne.mpr c42
           have H' := Aside0.mk H
           clear H
           go_wp2
           go_meet
           case rel => exact ⟨_, (2), (t621), (0), (0), (t623), H', ⟨by have := HJ31.out; first | omega | exact Nat.le_refl _⟩, ⟨by (with_reducible repeat (first | refine blk_drewN ?_ _ | refine blk_drew ?_ | refine blk_alloc ?_ _)); exact BK620.out⟩, ⟨by (with_reducible repeat (first | refine blk_drewN ?_ _ | refine blk_drew ?_ | refine blk_alloc ?_ _)); exact BK625.out⟩, ⟨by repeat (first | (with_reducible first | exact HI0.out | apply IsS96.alloc | apply IsS96.drewN | apply IsS96.drew | apply IsS96.set_1 | refine IsS96.far ?_ NB0_620.out _ | refine IsS96.far ?_ NB0_625.out _) | exact HI0.out)⟩, ⟨by repeat (first | (with_reducible first | exact HK.out | apply KeepBut.set_ | apply keep_drewN | apply keep_drew | apply keep_alloc | refine keep_far ?_ GW620.out _ | refine keep_far ?_ GW625.out _) | exact HK.out)⟩, ⟨bel_⟩⟩
     case rest =>
      clear HC13
      try clear c1
      try clear p2
      try clear c3
      try clear c4
      try clear c5
      try clear c6
      try clear c6b0
      try clear p6
      try clear q6
      try clear hx6
      try clear c7
      try clear c7b0
      try clear c9
      try clear c10
      try clear c10b0
      try clear c11
      try clear c11b0
      try clear c18
      try clear c19
      try clear c33
      try clear c33b0
      try clear c33b1
      try clear c34
      try clear c35
      try clear c36
      try clear c38
      try clear c38b0
      try clear c38b1
      try clear c39
      try clear c40
      try clear c42
      try clear c42b0
      try clear c42b1
      try clear c43
      try clear c44
      try clear hcz20_0
      try clear hcz20_1
      try clear hcz20_2
      try clear hcz20_3
      try clear hcz20_4
      try clear hcz37_0
      try clear hcz37_1
      try clear hcz37_2
      try clear hcz37_3
      try clear hcz37_4
      try clear hcz41_0
      try clear hcz41_1
      try clear hcz41_2
      try clear hcz41_3
      try clear hcz41_4
      try clear hcz45_0
      try clear hcz45_1
      try clear hcz45_2
      try clear hcz45_3
      try clear hcz45_4
      try clear hfz20_0
      try clear hfz20_1
      try clear hfz20_2
      try clear hfz20_3
      try clear hfz20_4
      try clear hfz37_0
      try clear hfz37_1
      try clear hfz37_2
      try clear hfz37_3
      try clear hfz37_4
      try clear hfz41_0
      try clear hfz41_1
      try clear hfz41_2
      try clear hfz41_3
      try clear hfz41_4
      try clear hfz45_0
      try clear hfz45_1
      try clear hfz45_2
      try clear hfz45_3
      try clear hfz45_4
      try clear hx633_0
      try clear hx641_0
      try clear p2
      try clear p6
      try clear p633
      try clear p641
      try clear q6
      try clear q633
      try clear q641
      obtain ⟨kq, x626000_12, x626001_12, x626002_12, x626003_12, x626004_12, HA, HJ12, BK620, BK625, HI0, HK, HB⟩ := hcut
      cases kq with
      | zero => exact absurd HA.out (by simp [spec_l71Op.j1])
      | succ kj12 =>
       have H := HA.out
       clear HA
       simp only [spec_l71Op.j1] at H
       replace H := Option.bind_eq_some_iff.mp H
       obtain ⟨⟨t644, t645⟩, A460, H⟩ := H
       replace H : (if t644 = 0 then ((spec_l6Rd_pick.f kj12 s0_0 t645 5).bind fun bt646 => (some (bt646.1, x626001_12, x626002_12, x626003_12, x626004_12, bt646.2))) else (if t644 = 1 then ((spec_l6Rd_pick.f kj12 s0_0 t645 50).bind fun bt648 => (some (x626000_12, bt648.1, x626002_12, x626003_12, x626004_12, bt648.2))) else (if t644 = 2 then ((spec_l6Rd_pick.f kj12 s0_0 t645 50).bind fun bt650 => (some (x626000_12, x626001_12, bt650.1, x626003_12, x626004_12, bt650.2))) else (if t644 = 3 then ((spec_l6Rd_pick.f kj12 s0_0 t645 50).bind fun bt652 => (some (x626000_12, x626001_12, x626002_12, bt652.1, x626004_12, bt652.2))) else (some (x626000_12, x626001_12, x626002_12, x626003_12, x626004_12, t645)))))) = some (r1, r2, r3, r4, r5, r6) := H
       have A46 := Aside0.mk A460
       clear A460
       by_cases c47 : t644 = 0
       ·rw [if_pos c47] at H
        have c47b0 : (t644 == 0) = true := beq_iff_eq.mpr c47
        have c47b1 : (t644 != 0) = false := bne_eq_false_iff_eq.mpr c47
        clear c47
        replace H := Option.bind_eq_some_iff.mp H
        obtain ⟨⟨t646, t647⟩, A480, H⟩ := H
        replace H : (some (t646, x626001_12, x626002_12, x626003_12, x626004_12, t647)) = some (r1, r2, r3, r4, r5, r6) := H
        have A48 := Aside0.mk A480
        clear A480
        simp only [Option.some.injEq, Prod.mk.injEq] at H
        obtain ⟨rfl, rfl, rfl, rfl, rfl, rfl⟩ := H
        go_wp2_with (first | ((with_reducible refine gate_callee (f := 56) rfl ?_); refine gl_ 46 Tryd.func56 #[.pointer (some ⟨g, 0, none⟩), .int .i64 30] ?_; (with_reducible refine (spec_l6Rd_pick.calls kj12 g s0_0 t643 30 t644 t645 w0 _ ?side1 ?side2 A46.out).mono ?_); (case side1 => repeat (first | (with_reducible first | exact HI0.out | apply IsS96.alloc | apply IsS96.drewN | apply IsS96.drew | apply IsS96.set_1 | refine IsS96.far ?_ NB0_620.out _ | refine IsS96.far ?_ NB0_625.out _) | exact HI0.out)); (case side2 => exact bel_); rintro e w49 ⟨rfl, hi, hb, hk⟩; refine ⟨_, rfl, ?_⟩; replace BK620 := Aside0.mk (KeepBut.blk hk (g' := gb620) (o := .cells #[.int .i64 0, .int .i64 0, .int .i64 0, .int .i64 0, .string (⟨#[]⟩ : ByteArray)] 54 (0, 0)) (bp_ BK620.out) NB620_0.out (by simp)); replace BK625 := Aside0.mk (KeepBut.blk hk (g' := gb625) (o := .cells #[.int .i64 x626000_12, .int .i64 x626001_12, .int .i64 x626002_12, .int .i64 x626003_12, .string x626004_12] 54 (0, 0)) (bp_ BK625.out) NB625_0.out (by simp)); replace HK := Aside0.mk (KeepBut.trans (by repeat (first | (with_reducible first | exact HK.out | apply KeepBut.set_ | apply keep_drewN | apply keep_drew | apply keep_alloc | refine keep_far ?_ GW620.out _ | refine keep_far ?_ GW625.out _) | exact HK.out)) hk (.inl rfl)); replace HB := Aside0.mk (hb); replace HI0 := Aside0.mk (hi); (try clear hb); (try clear hb2); (try clear hk); (try clear hi)) | ((with_reducible refine gate_callee (f := 56) rfl ?_); refine gl_ 50 Tryd.func56 #[.pointer (some ⟨g, 0, none⟩), .int .i64 5] ?_; (with_reducible refine (spec_l6Rd_pick.calls kj12 g s0_0 t645 5 t646 t647 w0 _ ?side1 ?side2 A48.out).mono ?_); (case side1 => repeat (first | (with_reducible first | exact HI0.out | apply IsS96.alloc | apply IsS96.drewN | apply IsS96.drew | apply IsS96.set_1 | refine IsS96.far ?_ NB0_620.out _ | refine IsS96.far ?_ NB0_625.out _) | exact HI0.out)); (case side2 => exact bel_); rintro e w50 ⟨rfl, hi, hb, hk⟩; refine ⟨_, rfl, ?_⟩; replace BK620 := Aside0.mk (KeepBut.blk hk (g' := gb620) (o := .cells #[.int .i64 0, .int .i64 0, .int .i64 0, .int .i64 0, .string (⟨#[]⟩ : ByteArray)] 54 (0, 0)) (bp_ BK620.out) NB620_0.out (by simp)); replace BK625 := Aside0.mk (KeepBut.blk hk (g' := gb625) (o := .cells #[.int .i64 x626000_12, .int .i64 x626001_12, .int .i64 x626002_12, .int .i64 x626003_12, .string x626004_12] 54 (0, 0)) (bp_ BK625.out) NB625_0.out (by simp)); replace HK := Aside0.mk (KeepBut.trans (by repeat (first | (with_reducible first | exact HK.out | apply KeepBut.set_ | apply keep_drewN | apply keep_drew | apply keep_alloc | refine keep_far ?_ GW620.out _ | refine keep_far ?_ GW625.out _) | exact HK.out)) hk (.inl rfl)); replace HB := Aside0.mk (hb); replace HI0 := Aside0.mk (hi); (try clear hb); (try clear hb2); (try clear hk); (try clear hi); have hnb51 := NB625_620.out; have hnc51 := NB620_625.out; have hnb52 := NB625_0.out; have hnc52 := NB0_625.out; have hcz53_0 : w50.cell? ⟨gb625, 0, none⟩ = some (.int .i64 x626000_12) := (blk_cell BK625.out 0).trans rfl; have hcz53_1 : w50.cell? ⟨gb625, 1, none⟩ = some (.int .i64 x626001_12) := (blk_cell BK625.out 1).trans rfl; have hcz53_2 : w50.cell? ⟨gb625, 2, none⟩ = some (.int .i64 x626002_12) := (blk_cell BK625.out 2).trans rfl; have hcz53_3 : w50.cell? ⟨gb625, 3, none⟩ = some (.int .i64 x626003_12) := (blk_cell BK625.out 3).trans rfl; have hcz53_4 : w50.cell? ⟨gb625, 4, none⟩ = some (.string x626004_12) := (blk_cell BK625.out 4).trans rfl; have hfz53_0 := blk_frozen BK625.out 0; have hfz53_1 := blk_frozen BK625.out 1; have hfz53_2 := blk_frozen BK625.out 2; have hfz53_3 := blk_frozen BK625.out 3; have hfz53_4 := blk_frozen BK625.out 4; have hnb54 := NB620_0.out; have hnc54 := NB0_620.out; have hcz55_0 : w50.cell? ⟨gb620, 0, none⟩ = some (.int .i64 0) := (blk_cell BK620.out 0).trans rfl; have hcz55_1 : w50.cell? ⟨gb620, 1, none⟩ = some (.int .i64 0) := (blk_cell BK620.out 1).trans rfl; have hcz55_2 : w50.cell? ⟨gb620, 2, none⟩ = some (.int .i64 0) := (blk_cell BK620.out 2).trans rfl; have hcz55_3 : w50.cell? ⟨gb620, 3, none⟩ = some (.int .i64 0) := (blk_cell BK620.out 3).trans rfl; have hcz55_4 : w50.cell? ⟨gb620, 4, none⟩ = some (.string (⟨#[]⟩ : ByteArray)) := (blk_cell BK620.out 4).trans rfl; have hfz55_0 := blk_frozen BK620.out 0; have hfz55_1 := blk_frozen BK620.out 1; have hfz55_2 := blk_frozen BK620.out 2; have hfz55_3 := blk_frozen BK620.out 3; have hfz55_4 := blk_frozen BK620.out 4))
        refine bodyPost_ret (results_cell_row rfl _ _ gb620 54 #[.int .i64 t646, .int .i64 x626001_12, .int .i64 x626002_12, .int .i64 x626003_12, .string x626004_12] (0, 0) _ rfl (by (with_reducible repeat (first | refine blk_drewN ?_ _ | refine blk_drew ?_ | refine blk_alloc ?_ _)); refine blk_put (cs := #[.int .i64 t646, .int .i64 x626001_12, .int .i64 x626002_12, .int .i64 x626003_12, .string (⟨#[]⟩ : ByteArray)]) ?_ 4 _ rfl; (with_reducible repeat (first | refine blk_drewN ?_ _ | refine blk_drew ?_ | refine blk_alloc ?_ _)); refine blk_put (cs := #[.int .i64 t646, .int .i64 x626001_12, .int .i64 x626002_12, .int .i64 0, .string (⟨#[]⟩ : ByteArray)]) ?_ 3 _ rfl; (with_reducible repeat (first | refine blk_drewN ?_ _ | refine blk_drew ?_ | refine blk_alloc ?_ _)); refine blk_put (cs := #[.int .i64 t646, .int .i64 x626001_12, .int .i64 0, .int .i64 0, .string (⟨#[]⟩ : ByteArray)]) ?_ 2 _ rfl; (with_reducible repeat (first | refine blk_drewN ?_ _ | refine blk_drew ?_ | refine blk_alloc ?_ _)); refine blk_put (cs := #[.int .i64 t646, .int .i64 0, .int .i64 0, .int .i64 0, .string (⟨#[]⟩ : ByteArray)]) ?_ 1 _ rfl; (with_reducible repeat (first | refine blk_drewN ?_ _ | refine blk_drew ?_ | refine blk_alloc ?_ _)); refine blk_put (cs := #[.int .i64 0, .int .i64 0, .int .i64 0, .int .i64 0, .string (⟨#[]⟩ : ByteArray)]) ?_ 0 _ rfl; (with_reducible repeat (first | refine blk_drewN ?_ _ | refine blk_drew ?_ | refine blk_alloc ?_ _)); refine blk_far ?_ NB620_625.out _; (with_reducible repeat (first | refine blk_drewN ?_ _ | refine blk_drew ?_ | refine blk_alloc ?_ _)); exact BK620.out) Tryd.underlying54 rfl (by kernel_rfl)) rfl ?_
        exact ⟨fi_, by repeat (first | (with_reducible first | exact HI0.out | apply IsS96.alloc | apply IsS96.drewN | apply IsS96.drew | apply IsS96.set_1 | refine IsS96.far ?_ NB0_620.out _ | refine IsS96.far ?_ NB0_625.out _) | exact HI0.out), bel_, by repeat (first | (with_reducible first | exact HK.out | apply KeepBut.set_ | apply keep_drewN | apply keep_drew | apply keep_alloc | refine keep_far ?_ GW620.out _ | refine keep_far ?_ GW625.out _) | exact HK.out)⟩
       ·rw [if_neg c47] at H
        have c47b0 : (t644 == 0) = false := beq_eq_false_iff_ne.mpr c47
        have c47b1 : (t644 != 0) = true := bne_iff_ne.mpr c47
        by_cases c56 : t644 = 1
        ·rw [if_pos c56] at H
         have c56b0 : (t644 == 1) = true := beq_iff_eq.mpr c56
         have c56b1 : (t644 != 1) = false := bne_eq_false_iff_eq.mpr c56
         clear c56
         replace H := Option.bind_eq_some_iff.mp H
         obtain ⟨⟨t648, t649⟩, A570, H⟩ := H
         replace H : (some (x626000_12, t648, x626002_12, x626003_12, x626004_12, t649)) = some (r1, r2, r3, r4, r5, r6) := H
         have A57 := Aside0.mk A570
         clear A570
         simp only [Option.some.injEq, Prod.mk.injEq] at H
         obtain ⟨rfl, rfl, rfl, rfl, rfl, rfl⟩ := H
         go_wp2_with (first | ((with_reducible refine gate_callee (f := 56) rfl ?_); refine gl_ 46 Tryd.func56 #[.pointer (some ⟨g, 0, none⟩), .int .i64 30] ?_; (with_reducible refine (spec_l6Rd_pick.calls kj12 g s0_0 t643 30 t644 t645 w0 _ ?side1 ?side2 A46.out).mono ?_); (case side1 => repeat (first | (with_reducible first | exact HI0.out | apply IsS96.alloc | apply IsS96.drewN | apply IsS96.drew | apply IsS96.set_1 | refine IsS96.far ?_ NB0_620.out _ | refine IsS96.far ?_ NB0_625.out _) | exact HI0.out)); (case side2 => exact bel_); rintro e w58 ⟨rfl, hi, hb, hk⟩; refine ⟨_, rfl, ?_⟩; replace BK620 := Aside0.mk (KeepBut.blk hk (g' := gb620) (o := .cells #[.int .i64 0, .int .i64 0, .int .i64 0, .int .i64 0, .string (⟨#[]⟩ : ByteArray)] 54 (0, 0)) (bp_ BK620.out) NB620_0.out (by simp)); replace BK625 := Aside0.mk (KeepBut.blk hk (g' := gb625) (o := .cells #[.int .i64 x626000_12, .int .i64 x626001_12, .int .i64 x626002_12, .int .i64 x626003_12, .string x626004_12] 54 (0, 0)) (bp_ BK625.out) NB625_0.out (by simp)); replace HK := Aside0.mk (KeepBut.trans (by repeat (first | (with_reducible first | exact HK.out | apply KeepBut.set_ | apply keep_drewN | apply keep_drew | apply keep_alloc | refine keep_far ?_ GW620.out _ | refine keep_far ?_ GW625.out _) | exact HK.out)) hk (.inl rfl)); replace HB := Aside0.mk (hb); replace HI0 := Aside0.mk (hi); (try clear hb); (try clear hb2); (try clear hk); (try clear hi)) | ((with_reducible refine gate_callee (f := 56) rfl ?_); refine gl_ 55 Tryd.func56 #[.pointer (some ⟨g, 0, none⟩), .int .i64 50] ?_; (with_reducible refine (spec_l6Rd_pick.calls kj12 g s0_0 t645 50 t648 t649 w0 _ ?side1 ?side2 A57.out).mono ?_); (case side1 => repeat (first | (with_reducible first | exact HI0.out | apply IsS96.alloc | apply IsS96.drewN | apply IsS96.drew | apply IsS96.set_1 | refine IsS96.far ?_ NB0_620.out _ | refine IsS96.far ?_ NB0_625.out _) | exact HI0.out)); (case side2 => exact bel_); rintro e w59 ⟨rfl, hi, hb, hk⟩; refine ⟨_, rfl, ?_⟩; replace BK620 := Aside0.mk (KeepBut.blk hk (g' := gb620) (o := .cells #[.int .i64 0, .int .i64 0, .int .i64 0, .int .i64 0, .string (⟨#[]⟩ : ByteArray)] 54 (0, 0)) (bp_ BK620.out) NB620_0.out (by simp)); replace BK625 := Aside0.mk (KeepBut.blk hk (g' := gb625) (o := .cells #[.int .i64 x626000_12, .int .i64 x626001_12, .int .i64 x626002_12, .int .i64 x626003_12, .string x626004_12] 54 (0, 0)) (bp_ BK625.out) NB625_0.out (by simp)); replace HK := Aside0.mk (KeepBut.trans (by repeat (first | (with_reducible first | exact HK.out | apply KeepBut.set_ | apply keep_drewN | apply keep_drew | apply keep_alloc | refine keep_far ?_ GW620.out _ | refine keep_far ?_ GW625.out _) | exact HK.out)) hk (.inl rfl)); replace HB := Aside0.mk (hb); replace HI0 := Aside0.mk (hi); (try clear hb); (try clear hb2); (try clear hk); (try clear hi); have hnb60 := NB625_620.out; have hnc60 := NB620_625.out; have hnb61 := NB625_0.out; have hnc61 := NB0_625.out; have hcz62_0 : w59.cell? ⟨gb625, 0, none⟩ = some (.int .i64 x626000_12) := (blk_cell BK625.out 0).trans rfl; have hcz62_1 : w59.cell? ⟨gb625, 1, none⟩ = some (.int .i64 x626001_12) := (blk_cell BK625.out 1).trans rfl; have hcz62_2 : w59.cell? ⟨gb625, 2, none⟩ = some (.int .i64 x626002_12) := (blk_cell BK625.out 2).trans rfl; have hcz62_3 : w59.cell? ⟨gb625, 3, none⟩ = some (.int .i64 x626003_12) := (blk_cell BK625.out 3).trans rfl; have hcz62_4 : w59.cell? ⟨gb625, 4, none⟩ = some (.string x626004_12) := (blk_cell BK625.out 4).trans rfl; have hfz62_0 := blk_frozen BK625.out 0; have hfz62_1 := blk_frozen BK625.out 1; have hfz62_2 := blk_frozen BK625.out 2; have hfz62_3 := blk_frozen BK625.out 3; have hfz62_4 := blk_frozen BK625.out 4; have hnb63 := NB620_0.out; have hnc63 := NB0_620.out; have hcz64_0 : w59.cell? ⟨gb620, 0, none⟩ = some (.int .i64 0) := (blk_cell BK620.out 0).trans rfl; have hcz64_1 : w59.cell? ⟨gb620, 1, none⟩ = some (.int .i64 0) := (blk_cell BK620.out 1).trans rfl; have hcz64_2 : w59.cell? ⟨gb620, 2, none⟩ = some (.int .i64 0) := (blk_cell BK620.out 2).trans rfl; have hcz64_3 : w59.cell? ⟨gb620, 3, none⟩ = some (.int .i64 0) := (blk_cell BK620.out 3).trans rfl; have hcz64_4 : w59.cell? ⟨gb620, 4, none⟩ = some (.string (⟨#[]⟩ : ByteArray)) := (blk_cell BK620.out 4).trans rfl; have hfz64_0 := blk_frozen BK620.out 0; have hfz64_1 := blk_frozen BK620.out 1; have hfz64_2 := blk_frozen BK620.out 2; have hfz64_3 := blk_frozen BK620.out 3; have hfz64_4 := blk_frozen BK620.out 4))
         refine bodyPost_ret (results_cell_row rfl _ _ gb620 54 #[.int .i64 x626000_12, .int .i64 t648, .int .i64 x626002_12, .int .i64 x626003_12, .string x626004_12] (0, 0) _ rfl (by (with_reducible repeat (first | refine blk_drewN ?_ _ | refine blk_drew ?_ | refine blk_alloc ?_ _)); refine blk_put (cs := #[.int .i64 x626000_12, .int .i64 t648, .int .i64 x626002_12, .int .i64 x626003_12, .string (⟨#[]⟩ : ByteArray)]) ?_ 4 _ rfl; (with_reducible repeat (first | refine blk_drewN ?_ _ | refine blk_drew ?_ | refine blk_alloc ?_ _)); refine blk_put (cs := #[.int .i64 x626000_12, .int .i64 t648, .int .i64 x626002_12, .int .i64 0, .string (⟨#[]⟩ : ByteArray)]) ?_ 3 _ rfl; (with_reducible repeat (first | refine blk_drewN ?_ _ | refine blk_drew ?_ | refine blk_alloc ?_ _)); refine blk_put (cs := #[.int .i64 x626000_12, .int .i64 t648, .int .i64 0, .int .i64 0, .string (⟨#[]⟩ : ByteArray)]) ?_ 2 _ rfl; (with_reducible repeat (first | refine blk_drewN ?_ _ | refine blk_drew ?_ | refine blk_alloc ?_ _)); refine blk_put (cs := #[.int .i64 x626000_12, .int .i64 0, .int .i64 0, .int .i64 0, .string (⟨#[]⟩ : ByteArray)]) ?_ 1 _ rfl; (with_reducible repeat (first | refine blk_drewN ?_ _ | refine blk_drew ?_ | refine blk_alloc ?_ _)); refine blk_put (cs := #[.int .i64 0, .int .i64 0, .int .i64 0, .int .i64 0, .string (⟨#[]⟩ : ByteArray)]) ?_ 0 _ rfl; (with_reducible repeat (first | refine blk_drewN ?_ _ | refine blk_drew ?_ | refine blk_alloc ?_ _)); refine blk_far ?_ NB620_625.out _; (with_reducible repeat (first | refine blk_drewN ?_ _ | refine blk_drew ?_ | refine blk_alloc ?_ _)); exact BK620.out) Tryd.underlying54 rfl (by kernel_rfl)) rfl ?_
         exact ⟨fi_, by repeat (first | (with_reducible first | exact HI0.out | apply IsS96.alloc | apply IsS96.drewN | apply IsS96.drew | apply IsS96.set_1 | refine IsS96.far ?_ NB0_620.out _ | refine IsS96.far ?_ NB0_625.out _) | exact HI0.out), bel_, by repeat (first | (with_reducible first | exact HK.out | apply KeepBut.set_ | apply keep_drewN | apply keep_drew | apply keep_alloc | refine keep_far ?_ GW620.out _ | refine keep_far ?_ GW625.out _) | exact HK.out)⟩
        ·rw [if_neg c56] at H
         have c56b0 : (t644 == 1) = false := beq_eq_false_iff_ne.mpr c56
         have c56b1 : (t644 != 1) = true := bne_iff_ne.mpr c56
         by_cases c65 : t644 = 2
         ·rw [if_pos c65] at H
          have c65b0 : (t644 == 2) = true := beq_iff_eq.mpr c65
          have c65b1 : (t644 != 2) = false := bne_eq_false_iff_eq.mpr c65
          clear c65
          replace H := Option.bind_eq_some_iff.mp H
          obtain ⟨⟨t650, t651⟩, A660, H⟩ := H
          replace H : (some (x626000_12, x626001_12, t650, x626003_12, x626004_12, t651)) = some (r1, r2, r3, r4, r5, r6) := H
          have A66 := Aside0.mk A660
          clear A660
          simp only [Option.some.injEq, Prod.mk.injEq] at H
          obtain ⟨rfl, rfl, rfl, rfl, rfl, rfl⟩ := H
          go_wp2_with (first | ((with_reducible refine gate_callee (f := 56) rfl ?_); refine gl_ 46 Tryd.func56 #[.pointer (some ⟨g, 0, none⟩), .int .i64 30] ?_; (with_reducible refine (spec_l6Rd_pick.calls kj12 g s0_0 t643 30 t644 t645 w0 _ ?side1 ?side2 A46.out).mono ?_); (case side1 => repeat (first | (with_reducible first | exact HI0.out | apply IsS96.alloc | apply IsS96.drewN | apply IsS96.drew | apply IsS96.set_1 | refine IsS96.far ?_ NB0_620.out _ | refine IsS96.far ?_ NB0_625.out _) | exact HI0.out)); (case side2 => exact bel_); rintro e w67 ⟨rfl, hi, hb, hk⟩; refine ⟨_, rfl, ?_⟩; replace BK620 := Aside0.mk (KeepBut.blk hk (g' := gb620) (o := .cells #[.int .i64 0, .int .i64 0, .int .i64 0, .int .i64 0, .string (⟨#[]⟩ : ByteArray)] 54 (0, 0)) (bp_ BK620.out) NB620_0.out (by simp)); replace BK625 := Aside0.mk (KeepBut.blk hk (g' := gb625) (o := .cells #[.int .i64 x626000_12, .int .i64 x626001_12, .int .i64 x626002_12, .int .i64 x626003_12, .string x626004_12] 54 (0, 0)) (bp_ BK625.out) NB625_0.out (by simp)); replace HK := Aside0.mk (KeepBut.trans (by repeat (first | (with_reducible first | exact HK.out | apply KeepBut.set_ | apply keep_drewN | apply keep_drew | apply keep_alloc | refine keep_far ?_ GW620.out _ | refine keep_far ?_ GW625.out _) | exact HK.out)) hk (.inl rfl)); replace HB := Aside0.mk (hb); replace HI0 := Aside0.mk (hi); (try clear hb); (try clear hb2); (try clear hk); (try clear hi)) | ((with_reducible refine gate_callee (f := 56) rfl ?_); refine gl_ 60 Tryd.func56 #[.pointer (some ⟨g, 0, none⟩), .int .i64 50] ?_; (with_reducible refine (spec_l6Rd_pick.calls kj12 g s0_0 t645 50 t650 t651 w0 _ ?side1 ?side2 A66.out).mono ?_); (case side1 => repeat (first | (with_reducible first | exact HI0.out | apply IsS96.alloc | apply IsS96.drewN | apply IsS96.drew | apply IsS96.set_1 | refine IsS96.far ?_ NB0_620.out _ | refine IsS96.far ?_ NB0_625.out _) | exact HI0.out)); (case side2 => exact bel_); rintro e w68 ⟨rfl, hi, hb, hk⟩; refine ⟨_, rfl, ?_⟩; replace BK620 := Aside0.mk (KeepBut.blk hk (g' := gb620) (o := .cells #[.int .i64 0, .int .i64 0, .int .i64 0, .int .i64 0, .string (⟨#[]⟩ : ByteArray)] 54 (0, 0)) (bp_ BK620.out) NB620_0.out (by simp)); replace BK625 := Aside0.mk (KeepBut.blk hk (g' := gb625) (o := .cells #[.int .i64 x626000_12, .int .i64 x626001_12, .int .i64 x626002_12, .int .i64 x626003_12, .string x626004_12] 54 (0, 0)) (bp_ BK625.out) NB625_0.out (by simp)); replace HK := Aside0.mk (KeepBut.trans (by repeat (first | (with_reducible first | exact HK.out | apply KeepBut.set_ | apply keep_drewN | apply keep_drew | apply keep_alloc | refine keep_far ?_ GW620.out _ | refine keep_far ?_ GW625.out _) | exact HK.out)) hk (.inl rfl)); replace HB := Aside0.mk (hb); replace HI0 := Aside0.mk (hi); (try clear hb); (try clear hb2); (try clear hk); (try clear hi); have hnb69 := NB625_620.out; have hnc69 := NB620_625.out; have hnb70 := NB625_0.out; have hnc70 := NB0_625.out; have hcz71_0 : w68.cell? ⟨gb625, 0, none⟩ = some (.int .i64 x626000_12) := (blk_cell BK625.out 0).trans rfl; have hcz71_1 : w68.cell? ⟨gb625, 1, none⟩ = some (.int .i64 x626001_12) := (blk_cell BK625.out 1).trans rfl; have hcz71_2 : w68.cell? ⟨gb625, 2, none⟩ = some (.int .i64 x626002_12) := (blk_cell BK625.out 2).trans rfl; have hcz71_3 : w68.cell? ⟨gb625, 3, none⟩ = some (.int .i64 x626003_12) := (blk_cell BK625.out 3).trans rfl; have hcz71_4 : w68.cell? ⟨gb625, 4, none⟩ = some (.string x626004_12) := (blk_cell BK625.out 4).trans rfl; have hfz71_0 := blk_frozen BK625.out 0; have hfz71_1 := blk_frozen BK625.out 1; have hfz71_2 := blk_frozen BK625.out 2; have hfz71_3 := blk_frozen BK625.out 3; have hfz71_4 := blk_frozen BK625.out 4; have hnb72 := NB620_0.out; have hnc72 := NB0_620.out; have hcz73_0 : w68.cell? ⟨gb620, 0, none⟩ = some (.int .i64 0) := (blk_cell BK620.out 0).trans rfl; have hcz73_1 : w68.cell? ⟨gb620, 1, none⟩ = some (.int .i64 0) := (blk_cell BK620.out 1).trans rfl; have hcz73_2 : w68.cell? ⟨gb620, 2, none⟩ = some (.int .i64 0) := (blk_cell BK620.out 2).trans rfl; have hcz73_3 : w68.cell? ⟨gb620, 3, none⟩ = some (.int .i64 0) := (blk_cell BK620.out 3).trans rfl; have hcz73_4 : w68.cell? ⟨gb620, 4, none⟩ = some (.string (⟨#[]⟩ : ByteArray)) := (blk_cell BK620.out 4).trans rfl; have hfz73_0 := blk_frozen BK620.out 0; have hfz73_1 := blk_frozen BK620.out 1; have hfz73_2 := blk_frozen BK620.out 2; have hfz73_3 := blk_frozen BK620.out 3; have hfz73_4 := blk_frozen BK620.out 4))
          refine bodyPost_ret (results_cell_row rfl _ _ gb620 54 #[.int .i64 x626000_12, .int .i64 x626001_12, .int .i64 t650, .int .i64 x626003_12, .string x626004_12] (0, 0) _ rfl (by (with_reducible repeat (first | refine blk_drewN ?_ _ | refine blk_drew ?_ | refine blk_alloc ?_ _)); refine blk_put (cs := #[.int .i64 x626000_12, .int .i64 x626001_12, .int .i64 t650, .int .i64 x626003_12, .string (⟨#[]⟩ : ByteArray)]) ?_ 4 _ rfl; (with_reducible repeat (first | refine blk_drewN ?_ _ | refine blk_drew ?_ | refine blk_alloc ?_ _)); refine blk_put (cs := #[.int .i64 x626000_12, .int .i64 x626001_12, .int .i64 t650, .int .i64 0, .string (⟨#[]⟩ : ByteArray)]) ?_ 3 _ rfl; (with_reducible repeat (first | refine blk_drewN ?_ _ | refine blk_drew ?_ | refine blk_alloc ?_ _)); refine blk_put (cs := #[.int .i64 x626000_12, .int .i64 x626001_12, .int .i64 0, .int .i64 0, .string (⟨#[]⟩ : ByteArray)]) ?_ 2 _ rfl; (with_reducible repeat (first | refine blk_drewN ?_ _ | refine blk_drew ?_ | refine blk_alloc ?_ _)); refine blk_put (cs := #[.int .i64 x626000_12, .int .i64 0, .int .i64 0, .int .i64 0, .string (⟨#[]⟩ : ByteArray)]) ?_ 1 _ rfl; (with_reducible repeat (first | refine blk_drewN ?_ _ | refine blk_drew ?_ | refine blk_alloc ?_ _)); refine blk_put (cs := #[.int .i64 0, .int .i64 0, .int .i64 0, .int .i64 0, .string (⟨#[]⟩ : ByteArray)]) ?_ 0 _ rfl; (with_reducible repeat (first | refine blk_drewN ?_ _ | refine blk_drew ?_ | refine blk_alloc ?_ _)); refine blk_far ?_ NB620_625.out _; (with_reducible repeat (first | refine blk_drewN ?_ _ | refine blk_drew ?_ | refine blk_alloc ?_ _)); exact BK620.out) Tryd.underlying54 rfl (by kernel_rfl)) rfl ?_
          exact ⟨fi_, by repeat (first | (with_reducible first | exact HI0.out | apply IsS96.alloc | apply IsS96.drewN | apply IsS96.drew | apply IsS96.set_1 | refine IsS96.far ?_ NB0_620.out _ | refine IsS96.far ?_ NB0_625.out _) | exact HI0.out), bel_, by repeat (first | (with_reducible first | exact HK.out | apply KeepBut.set_ | apply keep_drewN | apply keep_drew | apply keep_alloc | refine keep_far ?_ GW620.out _ | refine keep_far ?_ GW625.out _) | exact HK.out)⟩
         ·rw [if_neg c65] at H
          have c65b0 : (t644 == 2) = false := beq_eq_false_iff_ne.mpr c65
          have c65b1 : (t644 != 2) = true := bne_iff_ne.mpr c65
          by_cases c74 : t644 = 3
          ·rw [if_pos c74] at H
           have c74b0 : (t644 == 3) = true := beq_iff_eq.mpr c74
           have c74b1 : (t644 != 3) = false := bne_eq_false_iff_eq.mpr c74
           clear c74
           replace H := Option.bind_eq_some_iff.mp H
           obtain ⟨⟨t652, t653⟩, A750, H⟩ := H
           replace H : (some (x626000_12, x626001_12, x626002_12, t652, x626004_12, t653)) = some (r1, r2, r3, r4, r5, r6) := H
           have A75 := Aside0.mk A750
           clear A750
           simp only [Option.some.injEq, Prod.mk.injEq] at H
           obtain ⟨rfl, rfl, rfl, rfl, rfl, rfl⟩ := H
           go_wp2_with (first | ((with_reducible refine gate_callee (f := 56) rfl ?_); refine gl_ 46 Tryd.func56 #[.pointer (some ⟨g, 0, none⟩), .int .i64 30] ?_; (with_reducible refine (spec_l6Rd_pick.calls kj12 g s0_0 t643 30 t644 t645 w0 _ ?side1 ?side2 A46.out).mono ?_); (case side1 => repeat (first | (with_reducible first | exact HI0.out | apply IsS96.alloc | apply IsS96.drewN | apply IsS96.drew | apply IsS96.set_1 | refine IsS96.far ?_ NB0_620.out _ | refine IsS96.far ?_ NB0_625.out _) | exact HI0.out)); (case side2 => exact bel_); rintro e w76 ⟨rfl, hi, hb, hk⟩; refine ⟨_, rfl, ?_⟩; replace BK620 := Aside0.mk (KeepBut.blk hk (g' := gb620) (o := .cells #[.int .i64 0, .int .i64 0, .int .i64 0, .int .i64 0, .string (⟨#[]⟩ : ByteArray)] 54 (0, 0)) (bp_ BK620.out) NB620_0.out (by simp)); replace BK625 := Aside0.mk (KeepBut.blk hk (g' := gb625) (o := .cells #[.int .i64 x626000_12, .int .i64 x626001_12, .int .i64 x626002_12, .int .i64 x626003_12, .string x626004_12] 54 (0, 0)) (bp_ BK625.out) NB625_0.out (by simp)); replace HK := Aside0.mk (KeepBut.trans (by repeat (first | (with_reducible first | exact HK.out | apply KeepBut.set_ | apply keep_drewN | apply keep_drew | apply keep_alloc | refine keep_far ?_ GW620.out _ | refine keep_far ?_ GW625.out _) | exact HK.out)) hk (.inl rfl)); replace HB := Aside0.mk (hb); replace HI0 := Aside0.mk (hi); (try clear hb); (try clear hb2); (try clear hk); (try clear hi)) | ((with_reducible refine gate_callee (f := 56) rfl ?_); refine gl_ 65 Tryd.func56 #[.pointer (some ⟨g, 0, none⟩), .int .i64 50] ?_; (with_reducible refine (spec_l6Rd_pick.calls kj12 g s0_0 t645 50 t652 t653 w0 _ ?side1 ?side2 A75.out).mono ?_); (case side1 => repeat (first | (with_reducible first | exact HI0.out | apply IsS96.alloc | apply IsS96.drewN | apply IsS96.drew | apply IsS96.set_1 | refine IsS96.far ?_ NB0_620.out _ | refine IsS96.far ?_ NB0_625.out _) | exact HI0.out)); (case side2 => exact bel_); rintro e w77 ⟨rfl, hi, hb, hk⟩; refine ⟨_, rfl, ?_⟩; replace BK620 := Aside0.mk (KeepBut.blk hk (g' := gb620) (o := .cells #[.int .i64 0, .int .i64 0, .int .i64 0, .int .i64 0, .string (⟨#[]⟩ : ByteArray)] 54 (0, 0)) (bp_ BK620.out) NB620_0.out (by simp)); replace BK625 := Aside0.mk (KeepBut.blk hk (g' := gb625) (o := .cells #[.int .i64 x626000_12, .int .i64 x626001_12, .int .i64 x626002_12, .int .i64 x626003_12, .string x626004_12] 54 (0, 0)) (bp_ BK625.out) NB625_0.out (by simp)); replace HK := Aside0.mk (KeepBut.trans (by repeat (first | (with_reducible first | exact HK.out | apply KeepBut.set_ | apply keep_drewN | apply keep_drew | apply keep_alloc | refine keep_far ?_ GW620.out _ | refine keep_far ?_ GW625.out _) | exact HK.out)) hk (.inl rfl)); replace HB := Aside0.mk (hb); replace HI0 := Aside0.mk (hi); (try clear hb); (try clear hb2); (try clear hk); (try clear hi); have hnb78 := NB625_620.out; have hnc78 := NB620_625.out; have hnb79 := NB625_0.out; have hnc79 := NB0_625.out; have hcz80_0 : w77.cell? ⟨gb625, 0, none⟩ = some (.int .i64 x626000_12) := (blk_cell BK625.out 0).trans rfl; have hcz80_1 : w77.cell? ⟨gb625, 1, none⟩ = some (.int .i64 x626001_12) := (blk_cell BK625.out 1).trans rfl; have hcz80_2 : w77.cell? ⟨gb625, 2, none⟩ = some (.int .i64 x626002_12) := (blk_cell BK625.out 2).trans rfl; have hcz80_3 : w77.cell? ⟨gb625, 3, none⟩ = some (.int .i64 x626003_12) := (blk_cell BK625.out 3).trans rfl; have hcz80_4 : w77.cell? ⟨gb625, 4, none⟩ = some (.string x626004_12) := (blk_cell BK625.out 4).trans rfl; have hfz80_0 := blk_frozen BK625.out 0; have hfz80_1 := blk_frozen BK625.out 1; have hfz80_2 := blk_frozen BK625.out 2; have hfz80_3 := blk_frozen BK625.out 3; have hfz80_4 := blk_frozen BK625.out 4; have hnb81 := NB620_0.out; have hnc81 := NB0_620.out; have hcz82_0 : w77.cell? ⟨gb620, 0, none⟩ = some (.int .i64 0) := (blk_cell BK620.out 0).trans rfl; have hcz82_1 : w77.cell? ⟨gb620, 1, none⟩ = some (.int .i64 0) := (blk_cell BK620.out 1).trans rfl; have hcz82_2 : w77.cell? ⟨gb620, 2, none⟩ = some (.int .i64 0) := (blk_cell BK620.out 2).trans rfl; have hcz82_3 : w77.cell? ⟨gb620, 3, none⟩ = some (.int .i64 0) := (blk_cell BK620.out 3).trans rfl; have hcz82_4 : w77.cell? ⟨gb620, 4, none⟩ = some (.string (⟨#[]⟩ : ByteArray)) := (blk_cell BK620.out 4).trans rfl; have hfz82_0 := blk_frozen BK620.out 0; have hfz82_1 := blk_frozen BK620.out 1; have hfz82_2 := blk_frozen BK620.out 2; have hfz82_3 := blk_frozen BK620.out 3; have hfz82_4 := blk_frozen BK620.out 4))
           refine bodyPost_ret (results_cell_row rfl _ _ gb620 54 #[.int .i64 x626000_12, .int .i64 x626001_12, .int .i64 x626002_12, .int .i64 t652, .string x626004_12] (0, 0) _ rfl (by (with_reducible repeat (first | refine blk_drewN ?_ _ | refine blk_drew ?_ | refine blk_alloc ?_ _)); refine blk_put (cs := #[.int .i64 x626000_12, .int .i64 x626001_12, .int .i64 x626002_12, .int .i64 t652, .string (⟨#[]⟩ : ByteArray)]) ?_ 4 _ rfl; (with_reducible repeat (first | refine blk_drewN ?_ _ | refine blk_drew ?_ | refine blk_alloc ?_ _)); refine blk_put (cs := #[.int .i64 x626000_12, .int .i64 x626001_12, .int .i64 x626002_12, .int .i64 0, .string (⟨#[]⟩ : ByteArray)]) ?_ 3 _ rfl; (with_reducible repeat (first | refine blk_drewN ?_ _ | refine blk_drew ?_ | refine blk_alloc ?_ _)); refine blk_put (cs := #[.int .i64 x626000_12, .int .i64 x626001_12, .int .i64 0, .int .i64 0, .string (⟨#[]⟩ : ByteArray)]) ?_ 2 _ rfl; (with_reducible repeat (first | refine blk_drewN ?_ _ | refine blk_drew ?_ | refine blk_alloc ?_ _)); refine blk_put (cs := #[.int .i64 x626000_12, .int .i64 0, .int .i64 0, .int .i64 0, .string (⟨#[]⟩ : ByteArray)]) ?_ 1 _ rfl; (with_reducible repeat (first | refine blk_drewN ?_ _ | refine blk_drew ?_ | refine blk_alloc ?_ _)); refine blk_put (cs := #[.int .i64 0, .int .i64 0, .int .i64 0, .int .i64 0, .string (⟨#[]⟩ : ByteArray)]) ?_ 0 _ rfl; (with_reducible repeat (first | refine blk_drewN ?_ _ | refine blk_drew ?_ | refine blk_alloc ?_ _)); refine blk_far ?_ NB620_625.out _; (with_reducible repeat (first | refine blk_drewN ?_ _ | refine blk_drew ?_ | refine blk_alloc ?_ _)); exact BK620.out) Tryd.underlying54 rfl (by kernel_rfl)) rfl ?_
           exact ⟨fi_, by repeat (first | (with_reducible first | exact HI0.out | apply IsS96.alloc | apply IsS96.drewN | apply IsS96.drew | apply IsS96.set_1 | refine IsS96.far ?_ NB0_620.out _ | refine IsS96.far ?_ NB0_625.out _) | exact HI0.out), bel_, by repeat (first | (with_reducible first | exact HK.out | apply KeepBut.set_ | apply keep_drewN | apply keep_drew | apply keep_alloc | refine keep_far ?_ GW620.out _ | refine keep_far ?_ GW625.out _) | exact HK.out)⟩
          ·rw [if_neg c74] at H
           have c74b0 : (t644 == 3) = false := beq_eq_false_iff_ne.mpr c74
           have c74b1 : (t644 != 3) = true := bne_iff_ne.mpr c74
           simp only [Option.some.injEq, Prod.mk.injEq] at H
           obtain ⟨rfl, rfl, rfl, rfl, rfl, rfl⟩ := H
           go_wp2_with (first | ((with_reducible refine gate_callee (f := 56) rfl ?_); refine gl_ 46 Tryd.func56 #[.pointer (some ⟨g, 0, none⟩), .int .i64 30] ?_; (with_reducible refine (spec_l6Rd_pick.calls kj12 g s0_0 t643 30 t644 t645 w0 _ ?side1 ?side2 A46.out).mono ?_); (case side1 => repeat (first | (with_reducible first | exact HI0.out | apply IsS96.alloc | apply IsS96.drewN | apply IsS96.drew | apply IsS96.set_1 | refine IsS96.far ?_ NB0_620.out _ | refine IsS96.far ?_ NB0_625.out _) | exact HI0.out)); (case side2 => exact bel_); rintro e w83 ⟨rfl, hi, hb, hk⟩; refine ⟨_, rfl, ?_⟩; replace BK620 := Aside0.mk (KeepBut.blk hk (g' := gb620) (o := .cells #[.int .i64 0, .int .i64 0, .int .i64 0, .int .i64 0, .string (⟨#[]⟩ : ByteArray)] 54 (0, 0)) (bp_ BK620.out) NB620_0.out (by simp)); replace BK625 := Aside0.mk (KeepBut.blk hk (g' := gb625) (o := .cells #[.int .i64 x626000_12, .int .i64 x626001_12, .int .i64 x626002_12, .int .i64 x626003_12, .string x626004_12] 54 (0, 0)) (bp_ BK625.out) NB625_0.out (by simp)); replace HK := Aside0.mk (KeepBut.trans (by repeat (first | (with_reducible first | exact HK.out | apply KeepBut.set_ | apply keep_drewN | apply keep_drew | apply keep_alloc | refine keep_far ?_ GW620.out _ | refine keep_far ?_ GW625.out _) | exact HK.out)) hk (.inl rfl)); replace HB := Aside0.mk (hb); replace HI0 := Aside0.mk (hi); (try clear hb); (try clear hb2); (try clear hk); (try clear hi); have hnb84 := NB625_620.out; have hnc84 := NB620_625.out; have hnb85 := NB625_0.out; have hnc85 := NB0_625.out; have hcz86_0 : w83.cell? ⟨gb625, 0, none⟩ = some (.int .i64 x626000_12) := (blk_cell BK625.out 0).trans rfl; have hcz86_1 : w83.cell? ⟨gb625, 1, none⟩ = some (.int .i64 x626001_12) := (blk_cell BK625.out 1).trans rfl; have hcz86_2 : w83.cell? ⟨gb625, 2, none⟩ = some (.int .i64 x626002_12) := (blk_cell BK625.out 2).trans rfl; have hcz86_3 : w83.cell? ⟨gb625, 3, none⟩ = some (.int .i64 x626003_12) := (blk_cell BK625.out 3).trans rfl; have hcz86_4 : w83.cell? ⟨gb625, 4, none⟩ = some (.string x626004_12) := (blk_cell BK625.out 4).trans rfl; have hfz86_0 := blk_frozen BK625.out 0; have hfz86_1 := blk_frozen BK625.out 1; have hfz86_2 := blk_frozen BK625.out 2; have hfz86_3 := blk_frozen BK625.out 3; have hfz86_4 := blk_frozen BK625.out 4; have hnb87 := NB620_0.out; have hnc87 := NB0_620.out; have hcz88_0 : w83.cell? ⟨gb620, 0, none⟩ = some (.int .i64 0) := (blk_cell BK620.out 0).trans rfl; have hcz88_1 : w83.cell? ⟨gb620, 1, none⟩ = some (.int .i64 0) := (blk_cell BK620.out 1).trans rfl; have hcz88_2 : w83.cell? ⟨gb620, 2, none⟩ = some (.int .i64 0) := (blk_cell BK620.out 2).trans rfl; have hcz88_3 : w83.cell? ⟨gb620, 3, none⟩ = some (.int .i64 0) := (blk_cell BK620.out 3).trans rfl; have hcz88_4 : w83.cell? ⟨gb620, 4, none⟩ = some (.string (⟨#[]⟩ : ByteArray)) := (blk_cell BK620.out 4).trans rfl; have hfz88_0 := blk_frozen BK620.out 0; have hfz88_1 := blk_frozen BK620.out 1; have hfz88_2 := blk_frozen BK620.out 2; have hfz88_3 := blk_frozen BK620.out 3; have hfz88_4 := blk_frozen BK620.out 4))
           refine bodyPost_ret (results_cell_row rfl _ _ gb620 54 #[.int .i64 x626000_12, .int .i64 x626001_12, .int .i64 x626002_12, .int .i64 x626003_12, .string x626004_12] (0, 0) _ rfl (by (with_reducible repeat (first | refine blk_drewN ?_ _ | refine blk_drew ?_ | refine blk_alloc ?_ _)); refine blk_put (cs := #[.int .i64 x626000_12, .int .i64 x626001_12, .int .i64 x626002_12, .int .i64 x626003_12, .string (⟨#[]⟩ : ByteArray)]) ?_ 4 _ rfl; (with_reducible repeat (first | refine blk_drewN ?_ _ | refine blk_drew ?_ | refine blk_alloc ?_ _)); refine blk_put (cs := #[.int .i64 x626000_12, .int .i64 x626001_12, .int .i64 x626002_12, .int .i64 0, .string (⟨#[]⟩ : ByteArray)]) ?_ 3 _ rfl; (with_reducible repeat (first | refine blk_drewN ?_ _ | refine blk_drew ?_ | refine blk_alloc ?_ _)); refine blk_put (cs := #[.int .i64 x626000_12, .int .i64 x626001_12, .int .i64 0, .int .i64 0, .string (⟨#[]⟩ : ByteArray)]) ?_ 2 _ rfl; (with_reducible repeat (first | refine blk_drewN ?_ _ | refine blk_drew ?_ | refine blk_alloc ?_ _)); refine blk_put (cs := #[.int .i64 x626000_12, .int .i64 0, .int .i64 0, .int .i64 0, .string (⟨#[]⟩ : ByteArray)]) ?_ 1 _ rfl; (with_reducible repeat (first | refine blk_drewN ?_ _ | refine blk_drew ?_ | refine blk_alloc ?_ _)); refine blk_put (cs := #[.int .i64 0, .int .i64 0, .int .i64 0, .int .i64 0, .string (⟨#[]⟩ : ByteArray)]) ?_ 0 _ rfl; (with_reducible repeat (first | refine blk_drewN ?_ _ | refine blk_drew ?_ | refine blk_alloc ?_ _)); exact BK620.out) Tryd.underlying54 rfl (by kernel_rfl)) rfl ?_
           exact ⟨fi_, by repeat (first | (with_reducible first | exact HI0.out | apply IsS96.alloc | apply IsS96.drewN | apply IsS96.drew | apply IsS96.set_1 | refine IsS96.far ?_ NB0_620.out _ | refine IsS96.far ?_ NB0_625.out _) | exact HI0.out), bel_, by repeat (first | (with_reducible first | exact HK.out | apply KeepBut.set_ | apply keep_drewN | apply keep_drew | apply keep_alloc | refine keep_far ?_ GW620.out _ | refine keep_far ?_ GW625.out _) | exact HK.out)⟩
    ·rw [if_neg c11] at H
     exact absurd H (by simp)
   ·rw [if_neg c10] at H
    exact absurd H (by simp)
  ·rw [if_neg c7] at H
   exact absurd H (by simp)
 ·rw [if_neg c6] at H
  exact absurd H (by simp)

end Go.Proofs.YtnclcbjagleoeaaDoor.P
namespace Go.Proofs.YtnclcbjagleoeaaDoor.P
open Go.RowKit Go.Proofs.YtnclcbjagleoeaaDoorW.PrintWords Go.Proofs.YtnclcbjagleoeaaDoorW.PrintLast
set_option linter.unusedVariables false
set_option linter.unusedSimpArgs false
def spec_l72Log.l0 : Nat → List (S56) → List (S120) → List Int → Int → List Int → Int → Option ((List (S56)) × Int)
 | 0, _, _, _, _, _, _ => none
 | k + 1, x3, x4, x5, x6, x1000, x1001 => if x6 > 0 then ((spec_l6Rd_pick.f k x1000 x1001 3).bind fun bt665 => (if 0 ≤ (wrap64 ((wrap64 (1 + bt665.1)) - 1)) then (if (wrap64 ((wrap64 (1 + bt665.1)) - 1)) < (x5.length : Int) then ((spec_l72Op.f k x1000 bt665.2 x4 (wrap64 (1 + bt665.1)) (rd x5 (wrap64 ((wrap64 (1 + bt665.1)) - 1)))).bind fun bt668 => (if bt668.1 = 1 then ((spec_l12Seq.f k x3 (wrap64 (1 + bt665.1))).bind fun t677 => (if x3.length < 2199023255552 then ((spec_l3Do.f k x4 bt668.1 bt668.2.1 bt668.2.2.1 bt668.2.2.2.1 bt668.2.2.2.2.1).bind fun t681 => (spec_l72Log.l0 k (x3 ++ [(⟨wrap64 (1 + bt665.1), wrap64 (t677 + 1), (⟨bt668.1, bt668.2.1, bt668.2.2.1, bt668.2.2.2.1, bt668.2.2.2.2.1⟩ : S54)⟩ : S56)]) t681 (x5.set ((wrap64 ((wrap64 (1 + bt665.1)) - 1)) : Int).toNat (wrap64 ((rd x5 (wrap64 ((wrap64 (1 + bt665.1)) - 1))) + 1))) (wrap64 (x6 - 1)) x1000 bt668.2.2.2.2.2)) else (none))) else ((spec_l12Seq.f k x3 (wrap64 (1 + bt665.1))).bind fun t684 => (if x3.length < 2199023255552 then ((spec_l3Do.f k x4 bt668.1 bt668.2.1 bt668.2.2.1 bt668.2.2.2.1 bt668.2.2.2.2.1).bind fun t688 => (spec_l72Log.l0 k (x3 ++ [(⟨wrap64 (1 + bt665.1), wrap64 (t684 + 1), (⟨bt668.1, bt668.2.1, bt668.2.2.1, bt668.2.2.2.1, bt668.2.2.2.2.1⟩ : S54)⟩ : S56)]) t688 x5 (wrap64 (x6 - 1)) x1000 bt668.2.2.2.2.2)) else (none))))) else (none)) else (none))) else ((spec_l6Rd_pick.f k x1000 x1001 24).bind fun bt691 => (if bt691.1 = 0 then ((spec_l6Rd_pick.f k x1000 bt691.2 3).bind fun bt693 => ((spec_l6Rd_pick.f k x1000 bt693.2 4).bind fun bt695 => ((spec_l71Op.f k x1000 bt695.2).bind fun bt697 => (if x3.length < 2199023255552 then (some ((x3 ++ [(⟨wrap64 (1 + bt693.1), wrap64 (1 + bt695.1), (⟨bt697.1, bt697.2.1, bt697.2.2.1, bt697.2.2.2.1, bt697.2.2.2.2.1⟩ : S54)⟩ : S56)]), bt697.2.2.2.2.2)) else (none))))) else (if bt691.1 = 1 then (if (x3.length : Int) > 0 then ((spec_l6Rd_pick.f k x1000 bt691.2 (x3.length : Int)).bind fun bt706 => ((spec_l6Rd_pick.f k x1000 bt706.2 4).bind fun bt708 => (if 0 ≤ bt706.1 then (if bt706.1 < (x3.length : Int) then (some ((x3.set (bt706.1 : Int).toNat (⟨(rd_T56 x3 bt706.1).f0, bt708.1, (⟨(rd_T56 x3 bt706.1).f2.f0, (rd_T56 x3 bt706.1).f2.f1, (rd_T56 x3 bt706.1).f2.f2, (rd_T56 x3 bt706.1).f2.f3, (rd_T56 x3 bt706.1).f2.f4⟩ : S54)⟩ : S56)), bt708.2)) else (none)) else (none)))) else (some (x3, bt691.2))) else (some (x3, bt691.2)))))
def spec_l72Log.f (k : Nat) (s0_0 : List Int) (s0_1 : Int) : Option ((List (S56)) × Int) := (spec_TreeNew.f).bind fun t657 => ((spec_l6Rd_pick.f k s0_0 s0_1 14).bind fun bt663 => (spec_l72Log.l0 k (([] : List (S56))) t657 (([0, 0, 0] : List Int)) bt663.1 s0_0 bt663.2))
theorem spec_l72Log.mono_l : ∀ k, (∀ y0 y1 y2 y3 y4 y5, LeO (spec_l72Log.l0 k y0 y1 y2 y3 y4 y5) (spec_l72Log.l0 (k + 1) y0 y1 y2 y3 y4 y5))
 | 0 => fun _ _ _ _ _ _ r h => by simp [spec_l72Log.l0] at h
 | k + 1 => by
  have ih0 := spec_l72Log.mono_l k
  ·intro y0 y1 y2 y3 y4 y5
   unfold spec_l72Log.l0
   repeat' first
   | (with_reducible exact ih0 _ _ _ _ _ _)
   | (with_reducible exact spec_l12Seq.mono _ _ _)
   | (with_reducible exact spec_l3Do.mono _ _ _ _ _ _ _)
   | (with_reducible exact spec_l6Rd_pick.mono _ _ _ _)
   | (with_reducible exact spec_l71Op.mono _ _ _)
   | (with_reducible exact spec_l72Op.mono _ _ _ _ _ _)
   | (with_reducible exact LeO.refl _)
   | (with_reducible exact LeO.none _)
   | (with_reducible refine LeO.ite ?_ ?_)
   | (with_reducible refine LeO.bind ?_ (fun _ => ?_))
   | exact ih0 _ _ _ _ _ _
   | exact spec_l12Seq.mono _ _ _
   | exact spec_l3Do.mono _ _ _ _ _ _ _
   | exact spec_l6Rd_pick.mono _ _ _ _
   | exact spec_l71Op.mono _ _ _
   | exact spec_l72Op.mono _ _ _ _ _ _
   | exact LeO.none _
   | refine LeO.ite ?_ ?_
   | refine LeO.bind ?_ (fun _ => ?_)
theorem spec_l72Log.mono : ∀ a0 a1 k, LeO (spec_l72Log.f k a0 a1) (spec_l72Log.f (k + 1) a0 a1) := by
 intro a0 a1 k
 have ih0 := spec_l72Log.mono_l k
 unfold spec_l72Log.f
 repeat' first
   | (with_reducible exact ih0 _ _ _ _ _ _)
   | (with_reducible exact spec_l12Seq.mono _ _ _)
   | (with_reducible exact spec_l3Do.mono _ _ _ _ _ _ _)
   | (with_reducible exact spec_l6Rd_pick.mono _ _ _ _)
   | (with_reducible exact spec_l71Op.mono _ _ _)
   | (with_reducible exact spec_l72Op.mono _ _ _ _ _ _)
   | (with_reducible exact LeO.refl _)
   | (with_reducible exact LeO.none _)
   | (with_reducible refine LeO.ite ?_ ?_)
   | (with_reducible refine LeO.bind ?_ (fun _ => ?_))
   | exact ih0 _ _ _ _ _ _
   | exact spec_l12Seq.mono _ _ _
   | exact spec_l3Do.mono _ _ _ _ _ _ _
   | exact spec_l6Rd_pick.mono _ _ _ _
   | exact spec_l71Op.mono _ _ _
   | exact spec_l72Op.mono _ _ _ _ _ _
   | exact LeO.none _
   | refine LeO.ite ?_ ?_
   | refine LeO.bind ?_ (fun _ => ?_)
def spec_l72Log.T11 : Bool × List (List Nat × List Nat) := (true, [([], []), ([], []), ([], []), ([], []), ([2, 3], [2, 3]), ([4], [4]), ([], []), ([1, 5, 6], [1, 5, 6]), ([7], [7]), ([0, 8, 4], [0, 8]), ([9, 9, 0, 1, 2, 3, 4, 5, 6, 7, 8, 9], [0, 2, 9])])
def spec_l72Log.B11 : List Nat := [0, 0, 0, 0, 12, 28, 0, 126, 254, 511, 1023]
theorem spec_l72Log.tab11 : rtab .any (opsOf Tryd.f74 11) = spec_l72Log.T11 := by kernel_rfl
theorem spec_l72Log.bits11 : waitsOk spec_l72Log.T11.2 spec_l72Log.B11 = true := by kernel_rfl
end Go.Proofs.YtnclcbjagleoeaaDoor.P
