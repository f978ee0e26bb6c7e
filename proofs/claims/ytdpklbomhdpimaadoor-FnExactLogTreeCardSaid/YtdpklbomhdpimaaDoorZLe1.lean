/- Joined by a program (wip/shake.py): the declarations that 'YtdpklbomhdpimaaDoorCardFnExactLogTree' reaches. -/
import Derived.Test.YtdpklbomhdpimaaDoorZLe0
set_option linter.unusedVariables false
set_option linter.unusedSimpArgs false
set_option linter.unusedSectionVars false
namespace Go.Proofs.YtdpklbomhdpimaaDoor.P
open Go.RowKit Go.Proofs.YtdpklbomhdpimaaDoorW.PrintWords Go.Proofs.YtdpklbomhdpimaaDoorW.PrintLast
set_option maxHeartbeats 8000000 in
set_option maxRecDepth 100000 in
theorem spec_l3Do.calls (k : Nat) (A0 : Option Addr) (c0 : Nat) (l0 : List (S69)) (a1_0 : Int) (a1_1 : Int) (a1_2 : Int) (a1_3 : Int) (a1_4 : ByteArray) (r : List (S69)) (w : World) (hr0 : Kd.C k69 w A0 l0.length l0) (hc0 : l0.length ≤ c0) (h : spec_l3Do.f k l0 a1_0 a1_1 a1_2 a1_3 a1_4 = some r) :
  Calls Tryd.prog 125 #[.slice A0 l0.length c0, .agg #[.int .i64 a1_0, .int .i64 a1_1, .int .i64 a1_2, .int .i64 a1_3, .string a1_4]] w fun e w' => ∃ v0_ : Value, e = .returned (v0_) ∧ Kd.R k69 69 w' w.heap.size (fun _ => True) v0_ r ∧ Below w.heap.size w w' := by
 have hu42 := Tryd.underlying42
 have hu69 := Tryd.underlying69
 have HR0 := Aside0.mk hr0
 have HC0 := Aside0.mk hc0
 clear hr0 hc0
 have HB := Aside0.mk (Below.refl w.heap.size w)
 unfold spec_l3Do.f at h
 have H := h
 clear h
 replace H := Option.bind_eq_some_iff.mp H
 obtain ⟨t258, A30, H⟩ := H
 try dsimp only at H
 have A3 := Aside0.mk A30
 clear A30
 by_cases c4 : a1_0 = 2
 ·rw [if_pos c4] at H
  have c4b0 : (a1_0 == 2) = true := beq_iff_eq.mpr c4
  have c4b1 : (a1_0 != 2) = false := bne_eq_false_iff_eq.mpr c4
  clear c4
  obtain ⟨y259, hy259⟩ : ∃ y_ : List (S69), y_ = (([] : List (S69))) := ⟨_, rfl⟩
  replace H : (if y259.length + l0.length < 4398046511104 then ((some (y259 ++ l0 : List (S69))).bind fun y262 => (if t258 ≥ 0 then (if 0 ≤ t258 then (if t258 < (y262.length : Int) then (some (y262.set (t258 : Int).toNat (⟨(rd_T69 y262 t258).f0, (rd_T69 y262 t258).f1, a1_4⟩ : S69))) else (none)) else (none)) else (some y262))) else (none)) = some r := by first | (rw [hy259]; with_reducible exact H) | (have H2_ := (Option.bind_some _ _).symm.trans H; rw [hy259]; with_reducible exact H2_) | (have H2_ := (Option.bind_some _ _).symm.trans H; with_reducible exact H2_) | with_reducible exact H | (rw [hy259]; exact H) | exact H
  have Ny259 := Aside0.mk hy259
  clear hy259
  by_cases c5 : y259.length + l0.length < 4398046511104
  ·rw [if_pos c5] at H
   have LMc5 := Aside0.mk c5
   clear c5
   obtain ⟨y262, hy262⟩ : ∃ y_ : List (S69), y_ = (y259 ++ l0) := ⟨_, rfl⟩
   replace H : (if t258 ≥ 0 then (if 0 ≤ t258 then (if t258 < (y262.length : Int) then (some (y262.set (t258 : Int).toNat (⟨(rd_T69 y262 t258).f0, (rd_T69 y262 t258).f1, a1_4⟩ : S69))) else (none)) else (none)) else (some y262)) = some r := by first | (rw [hy262]; with_reducible exact H) | (have H2_ := (Option.bind_some _ _).symm.trans H; rw [hy262]; with_reducible exact H2_) | (have H2_ := (Option.bind_some _ _).symm.trans H; with_reducible exact H2_) | with_reducible exact H | (rw [hy262]; exact H) | exact H
   have Ny262 := Aside0.mk hy262
   clear hy262
   by_cases c6 : t258 ≥ 0
   ·rw [if_pos c6] at H
    have c6b0 : decide (0 ≤ t258) = true := decide_eq_true c6
    clear c6
    by_cases c7 : 0 ≤ t258
    ·rw [if_pos c7] at H
     have c7b0 : decide (0 ≤ t258) = true := decide_eq_true c7
     clear c7
     by_cases c8 : t258 < (y262.length : Int)
     ·rw [if_pos c8] at H
      have c8b0 : decide (t258 < (y262.length : Int)) = true := decide_eq_true c8
      clear c8
      obtain ⟨y265, hy265⟩ : ∃ y_ : List (S69), y_ = (y262.set (t258 : Int).toNat (⟨(rd_T69 y262 t258).f0, (rd_T69 y262 t258).f1, a1_4⟩ : S69)) := ⟨_, rfl⟩
      replace H : (some y265) = some r := by first | (rw [hy265]; with_reducible exact H) | (have H2_ := (Option.bind_some _ _).symm.trans H; rw [hy265]; with_reducible exact H2_) | (have H2_ := (Option.bind_some _ _).symm.trans H; with_reducible exact H2_) | with_reducible exact H | (rw [hy265]; exact H) | exact H
      have Ny265 := Aside0.mk hy265
      clear hy265
      obtain rfl := Option.some.inj H
      go_enter Tryd.func125, Tryd.ntmps125
      go_wp2_with (first | ((with_reducible refine gate_dst (N := 3) rfl ?_); refine bx_ 3 (#[.int .i64 a1_0, .int .i64 a1_1, .int .i64 a1_2, .int .i64 a1_3, .string a1_4]) 42 ?_; intro gb257 hg w10 hbox hb; have n0_ := Aside0.mk (below_step (bel_) hb); have n1_ := Aside0.mk (hbox); have n2_ := Aside0.mk ((by rw [hg]; exact (below_size (bel_)) : w.heap.size ≤ gb257)); have n3_ := Aside0.mk ((by rw [hg]; exact (below_size (bel_)) : w.heap.size ≤ gb257)); clear HB; have HB := n0_; have BK257 := n1_; have GW257 := n2_; have GE257 := n3_; clear n0_ n1_ n2_ n3_; clear hb hbox hg; have hcz11_0 := cz_ BK257.out 0 (.int .i64 a1_0); have hcz11_1 := cz_ BK257.out 1 (.int .i64 a1_1); have hcz11_2 := cz_ BK257.out 2 (.int .i64 a1_2); have hcz11_3 := cz_ BK257.out 3 (.int .i64 a1_3); have hcz11_4 := cz_ BK257.out 4 (.string a1_4); have hfz11_0 := blk_frozen BK257.out 0; have hfz11_1 := blk_frozen BK257.out 1; have hfz11_2 := blk_frozen BK257.out 2; have hfz11_3 := blk_frozen BK257.out 3; have hfz11_4 := blk_frozen BK257.out 4) | ((with_reducible refine gate_callee (f := 145) rfl ?_); refine gl_ 16 Tryd.func145 #[.slice A0 l0.length c0, .int .i64 a1_1] ?_; (with_reducible refine (spec_l2At.calls k _ _ l0 a1_1 t258 _ ?side1 ?side2 A3.out).mono ?_); (case side1 => exact cp_ HR0.out); (case side2 => exact HC0.out); rintro e w' ⟨rfl, ⟨nd, rfl⟩⟩; refine ⟨_, rfl, ?_⟩; (try (rw [drewN_self w10]; generalize hq_ : World.drewN w10 _ = w10; have n0_ : Aside0 (w10.heap[gb257]? = some (.cells #[.int .i64 a1_0, .int .i64 a1_1, .int .i64 a1_2, .int .i64 a1_3, .string a1_4] 42 (0, 0))) := ⟨by rw [← hq_]; exact (bp_ BK257.out)⟩; have n1_ : Aside0 (Below w.heap.size w w10) := ⟨by rw [← hq_]; exact (bel_)⟩; clear BK257 HB hq_; have BK257 := n0_; have HB := n1_; clear n0_ n1_; have hczy257_0 := cz_ BK257.out 0 (.int .i64 a1_0); have hczy257_1 := cz_ BK257.out 1 (.int .i64 a1_1); have hczy257_2 := cz_ BK257.out 2 (.int .i64 a1_2); have hczy257_3 := cz_ BK257.out 3 (.int .i64 a1_3); have hczy257_4 := cz_ BK257.out 4 (.string a1_4); have hfzy257_0 := blk_frozen BK257.out 0; have hfzy257_1 := blk_frozen BK257.out 1; have hfzy257_2 := blk_frozen BK257.out 2; have hfzy257_3 := blk_frozen BK257.out 3; have hfzy257_4 := blk_frozen BK257.out 4))) | ((with_reducible refine gate_dst (N := 20) rfl ?_); refine Kd.R_lit k69 _ 69 ?hg (N := 20) ?hd (xs := ([] : List (S69))) (inner := []) (ok := fun _ => True) (okp := fun _ => True) ?hr ?hp (fun _ hk => hk) trivial (Below.refl _ _) (Nat.le_refl _) (by simp) ?_; (case hd => rfl); (case hg => rfl); (case hr => first | (go_simp; done) | (go_simp; rfl)); (case hp => exact (Reps.none _ _)); intro v260 w12 ho13 hb hg_ hnew_; clear hg_ hnew_; (first | rw [← Ny259.out] at ho13 | (simp only [Int.reduceToNat] at ho13; rw [← Ny259.out] at ho13)); have HO261 := Aside0.mk (Kd.R_lower ho13 (below_size (bel_))); replace HB := Aside0.mk (below_step (bel_) hb); replace BK257 := Aside0.mk (bb_ BK257.out hb); clear hb ho13) | ((with_reducible refine gate_builtin (b := .append) (xs := #[.tmp 20, .tmp 21]) rfl ?_); at_builtin; refine Kd.R_append_rows k69 (w0 := w) w.heap.size rfl (.tmp 20) (.tmp 21) 62 69 (.agg #[(.int .i64 0), (.int .i64 0), (.string ⟨#[]⟩)]) 32 rfl Tryd.underlying62 info69 rfl (by decide) (by omega) v260 y259 l0 _ _ _ (fun _ => True) (fun _ => False) rfl rfl ?aO ?aR (fun _ _ h => h) (fun _ h => h.elim) ?aF ?aB ?aS ?aL ?_; (case aR => exact cx_ (Kd.C_below HR0.out HB.out)); (case aB => exact (bel_)); (case aF => exact (fun _ _ => trivial)); (case aO => exact (rp_ HO261.out)); (case aS => exact (below_size (bel_))); (case aL => have := LMc5.out; omega); intro v263 w14 ho hb hg hat; rw [← Ny262.out] at ho; replace BK257 := Aside0.mk (blk_grown (g := gb257) (o := .cells #[.int .i64 a1_0, .int .i64 a1_1, .int .i64 a1_2, .int .i64 a1_3, .string a1_4] 42 (0, 0)) (bp_ BK257.out) hg (Kd.R_ne HO261.out BK257.out (by decide))); replace HB := Aside0.mk (hb); have HO264 := Aside0.mk (ho); clear HO261; clear ho hb hg hat; have hcz15_0 := cz_ BK257.out 0 (.int .i64 a1_0); have hcz15_1 := cz_ BK257.out 1 (.int .i64 a1_1); have hcz15_2 := cz_ BK257.out 2 (.int .i64 a1_2); have hcz15_3 := cz_ BK257.out 3 (.int .i64 a1_3); have hcz15_4 := cz_ BK257.out 4 (.string a1_4); have hfz15_0 := blk_frozen BK257.out 0; have hfz15_1 := blk_frozen BK257.out 1; have hfz15_2 := blk_frozen BK257.out 2; have hfz15_3 := blk_frozen BK257.out 3; have hfz15_4 := blk_frozen BK257.out 4; have p9 : 0 ≤ (t258 : Int) := od_; have q9 : (t258 : Int) < ((y262.length : Int) : Int) := od_; obtain ⟨go9, co9, eo9, gb9, gl9, cl9, HG9⟩ := Kd.R_form HO264.out (by omega); (first | cases eo9 | (injection eo9 with ea_ en_ ec_; (first | subst ea_ | (injection ea_ with ea_; subst ea_)); subst ec_; clear en_)); have GB9 := Aside0.mk gb9; have GG9 := Aside0.mk HG9; clear gb9 gl9 HG9; obtain ⟨ce9, hcl9, hM9, hcc9, hfr9⟩ := Kd.R_elem HO264.out z69 (t258 : Int) p9 q9; obtain rfl := k69_openM hM9; have hx9_0 : w14.cell? ⟨go9, (t258 : Int).toNat * 3, none⟩ = some (.int .i64 ((rd_T69 y262 t258).f0)) := hcc9 0 _ rfl; have hx9_1 : w14.cell? ⟨go9, (t258 : Int).toNat * 3 + 1, none⟩ = some (.int .i64 ((rd_T69 y262 t258).f1)) := hcc9 1 _ rfl; have hx9_2 : w14.cell? ⟨go9, (t258 : Int).toNat * 3 + 2, none⟩ = some (.string ((rd_T69 y262 t258).f2)) := hcc9 2 _ rfl; have hf9_0 : w14.frozen? ⟨go9, (t258 : Int).toNat * 3, none⟩ = false := hfr9 0; have hf9_1 : w14.frozen? ⟨go9, (t258 : Int).toNat * 3 + 1, none⟩ = false := hfr9 1; have hf9_2 : w14.frozen? ⟨go9, (t258 : Int).toNat * 3 + 2, none⟩ = false := hfr9 2; clear hcl9 hcc9 hfr9 hM9; replace p9 := eq_true p9; replace q9 := eq_true q9; have HX16 := Aside0.mk (show Kd.R k69 69 w14 w.heap.size (fun _ => True) (.slice (some ⟨go9, 0, none⟩) y262.length co9) y262 from (rp_ HO264.out)); obtain ⟨ce16, hcl16, hM16, hcc16, hfr16⟩ := Kd.R_elem HX16.out z69 (t258 : Int) (od_) (by have h_ : (t258 : Int) < ((y262.length : Int) : Int) := od_; first | exact h_ | (have e_ := (Kd.R_reads' HO264.out).1; omega) | simpa using h_); obtain rfl := k69_openM hM16; have HP16 := Kd.R_seg HX16.out (t258 : Int) (od_) (by have h_ : (t258 : Int) < ((y262.length : Int) : Int) := od_; first | exact h_ | (have e_ := (Kd.R_reads' HO264.out).1; omega) | simpa using h_) (seg := [.string a1_4]) (j := 2) hcl16 hcc16 (show 3 ≤ 3 from by decide) (x' := (⟨(rd_T69 y262 t258).f0, (rd_T69 y262 t258).f1, a1_4⟩ : S69)) (k69_mkM _ _ _ (⟨(rd_T69 y262 t258).f0, (rd_T69 y262 t258).f1, a1_4⟩ : S69) ) (fun _ hk => hk); have hx16_2 := hcc16 2 _ rfl; (try simp only [show (k69).sz = 3 from rfl, Nat.mul_one, Nat.add_zero] at hx16_2); have hf16_2 := hfr16 2; (try simp only [show (k69).sz = 3 from rfl, Nat.mul_one, Nat.add_zero] at hf16_2); clear hcl16 hcc16 hfr16 hM16) | ((with_reducible refine gate_store (t := 9) (p := 30) rfl ?_); refine store_event (t := 9) (p := 30) (v := ?vo_w17) (w1 := (w14.setCell ⟨go9, (t258 : Int).toNat * 3 + 2, none⟩ (.string a1_4))) ?hg ?ho ?hn ?hr ?_; (case ho => rfl); (case hg => rfl); (case hn => rfl); (case hr => first | (go_simp; done) | (go_simp; rfl)); intro w17 hw; have hg : w14.grownBy w17 (some go9) := (by rw [hw]; exact HP16.2); have hp_ : Kd.R k69 69 w17 w.heap.size (fun _ => True) (.slice (some ⟨go9, 0, none⟩) y262.length co9) y265 := (by rw [hw, Ny265.out]; exact HP16.1); clear HP16; have n0_ := Aside0.mk (blk_grown (g := gb257) (o := .cells #[.int .i64 a1_0, .int .i64 a1_1, .int .i64 a1_2, .int .i64 a1_3, .string a1_4] 42 (0, 0)) (bp_ BK257.out) hg (Kd.R_ne HO264.out BK257.out (by decide))); have n1_ := Aside0.mk (hp_); have n2_ := Aside0.mk ((by rw [hw]; exact below_set (HB.out) GB9.out : Below w.heap.size w w17)); clear BK257; clear HO264; clear HB; have BK257 := n0_; have HO264 := n1_; have HB := n2_; clear n0_ n1_ n2_; clear hg hw hp_))
      go_ret
      exact ⟨_, fi_, by (with_reducible repeat (first | apply Kd.R_alloc | apply Kd.R_drewN | apply Kd.R_drew)); exact HO264.out, bel_⟩
     ·rw [if_neg c8] at H
      exact absurd H (by simp)
    ·rw [if_neg c7] at H
     exact absurd H (by simp)
   ·rw [if_neg c6] at H
    have c6b0 : decide (0 ≤ t258) = false := decide_eq_false c6
    clear c6
    obtain rfl := Option.some.inj H
    go_enter Tryd.func125, Tryd.ntmps125
    go_wp2_with (first | ((with_reducible refine gate_dst (N := 3) rfl ?_); refine bx_ 3 (#[.int .i64 a1_0, .int .i64 a1_1, .int .i64 a1_2, .int .i64 a1_3, .string a1_4]) 42 ?_; intro gb257 hg w18 hbox hb; have n0_ := Aside0.mk (below_step (bel_) hb); have n1_ := Aside0.mk (hbox); have n2_ := Aside0.mk ((by rw [hg]; exact (below_size (bel_)) : w.heap.size ≤ gb257)); have n3_ := Aside0.mk ((by rw [hg]; exact (below_size (bel_)) : w.heap.size ≤ gb257)); clear HB; have HB := n0_; have BK257 := n1_; have GW257 := n2_; have GE257 := n3_; clear n0_ n1_ n2_ n3_; clear hb hbox hg; have hcz19_0 := cz_ BK257.out 0 (.int .i64 a1_0); have hcz19_1 := cz_ BK257.out 1 (.int .i64 a1_1); have hcz19_2 := cz_ BK257.out 2 (.int .i64 a1_2); have hcz19_3 := cz_ BK257.out 3 (.int .i64 a1_3); have hcz19_4 := cz_ BK257.out 4 (.string a1_4); have hfz19_0 := blk_frozen BK257.out 0; have hfz19_1 := blk_frozen BK257.out 1; have hfz19_2 := blk_frozen BK257.out 2; have hfz19_3 := blk_frozen BK257.out 3; have hfz19_4 := blk_frozen BK257.out 4) | ((with_reducible refine gate_callee (f := 145) rfl ?_); refine gl_ 16 Tryd.func145 #[.slice A0 l0.length c0, .int .i64 a1_1] ?_; (with_reducible refine (spec_l2At.calls k _ _ l0 a1_1 t258 _ ?side1 ?side2 A3.out).mono ?_); (case side1 => exact cp_ HR0.out); (case side2 => exact HC0.out); rintro e w' ⟨rfl, ⟨nd, rfl⟩⟩; refine ⟨_, rfl, ?_⟩) | ((with_reducible refine gate_dst (N := 20) rfl ?_); refine Kd.R_lit k69 _ 69 ?hg (N := 20) ?hd (xs := ([] : List (S69))) (inner := []) (ok := fun _ => True) (okp := fun _ => True) ?hr ?hp (fun _ hk => hk) trivial (Below.refl _ _) (Nat.le_refl _) (by simp) ?_; (case hd => rfl); (case hg => rfl); (case hr => first | (go_simp; done) | (go_simp; rfl)); (case hp => exact (Reps.none _ _)); intro v260 w20 ho21 hb hg_ hnew_; clear hg_ hnew_; (first | rw [← Ny259.out] at ho21 | (simp only [Int.reduceToNat] at ho21; rw [← Ny259.out] at ho21)); have HO261 := Aside0.mk (Kd.R_lower ho21 (below_size (bel_))); replace HB := Aside0.mk (below_step (bel_) hb); replace BK257 := Aside0.mk (bb_ BK257.out hb); clear hb ho21) | ((with_reducible refine gate_builtin (b := .append) (xs := #[.tmp 20, .tmp 21]) rfl ?_); at_builtin; refine Kd.R_append_rows k69 (w0 := w) w.heap.size rfl (.tmp 20) (.tmp 21) 62 69 (.agg #[(.int .i64 0), (.int .i64 0), (.string ⟨#[]⟩)]) 32 rfl Tryd.underlying62 info69 rfl (by decide) (by omega) v260 y259 l0 _ _ _ (fun _ => True) (fun _ => False) rfl rfl ?aO ?aR (fun _ _ h => h) (fun _ h => h.elim) ?aF ?aB ?aS ?aL ?_; (case aR => exact cx_ (Kd.C_below HR0.out HB.out)); (case aB => exact (bel_)); (case aF => exact (fun _ _ => trivial)); (case aO => exact (rp_ HO261.out)); (case aS => exact (below_size (bel_))); (case aL => have := LMc5.out; omega); intro v263 w22 ho hb hg hat; rw [← Ny262.out] at ho; replace BK257 := Aside0.mk (blk_grown (g := gb257) (o := .cells #[.int .i64 a1_0, .int .i64 a1_1, .int .i64 a1_2, .int .i64 a1_3, .string a1_4] 42 (0, 0)) (bp_ BK257.out) hg (Kd.R_ne HO261.out BK257.out (by decide))); replace HB := Aside0.mk (hb); have HO264 := Aside0.mk (ho); clear HO261; clear ho hb hg hat))
    go_ret
    exact ⟨_, fi_, by (with_reducible repeat (first | apply Kd.R_alloc | apply Kd.R_drewN | apply Kd.R_drew)); exact HO264.out, bel_⟩
  ·rw [if_neg c5] at H
   exact absurd H (by simp)
 ·rw [if_neg c4] at H
  have c4b0 : (a1_0 == 2) = false := beq_eq_false_iff_ne.mpr c4
  have c4b1 : (a1_0 != 2) = true := bne_iff_ne.mpr c4
  replace H := Option.bind_eq_some_iff.mp H
  obtain ⟨⟨t266, t267, t268⟩, A230, H⟩ := H
  try dsimp only at H
  have A23 := Aside0.mk A230
  clear A230
  by_cases c24 : t268 = true
  ·subst c24
   have H1 : (if a1_0 = 1 then ((spec_l3Put.f k l0 (([(⟨a1_1, 0, a1_4⟩ : S69)] : List (S69))) t266 t267).bind fun t278 => (some t278)) else ((spec_l2End.f k l0 t258).bind fun t281 => ((some (([] : List (S69)) : List (S69))).bind fun y282 => (if 0 ≤ t258 then (if t258 ≤ t281 then (if t281 ≤ (l0.length : Int) then ((some ((l0.take (t281 : Int).toNat).drop (t258 : Int).toNat : List (S69))).bind fun y285 => (if y282.length + y285.length < 4398046511104 then ((some (([] : List (S69)) : List (S69))).bind fun y292 => (if t258 ≤ (l0.length : Int) then ((some (l0.take (t258 : Int).toNat : List (S69))).bind fun y295 => (if y292.length + y295.length < 4398046511104 then ((some (y292 ++ y295 : List (S69))).bind fun y299 => (if 0 ≤ t281 then ((some (l0.drop (t281 : Int).toNat : List (S69))).bind fun y302 => (if y299.length + y302.length < 4398046511104 then ((spec_l3Put.f k (y299 ++ y302) (y282 ++ y285) t266 t267).bind fun t309 => (some t309)) else (none))) else (none))) else (none))) else (none))) else (none))) else (none)) else (none)) else (none))))) = some r := by rw [if_pos rfl] at H; exact H
   clear H
   have H := H1
   clear H1
   by_cases c25 : a1_0 = 1
   ·rw [if_pos c25] at H
    have c25b0 : (a1_0 == 1) = true := beq_iff_eq.mpr c25
    have c25b1 : (a1_0 != 1) = false := bne_eq_false_iff_eq.mpr c25
    clear c25
    obtain ⟨y275, hy275⟩ : ∃ y_ : List (S69), y_ = (([(⟨a1_1, 0, a1_4⟩ : S69)] : List (S69))) := ⟨_, rfl⟩
    replace H : ((spec_l3Put.f k l0 y275 t266 t267).bind fun t278 => (some t278)) = some r := by first | (rw [hy275]; with_reducible exact H) | (have H2_ := (Option.bind_some _ _).symm.trans H; rw [hy275]; with_reducible exact H2_) | (have H2_ := (Option.bind_some _ _).symm.trans H; with_reducible exact H2_) | with_reducible exact H | (rw [hy275]; exact H) | exact H
    have Ny275 := Aside0.mk hy275
    clear hy275
    replace H := Option.bind_eq_some_iff.mp H
    obtain ⟨t278, A260, H⟩ := H
    try dsimp only at H
    have A26 := Aside0.mk A260
    clear A260
    obtain rfl := Option.some.inj H
    go_enter Tryd.func125, Tryd.ntmps125
    go_wp2_with (first | ((with_reducible refine gate_dst (N := 3) rfl ?_); refine bx_ 3 (#[.int .i64 a1_0, .int .i64 a1_1, .int .i64 a1_2, .int .i64 a1_3, .string a1_4]) 42 ?_; intro gb257 hg w27 hbox hb; have n0_ := Aside0.mk (below_step (bel_) hb); have n1_ := Aside0.mk (hbox); have n2_ := Aside0.mk ((by rw [hg]; exact (below_size (bel_)) : w.heap.size ≤ gb257)); have n3_ := Aside0.mk ((by rw [hg]; exact (below_size (bel_)) : w.heap.size ≤ gb257)); clear HB; have HB := n0_; have BK257 := n1_; have GW257 := n2_; have GE257 := n3_; clear n0_ n1_ n2_ n3_; clear hb hbox hg; have hcz28_0 := cz_ BK257.out 0 (.int .i64 a1_0); have hcz28_1 := cz_ BK257.out 1 (.int .i64 a1_1); have hcz28_2 := cz_ BK257.out 2 (.int .i64 a1_2); have hcz28_3 := cz_ BK257.out 3 (.int .i64 a1_3); have hcz28_4 := cz_ BK257.out 4 (.string a1_4); have hfz28_0 := blk_frozen BK257.out 0; have hfz28_1 := blk_frozen BK257.out 1; have hfz28_2 := blk_frozen BK257.out 2; have hfz28_3 := blk_frozen BK257.out 3; have hfz28_4 := blk_frozen BK257.out 4) | ((with_reducible refine gate_callee (f := 145) rfl ?_); refine gl_ 16 Tryd.func145 #[.slice A0 l0.length c0, .int .i64 a1_1] ?_; (with_reducible refine (spec_l2At.calls k _ _ l0 a1_1 t258 _ ?side1 ?side2 A3.out).mono ?_); (case side1 => exact cp_ HR0.out); (case side2 => exact HC0.out); rintro e w' ⟨rfl, ⟨nd, rfl⟩⟩; refine ⟨_, rfl, ?_⟩) | ((with_reducible refine gate_callee (f := 146) rfl ?_); refine gl_ 35 Tryd.func146 #[.slice A0 l0.length c0, .agg #[.int .i64 a1_0, .int .i64 a1_1, .int .i64 a1_2, .int .i64 a1_3, .string a1_4]] ?_; (with_reducible refine (spec_l3Where.calls k _ _ l0 a1_0 a1_1 a1_2 a1_3 a1_4 t266 t267 true _ ?side1 ?side2 A23.out).mono ?_); (case side1 => repeat (first | exact (Kd.C_below HR0.out (bel_)) | (with_reducible refine Kd.C_alloc ?_ _) | (with_reducible refine Kd.C_drewN ?_ _) | (with_reducible refine Kd.C_drew ?_))); (case side2 => exact HC0.out); rintro e w29 ⟨rfl, hb⟩; refine ⟨_, rfl, ?_⟩; replace HB := Aside0.mk (below_step (bel_) hb); replace BK257 := Aside0.mk (bb_ BK257.out hb); (try clear hb); have hcz30_0 := cz_ BK257.out 0 (.int .i64 a1_0); have hcz30_1 := cz_ BK257.out 1 (.int .i64 a1_1); have hcz30_2 := cz_ BK257.out 2 (.int .i64 a1_2); have hcz30_3 := cz_ BK257.out 3 (.int .i64 a1_3); have hcz30_4 := cz_ BK257.out 4 (.string a1_4); have hfz30_0 := blk_frozen BK257.out 0; have hfz30_1 := blk_frozen BK257.out 1; have hfz30_2 := blk_frozen BK257.out 2; have hfz30_3 := blk_frozen BK257.out 3; have hfz30_4 := blk_frozen BK257.out 4) | ((with_reducible refine gate_dst (N := 53) rfl ?_); refine Kd.R_lit k69 _ 69 ?hg (N := 53) ?hd (xs := ([(⟨a1_1, 0, a1_4⟩ : S69)] : List (S69))) (inner := [.int .i64 a1_1, .int .i64 0, .string a1_4]) (ok := fun _ => True) (okp := fun _ => True) ?hr ?hp (fun _ hk => hk) trivial (Below.refl _ _) (Nat.le_refl _) (by simp) ?_; (case hd => rfl); (case hg => rfl); (case hr => first | (go_simp; done) | (go_simp; rfl)); (case hp => exact (Reps.c3 (show Kd.M k69 _ _ _ (⟨a1_1, 0, a1_4⟩ : S69) [.int .i64 a1_1, .int .i64 0, .string a1_4] from (k69_mkM _ _ _ (⟨a1_1, 0, a1_4⟩ : S69) )) (Reps.none _ _))); intro v276 w31 ho32 hb hg_ hnew_; clear hg_ hnew_; (first | rw [← Ny275.out] at ho32 | (simp only [Int.reduceToNat] at ho32; rw [← Ny275.out] at ho32)); have HO277 := Aside0.mk (Kd.R_lower ho32 (below_size (bel_))); replace HB := Aside0.mk (below_step (bel_) hb); replace BK257 := Aside0.mk (bb_ BK257.out hb); clear hb ho32; obtain ⟨Ao33, co33, eo33⟩ := Kd.R_slice HO277.out; subst eo33) | ((with_reducible refine gate_callee (f := 147) rfl ?_); refine gl_ 56 Tryd.func147 #[.slice A0 l0.length c0, .slice Ao33 y275.length co33, .int .i64 t266, .int .i64 t267] ?_; (with_reducible refine (spec_l3Put.calls k _ _ l0 _ _ y275 t266 t267 t278 _ ?side1 ?side2 ?side3 ?side4 A26.out).mono ?_); (case side1 => exact cp_ HR0.out); (case side2 => exact HC0.out); (case side3 => exact cx_ (Kd.R_reads' HO277.out).2.2); (case side4 => exact (Kd.R_reads' HO277.out).2.1); rintro e w34 ⟨v279, rfl, ho0, hb⟩; refine ⟨_, rfl, ?_⟩; have HO280 := Aside0.mk (Kd.R_lower (Kd.R_new' ho0 (Kd.R_lt (rp_ HO277.out))) (below_size (bel_))); replace HO277 := Aside0.mk (Kd.R_elder' (rp_ HO277.out) (Kd.R_base ho0) hb); replace HB := Aside0.mk (below_step (bel_) hb); replace BK257 := Aside0.mk (bb_ BK257.out hb); (try clear hb ho0)))
    go_ret
    exact ⟨_, fi_, by (with_reducible repeat (first | apply Kd.R_alloc | apply Kd.R_drewN | apply Kd.R_drew)); exact Kd.R_mono HO280.out (fun _ hk => trivial), bel_⟩
   ·rw [if_neg c25] at H
    have c25b0 : (a1_0 == 1) = false := beq_eq_false_iff_ne.mpr c25
    have c25b1 : (a1_0 != 1) = true := bne_iff_ne.mpr c25
    replace H := Option.bind_eq_some_iff.mp H
    obtain ⟨t281, A350, H⟩ := H
    try dsimp only at H
    have A35 := Aside0.mk A350
    clear A350
    obtain ⟨y282, hy282⟩ : ∃ y_ : List (S69), y_ = (([] : List (S69))) := ⟨_, rfl⟩
    replace H : (if 0 ≤ t258 then (if t258 ≤ t281 then (if t281 ≤ (l0.length : Int) then ((some ((l0.take (t281 : Int).toNat).drop (t258 : Int).toNat : List (S69))).bind fun y285 => (if y282.length + y285.length < 4398046511104 then ((some (([] : List (S69)) : List (S69))).bind fun y292 => (if t258 ≤ (l0.length : Int) then ((some (l0.take (t258 : Int).toNat : List (S69))).bind fun y295 => (if y292.length + y295.length < 4398046511104 then ((some (y292 ++ y295 : List (S69))).bind fun y299 => (if 0 ≤ t281 then ((some (l0.drop (t281 : Int).toNat : List (S69))).bind fun y302 => (if y299.length + y302.length < 4398046511104 then ((spec_l3Put.f k (y299 ++ y302) (y282 ++ y285) t266 t267).bind fun t309 => (some t309)) else (none))) else (none))) else (none))) else (none))) else (none))) else (none)) else (none)) else (none)) = some r := by first | (rw [hy282]; with_reducible exact H) | (have H2_ := (Option.bind_some _ _).symm.trans H; rw [hy282]; with_reducible exact H2_) | (have H2_ := (Option.bind_some _ _).symm.trans H; with_reducible exact H2_) | with_reducible exact H | (rw [hy282]; exact H) | exact H
    have Ny282 := Aside0.mk hy282
    clear hy282
    by_cases c36 : 0 ≤ t258
    ·rw [if_pos c36] at H
     have c36b0 := eq_true c36
     have c36b1 : decide (0 ≤ t258) = true := decide_eq_true c36
     clear c36
     by_cases c37 : t258 ≤ t281
     ·rw [if_pos c37] at H
      have c37b0 := eq_true c37
      have c37b1 : decide (t258 ≤ t281) = true := decide_eq_true c37
      clear c37
      by_cases c38 : t281 ≤ (l0.length : Int)
      ·rw [if_pos c38] at H
       have c38b0 := eq_true c38
       have c38b1 : decide (t281 ≤ (l0.length : Int)) = true := decide_eq_true c38
       clear c38
       obtain ⟨y285, hy285⟩ : ∃ y_ : List (S69), y_ = ((l0.take (t281 : Int).toNat).drop (t258 : Int).toNat) := ⟨_, rfl⟩
       replace H : (if y282.length + y285.length < 4398046511104 then ((some (([] : List (S69)) : List (S69))).bind fun y292 => (if t258 ≤ (l0.length : Int) then ((some (l0.take (t258 : Int).toNat : List (S69))).bind fun y295 => (if y292.length + y295.length < 4398046511104 then ((some (y292 ++ y295 : List (S69))).bind fun y299 => (if 0 ≤ t281 then ((some (l0.drop (t281 : Int).toNat : List (S69))).bind fun y302 => (if y299.length + y302.length < 4398046511104 then ((spec_l3Put.f k (y299 ++ y302) (y282 ++ y285) t266 t267).bind fun t309 => (some t309)) else (none))) else (none))) else (none))) else (none))) else (none)) = some r := by first | (rw [hy285]; with_reducible exact H) | (have H2_ := (Option.bind_some _ _).symm.trans H; rw [hy285]; with_reducible exact H2_) | (have H2_ := (Option.bind_some _ _).symm.trans H; with_reducible exact H2_) | with_reducible exact H | (rw [hy285]; exact H) | exact H
       have Ny285 := Aside0.mk hy285
       clear hy285
       by_cases c39 : y282.length + y285.length < 4398046511104
       ·rw [if_pos c39] at H
        have LMc39 := Aside0.mk c39
        clear c39
        obtain ⟨y289, hy289⟩ : ∃ y_ : List (S69), y_ = (y282 ++ y285) := ⟨_, rfl⟩
        replace H : ((some (([] : List (S69)) : List (S69))).bind fun y292 => (if t258 ≤ (l0.length : Int) then ((some (l0.take (t258 : Int).toNat : List (S69))).bind fun y295 => (if y292.length + y295.length < 4398046511104 then ((some (y292 ++ y295 : List (S69))).bind fun y299 => (if 0 ≤ t281 then ((some (l0.drop (t281 : Int).toNat : List (S69))).bind fun y302 => (if y299.length + y302.length < 4398046511104 then ((spec_l3Put.f k (y299 ++ y302) y289 t266 t267).bind fun t309 => (some t309)) else (none))) else (none))) else (none))) else (none))) = some r := by first | (rw [hy289]; with_reducible exact H) | (have H2_ := (Option.bind_some _ _).symm.trans H; rw [hy289]; with_reducible exact H2_) | (have H2_ := (Option.bind_some _ _).symm.trans H; with_reducible exact H2_) | with_reducible exact H | (rw [hy289]; exact H) | exact H
        have Ny289 := Aside0.mk hy289
        clear hy289
        obtain ⟨y292, hy292⟩ : ∃ y_ : List (S69), y_ = (([] : List (S69))) := ⟨_, rfl⟩
        replace H : (if t258 ≤ (l0.length : Int) then ((some (l0.take (t258 : Int).toNat : List (S69))).bind fun y295 => (if y292.length + y295.length < 4398046511104 then ((some (y292 ++ y295 : List (S69))).bind fun y299 => (if 0 ≤ t281 then ((some (l0.drop (t281 : Int).toNat : List (S69))).bind fun y302 => (if y299.length + y302.length < 4398046511104 then ((spec_l3Put.f k (y299 ++ y302) y289 t266 t267).bind fun t309 => (some t309)) else (none))) else (none))) else (none))) else (none)) = some r := by first | (rw [hy292]; with_reducible exact H) | (have H2_ := (Option.bind_some _ _).symm.trans H; rw [hy292]; with_reducible exact H2_) | (have H2_ := (Option.bind_some _ _).symm.trans H; with_reducible exact H2_) | with_reducible exact H | (rw [hy292]; exact H) | exact H
        have Ny292 := Aside0.mk hy292
        clear hy292
        have c40b0 := eq_true (od_ : 0 ≤ t258)
        by_cases c41 : t258 ≤ (l0.length : Int)
        ·rw [if_pos c41] at H
         have c41b0 := eq_true c41
         have c41b1 : decide (t258 ≤ (l0.length : Int)) = true := decide_eq_true c41
         clear c41
         obtain ⟨y295, hy295⟩ : ∃ y_ : List (S69), y_ = (l0.take (t258 : Int).toNat) := ⟨_, rfl⟩
         replace H : (if y292.length + y295.length < 4398046511104 then ((some (y292 ++ y295 : List (S69))).bind fun y299 => (if 0 ≤ t281 then ((some (l0.drop (t281 : Int).toNat : List (S69))).bind fun y302 => (if y299.length + y302.length < 4398046511104 then ((spec_l3Put.f k (y299 ++ y302) y289 t266 t267).bind fun t309 => (some t309)) else (none))) else (none))) else (none)) = some r := by first | (rw [hy295]; with_reducible exact H) | (have H2_ := (Option.bind_some _ _).symm.trans H; rw [hy295]; with_reducible exact H2_) | (have H2_ := (Option.bind_some _ _).symm.trans H; with_reducible exact H2_) | with_reducible exact H | (rw [hy295]; exact H) | exact H
         have Ny295 := Aside0.mk hy295
         clear hy295
         by_cases c42 : y292.length + y295.length < 4398046511104
         ·rw [if_pos c42] at H
          have LMc42 := Aside0.mk c42
          clear c42
          obtain ⟨y299, hy299⟩ : ∃ y_ : List (S69), y_ = (y292 ++ y295) := ⟨_, rfl⟩
          replace H : (if 0 ≤ t281 then ((some (l0.drop (t281 : Int).toNat : List (S69))).bind fun y302 => (if y299.length + y302.length < 4398046511104 then ((spec_l3Put.f k (y299 ++ y302) y289 t266 t267).bind fun t309 => (some t309)) else (none))) else (none)) = some r := by first | (rw [hy299]; with_reducible exact H) | (have H2_ := (Option.bind_some _ _).symm.trans H; rw [hy299]; with_reducible exact H2_) | (have H2_ := (Option.bind_some _ _).symm.trans H; with_reducible exact H2_) | with_reducible exact H | (rw [hy299]; exact H) | exact H
          have Ny299 := Aside0.mk hy299
          clear hy299
          by_cases c43 : 0 ≤ t281
          ·rw [if_pos c43] at H
           have c43b0 := eq_true c43
           have c43b1 : decide (0 ≤ t281) = true := decide_eq_true c43
           clear c43
           have c44b0 := eq_true (od_ : t281 ≤ (l0.length : Int))
           obtain ⟨y302, hy302⟩ : ∃ y_ : List (S69), y_ = (l0.drop (t281 : Int).toNat) := ⟨_, rfl⟩
           replace H : (if y299.length + y302.length < 4398046511104 then ((spec_l3Put.f k (y299 ++ y302) y289 t266 t267).bind fun t309 => (some t309)) else (none)) = some r := by first | (rw [hy302]; with_reducible exact H) | (have H2_ := (Option.bind_some _ _).symm.trans H; rw [hy302]; with_reducible exact H2_) | (have H2_ := (Option.bind_some _ _).symm.trans H; with_reducible exact H2_) | with_reducible exact H | (rw [hy302]; exact H) | exact H
           have Ny302 := Aside0.mk hy302
           clear hy302
           by_cases c45 : y299.length + y302.length < 4398046511104
           ·rw [if_pos c45] at H
            have LMc45 := Aside0.mk c45
            clear c45
            obtain ⟨y306, hy306⟩ : ∃ y_ : List (S69), y_ = (y299 ++ y302) := ⟨_, rfl⟩
            replace H : ((spec_l3Put.f k y306 y289 t266 t267).bind fun t309 => (some t309)) = some r := by first | (rw [hy306]; with_reducible exact H) | (have H2_ := (Option.bind_some _ _).symm.trans H; rw [hy306]; with_reducible exact H2_) | (have H2_ := (Option.bind_some _ _).symm.trans H; with_reducible exact H2_) | with_reducible exact H | (rw [hy306]; exact H) | exact H
            have Ny306 := Aside0.mk hy306
            clear hy306
            replace H := Option.bind_eq_some_iff.mp H
            obtain ⟨t309, A460, H⟩ := H
            try dsimp only at H
            have A46 := Aside0.mk A460
            clear A460
            obtain rfl := Option.some.inj H
            go_enter Tryd.func125, Tryd.ntmps125
            try go_wp2_with (first | ((with_reducible refine gate_dst (N := 3) rfl ?_); refine bx_ 3 (#[.int .i64 a1_0, .int .i64 a1_1, .int .i64 a1_2, .int .i64 a1_3, .string a1_4]) 42 ?_; intro gb257 hg w47 hbox hb; have n0_ := Aside0.mk (below_step (bel_) hb); have n1_ := Aside0.mk (hbox); have n2_ := Aside0.mk ((by rw [hg]; exact (below_size (bel_)) : w.heap.size ≤ gb257)); have n3_ := Aside0.mk ((by rw [hg]; exact (below_size (bel_)) : w.heap.size ≤ gb257)); clear HB; have HB := n0_; have BK257 := n1_; have GW257 := n2_; have GE257 := n3_; clear n0_ n1_ n2_ n3_; clear hb hbox hg; have hcz48_0 := cz_ BK257.out 0 (.int .i64 a1_0); have hcz48_1 := cz_ BK257.out 1 (.int .i64 a1_1); have hcz48_2 := cz_ BK257.out 2 (.int .i64 a1_2); have hcz48_3 := cz_ BK257.out 3 (.int .i64 a1_3); have hcz48_4 := cz_ BK257.out 4 (.string a1_4); have hfz48_0 := blk_frozen BK257.out 0; have hfz48_1 := blk_frozen BK257.out 1; have hfz48_2 := blk_frozen BK257.out 2; have hfz48_3 := blk_frozen BK257.out 3; have hfz48_4 := blk_frozen BK257.out 4) | ((with_reducible refine gate_callee (f := 145) rfl ?_); refine gl_ 16 Tryd.func145 #[.slice A0 l0.length c0, .int .i64 a1_1] ?_; (with_reducible refine (spec_l2At.calls k _ _ l0 a1_1 t258 _ ?side1 ?side2 A3.out).mono ?_); (case side1 => exact cp_ HR0.out); (case side2 => exact HC0.out); rintro e w' ⟨rfl, ⟨nd, rfl⟩⟩; refine ⟨_, rfl, ?_⟩) | ((with_reducible refine gate_callee (f := 146) rfl ?_); refine gl_ 35 Tryd.func146 #[.slice A0 l0.length c0, .agg #[.int .i64 a1_0, .int .i64 a1_1, .int .i64 a1_2, .int .i64 a1_3, .string a1_4]] ?_; (with_reducible refine (spec_l3Where.calls k _ _ l0 a1_0 a1_1 a1_2 a1_3 a1_4 t266 t267 true _ ?side1 ?side2 A23.out).mono ?_); (case side1 => repeat (first | exact (Kd.C_below HR0.out (bel_)) | (with_reducible refine Kd.C_alloc ?_ _) | (with_reducible refine Kd.C_drewN ?_ _) | (with_reducible refine Kd.C_drew ?_))); (case side2 => exact HC0.out); rintro e w49 ⟨rfl, hb⟩; refine ⟨_, rfl, ?_⟩; replace HB := Aside0.mk (below_step (bel_) hb); replace BK257 := Aside0.mk (bb_ BK257.out hb); (try clear hb); have hcz50_0 := cz_ BK257.out 0 (.int .i64 a1_0); have hcz50_1 := cz_ BK257.out 1 (.int .i64 a1_1); have hcz50_2 := cz_ BK257.out 2 (.int .i64 a1_2); have hcz50_3 := cz_ BK257.out 3 (.int .i64 a1_3); have hcz50_4 := cz_ BK257.out 4 (.string a1_4); have hfz50_0 := blk_frozen BK257.out 0; have hfz50_1 := blk_frozen BK257.out 1; have hfz50_2 := blk_frozen BK257.out 2; have hfz50_3 := blk_frozen BK257.out 3; have hfz50_4 := blk_frozen BK257.out 4) | ((with_reducible refine gate_callee (f := 148) rfl ?_); refine gl_ 59 Tryd.func148 #[.slice A0 l0.length c0, .int .i64 t258] ?_; (with_reducible refine (spec_l2End.calls k _ _ l0 t258 t281 _ ?side1 ?side2 A35.out).mono ?_); (case side1 => exact cp_ HR0.out); (case side2 => exact HC0.out); rintro e w' ⟨rfl, ⟨nd, rfl⟩⟩; refine ⟨_, rfl, ?_⟩) | ((with_reducible refine gate_dst (N := 60) rfl ?_); refine Kd.R_lit k69 _ 69 ?hg (N := 60) ?hd (xs := ([] : List (S69))) (inner := []) (ok := fun _ => True) (okp := fun _ => True) ?hr ?hp (fun _ hk => hk) trivial (Below.refl _ _) (Nat.le_refl _) (by simp) ?_; (case hd => rfl); (case hg => rfl); (case hr => first | (go_simp; done) | (go_simp; rfl)); (case hp => exact (Reps.none _ _)); intro v283 w51 ho52 hb hg_ hnew_; clear hg_ hnew_; (first | rw [← Ny282.out] at ho52 | (simp only [Int.reduceToNat] at ho52; rw [← Ny282.out] at ho52)); have HO284 := Aside0.mk (Kd.R_lower ho52 (below_size (bel_))); replace HB := Aside0.mk (below_step (bel_) hb); replace BK257 := Aside0.mk (bb_ BK257.out hb); clear hb ho52; have q53 : (t281 : Int) ≤ ((l0.length : Int) : Int) := od_; obtain ⟨i053, hi053, _, hsz53, _⟩ := info_parts info69; have hroom53 : l0.length ≤ c0 := HC0.out; have hC53 : Kd.C k69 _ A0 l0.length l0 := HR0.out; have ql53 : (t258 : Int) ≤ (t281 : Int) := od_; have q053 : (0 : Int) ≤ (t258 : Int) := od_; have hcut53 := cut_mid (P := Tryd.prog) 62 69 .i64 .i64 Tryd.underlying62 hi053 3 hsz53 A0 l0.length c0 t258 t281 q053 ql53 q53 hroom53; have hr53 := Kd.C_mid (lo := (t258 : Int).toNat) (hi := (t281 : Int).toNat) (c := c0) hC53 (by omega) (by omega) hroom53; obtain ⟨A53, hA53⟩ : ∃ A1, A1 = (if c0 = (t258 : Int).toNat then A0 else (A0 : Option Addr).map (·.add ((t258 : Int).toNat * 3))) := ⟨_, rfl⟩; obtain ⟨c53, hc53⟩ : ∃ c1, c1 = c0 - (t258 : Int).toNat := ⟨_, rfl⟩; have hy53 : y285.length = (t281 : Int).toNat - (t258 : Int).toNat := (by rw [Ny285.out, List.length_drop, List.length_take] <;> omega); rw [show ((l0).take (t281 : Int).toNat).drop (t258 : Int).toNat = y285 from Ny285.out.symm] at hr53; replace hr53 : Kd.C k69 _ A53 y285.length y285 := (by rw [hA53]; exact hr53); rw [← hy53, ← hA53, ← hc53] at hcut53; have HR288 := Aside0.mk hr53; have HC288 := Aside0.mk (show y285.length ≤ c53 from by rw [hy53, hc53]; exact Nat.sub_le_sub_right (Nat.le_trans (by omega) hroom53) _); clear hr53 hC53 hroom53 hi053 hsz53 hc53; have KY53 := Aside0.mk hy53; have KA53 := Aside0.mk hA53; clear hy53 hA53; replace q53 := eq_true q53) | ((with_reducible refine gate_builtin (b := .append) (xs := #[.tmp 60, .tmp 64]) rfl ?_); at_builtin; refine Kd.R_append_rows k69 (w0 := w) w.heap.size rfl (.tmp 60) (.tmp 64) 62 69 (.agg #[(.int .i64 0), (.int .i64 0), (.string ⟨#[]⟩)]) 32 rfl Tryd.underlying62 info69 rfl (by decide) (by omega) v283 y282 y285 _ _ _ (fun _ => True) (fun _ => False) rfl rfl ?aO ?aR (fun _ _ h => h) (fun _ h => h.elim) ?aF ?aB ?aS ?aL ?_; (case aR => exact cx_ (Kd.C_below HR288.out HB.out)); (case aB => exact (bel_)); (case aF => exact (fun _ _ => trivial)); (case aO => exact (rp_ HO284.out)); (case aS => exact (below_size (bel_))); (case aL => have := LMc39.out; omega); intro v290 w54 ho hb hg hat; rw [← Ny289.out] at ho; replace BK257 := Aside0.mk (blk_grown (g := gb257) (o := .cells #[.int .i64 a1_0, .int .i64 a1_1, .int .i64 a1_2, .int .i64 a1_3, .string a1_4] 42 (0, 0)) (bp_ BK257.out) hg (Kd.R_ne HO284.out BK257.out (by decide))); replace HB := Aside0.mk (hb); have HO291 := Aside0.mk (ho); clear HO284; clear ho hb hg hat))
            have n0_ := Aside0.mk (Kd.R_drew HO291.out)
            have n1_ := Aside0.mk (blk_drew BK257.out)
            have n2_ := Aside0.mk (below_drew1 HB.out)
            clear HO291
            clear BK257
            clear HB
            have HO291 := n0_
            have BK257 := n1_
            have HB := n2_
            clear n0_ n1_ n2_
            have q56 : (t258 : Int) ≤ ((l0.length : Int) : Int) := od_
            obtain ⟨i056, hi056, _, hsz56, _⟩ := info_parts info69
            have hroom56 : l0.length ≤ c0 := HC0.out
            have hC56 : Kd.C k69 _ A0 l0.length l0 := HR0.out
            have hcut56 := cut_to (P := Tryd.prog) 62 69 .i64 Tryd.underlying62 hi056 A0 l0.length c0 t258 (od_) q56 hroom56
            have hr56 := Kd.C_take (m := (t258 : Int).toNat) hC56 (by omega)
            have hy56 : y295.length = (t258 : Int).toNat := (by rw [Ny295.out, List.length_take]; omega)
            rw [← Ny295.out] at hr56
            rw [← hy56] at hcut56
            have HR298 := Aside0.mk hr56
            have HC298 := Aside0.mk (show y295.length ≤ c0 from by omega)
            clear hr56 hC56 hroom56 hi056 hsz56
            have KY56 := Aside0.mk hy56
            clear hy56
            replace q56 := eq_true q56
            have q57 : (t281 : Int) ≤ ((l0.length : Int) : Int) := od_
            obtain ⟨i057, hi057, _, hsz57, _⟩ := info_parts info69
            have hroom57 : l0.length ≤ c0 := HC0.out
            have hC57 : Kd.C k69 _ A0 l0.length l0 := HR0.out
            have q057 : (0 : Int) ≤ (t281 : Int) := od_
            have hcut57 := cut_from (P := Tryd.prog) 62 69 .i64 Tryd.underlying62 hi057 3 hsz57 A0 l0.length c0 t281 q057 q57
            have hr57 := Kd.C_drop (m := (t281 : Int).toNat) (c := c0) hC57 (by omega) hroom57
            obtain ⟨A57, hA57⟩ : ∃ A1, A1 = (if c0 = (t281 : Int).toNat then A0 else (A0 : Option Addr).map (·.add ((t281 : Int).toNat * 3))) := ⟨_, rfl⟩
            obtain ⟨c57, hc57⟩ : ∃ c1, c1 = c0 - (t281 : Int).toNat := ⟨_, rfl⟩
            have hy57 : y302.length = l0.length - (t281 : Int).toNat := (by rw [Ny302.out, List.length_drop] <;> omega)
            rw [show (l0).drop (t281 : Int).toNat = y302 from Ny302.out.symm] at hr57
            replace hr57 : Kd.C k69 _ A57 y302.length y302 := (by rw [hA57]; exact hr57)
            rw [← hy57, ← hA57, ← hc57] at hcut57
            have HR305 := Aside0.mk hr57
            have HC305 := Aside0.mk (show y302.length ≤ c57 from by rw [hy57, hc57]; exact Nat.sub_le_sub_right hroom57 _)
            clear hr57 hC57 hroom57 hi057 hsz57 hc57
            have KY57 := Aside0.mk hy57
            have KA57 := Aside0.mk hA57
            clear hy57 hA57
            replace q57 := eq_true q57
            refine start_ (n := 10) (S := fun w' => True) (ds := []) #[false, false, false, false, false, false, false, false, false, false] (by kernel_rfl) rfl rfl trivial (fun hHeld => ?_); refine with_tabW spec_l3Do.tab14 spec_l3Do.bits14 (fun HT_ HW_ => ?_)
            generalize w54.drew = w55 at HO291 BK257 HB HR298 HR305 hHeld ⊢
            refine pa_ 1 67 ?_
            refine pa_ 2 68 ?_
            refine pa_ 3 69 ?_
            refine pa_ 5 71 ?_
            refine pa_ 6 72 ?_
            refine pa_ 7 73 ?_
            refine on_ 0 66 (fun K hK => ?_)
            refine Kd.R_lit_step k69 _ 69 ?hg (N := 66) ?hd (xs := ([] : List (S69))) (inner := []) (ok := fun _ => True) (okp := fun _ => True) ?hr ?hp (fun _ hk => hk) trivial (Below.refl _ _) (Nat.le_refl _) (by simp) ?_; (case hd => rfl); (case hg => rfl); (case hr => first | (go_simp; done) | (go_simp; rfl)); (case hp => exact (Reps.none _ _))
            intro v293 w58 ho59 hb hg_ hnew_
            clear hg_ hnew_
            (first | rw [← Ny292.out] at ho59 | (simp only [Int.reduceToNat] at ho59; rw [← Ny292.out] at ho59))
            have n0_ := Aside0.mk (Kd.R_elder' (rp_ HO291.out) (Kd.R_base ho59) hb)
            have n1_ := Aside0.mk (Kd.R_lower (Kd.R_new' ho59 (Kd.R_lt (rp_ HO291.out))) (below_size (bel_)))
            have n2_ := Aside0.mk (bb_ BK257.out hb)
            have n3_ := Aside0.mk (below_step (bel_) hb)
            clear HO291
            clear BK257
            clear HB
            have HO291 := n0_
            have HO294 := n1_
            have BK257 := n2_
            have HB := n3_
            clear n0_ n1_ n2_ n3_
            clear hb ho59
            refine hK.out _ _ trivial (fun hHeld => ?_)
            clear hK K
            refine no_ 66 ?_
            refine on_ 4 70 (fun K hK => ?_)
            refine Kd.R_append_rows_step k69 (w0 := w) w.heap.size (by rfl) (.tmp 66) (.tmp 69) 62 69 (.agg #[(.int .i64 0), (.int .i64 0), (.string ⟨#[]⟩)]) 32 rfl Tryd.underlying62 info69 rfl (by decide) (by omega) v293 y292 y295 _ _ _ (fun k_ => some k_ ≠ (v290 : Value).ownBlock) (fun _ => False) rfl rfl ?aO ?aR (fun _ _ h => h) (fun _ h => h.elim) ?aF ?aB ?aS ?aL ?_
            (case aR => exact cx_ (Kd.C_below HR298.out HB.out))
            (case aB => exact (bel_))
            (case aF => exact (fun k_ hk => Kd.fresh' (Kd.R_lt (rp_ HO291.out)) k_ hk))
            (case aO => exact (by (with_reducible repeat (first | apply Kd.R_alloc | apply Kd.R_drewN | apply Kd.R_drew)); exact Kd.R_mono HO294.out (fun _ hk => hk.2)))
            (case aS => exact (below_size (bel_)))
            (case aL => have := LMc42.out; omega)
            intro v300 w60 ho hb hg hat
            rw [← Ny299.out] at ho
            have n0_ := Aside0.mk (blk_grown (g := gb257) (o := .cells #[.int .i64 a1_0, .int .i64 a1_1, .int .i64 a1_2, .int .i64 a1_3, .string a1_4] 42 (0, 0)) (bp_ BK257.out) hg (Kd.R_ne HO294.out BK257.out (by decide)))
            have n1_ := Aside0.mk (Kd.R_after (ok := (fun _ => True)) (rp_ HO291.out) hg hat)
            have n2_ := Aside0.mk (hb)
            have n3_ := Aside0.mk (ho)
            clear BK257
            clear HO291
            clear HB
            clear HO294
            have BK257 := n0_
            have HO291 := n1_
            have HB := n2_
            have HO301 := n3_
            clear n0_ n1_ n2_ n3_
            clear ho hb hg hat
            refine hK.out _ _ trivial (fun hHeld => ?_)
            clear hK K
            refine no_ 70 ?_
            refine on_ 8 74 (fun K hK => ?_)
            refine Kd.R_append_rows_step k69 (w0 := w) w.heap.size (by rfl) (.tmp 70) (.tmp 73) 62 69 (.agg #[(.int .i64 0), (.int .i64 0), (.string ⟨#[]⟩)]) 32 rfl Tryd.underlying62 info69 rfl (by decide) (by omega) v300 y299 y302 _ _ _ (fun k_ => some k_ ≠ (v290 : Value).ownBlock) (fun _ => False) rfl rfl ?aO ?aR (fun _ _ h => h) (fun _ h => h.elim) ?aF ?aB ?aS ?aL ?_
            (case aR => exact cx_ (Kd.C_below HR305.out HB.out))
            (case aB => exact (bel_))
            (case aF => exact (fun k_ hk => Kd.fresh' (Kd.R_lt (rp_ HO291.out)) k_ hk))
            (case aO => exact (rp_ HO301.out))
            (case aS => exact (below_size (bel_)))
            (case aL => have := LMc45.out; omega)
            intro v307 w61 ho hb hg hat
            rw [← Ny306.out] at ho
            have n0_ := Aside0.mk (blk_grown (g := gb257) (o := .cells #[.int .i64 a1_0, .int .i64 a1_1, .int .i64 a1_2, .int .i64 a1_3, .string a1_4] 42 (0, 0)) (bp_ BK257.out) hg (Kd.R_ne HO301.out BK257.out (by decide)))
            have n1_ := Aside0.mk (Kd.R_after (ok := (fun _ => True)) (rp_ HO291.out) hg hat)
            have n2_ := Aside0.mk (hb)
            have n3_ := Aside0.mk (ho)
            clear BK257
            clear HO291
            clear HB
            clear HO301
            have BK257 := n0_
            have HO291 := n1_
            have HB := n2_
            have HO308 := n3_
            clear n0_ n1_ n2_ n3_
            clear ho hb hg hat
            refine hK.out _ _ trivial (fun hHeld => ?_)
            clear hK K
            refine no_ 74 ?_
            refine pa_ 9 12 ?_
            refine done_ (done_of HT_.out (by kernel_rfl)) ?_
            obtain ⟨Ao62, co62, eo62⟩ := Kd.R_slice HO308.out
            subst eo62
            obtain ⟨Ao63, co63, eo63⟩ := Kd.R_slice HO291.out
            subst eo63
            try go_wp2_with (first | ((with_reducible refine gate_callee (f := 147) rfl ?_); refine gl_ 79 Tryd.func147 #[.slice Ao62 y306.length co62, .slice Ao63 y289.length co63, .int .i64 t266, .int .i64 t267] ?_; (with_reducible refine (spec_l3Put.calls k _ _ y306 _ _ y289 t266 t267 t309 _ ?side1 ?side2 ?side3 ?side4 A46.out).mono ?_); (case side1 => exact cx_ (Kd.R_reads' HO308.out).2.2); (case side2 => exact (Kd.R_reads' HO308.out).2.1); (case side3 => exact cx_ (Kd.R_reads' HO291.out).2.2); (case side4 => exact (Kd.R_reads' HO291.out).2.1); rintro e w64 ⟨v310, rfl, ho0, hb⟩; refine ⟨_, rfl, ?_⟩; have HO311 := Aside0.mk (Kd.R_lower (Kd.R_new' (Kd.R_new' ho0 (Kd.R_lt (rp_ HO291.out))) (Kd.R_lt (rp_ HO308.out))) (below_size (bel_))); replace HO291 := Aside0.mk (Kd.R_elder' (rp_ HO291.out) (Kd.R_base ho0) hb); replace HO308 := Aside0.mk (Kd.R_elder' (rp_ HO308.out) (Kd.R_base ho0) hb); replace HB := Aside0.mk (below_step (bel_) hb); replace BK257 := Aside0.mk (bb_ BK257.out hb); (try clear hb ho0)))
            go_ret
            exact ⟨_, fi_, by (with_reducible repeat (first | apply Kd.R_alloc | apply Kd.R_drewN | apply Kd.R_drew)); exact Kd.R_mono HO311.out (fun _ hk => trivial), bel_⟩
           ·rw [if_neg c45] at H
            exact absurd H (by simp)
          ·rw [if_neg c43] at H
           exact absurd H (by simp)
         ·rw [if_neg c42] at H
          exact absurd H (by simp)
        ·rw [if_neg c41] at H
         exact absurd H (by simp)
       ·rw [if_neg c39] at H
        exact absurd H (by simp)
      ·rw [if_neg c38] at H
       exact absurd H (by simp)
     ·rw [if_neg c37] at H
      exact absurd H (by simp)
    ·rw [if_neg c36] at H
     exact absurd H (by simp)
  ·replace c24 := Bool.eq_false_iff.mpr c24
   subst c24
   have H1 : ((some (([] : List (S69)) : List (S69))).bind fun y269 => (if y269.length + l0.length < 4398046511104 then (some (y269 ++ l0)) else (none))) = some r := by rw [if_neg (show ¬ (false = true) by decide)] at H; exact H
   clear H
   have H := H1
   clear H1
   obtain ⟨y269, hy269⟩ : ∃ y_ : List (S69), y_ = (([] : List (S69))) := ⟨_, rfl⟩
   replace H : (if y269.length + l0.length < 4398046511104 then (some (y269 ++ l0)) else (none)) = some r := by first | (rw [hy269]; with_reducible exact H) | (have H2_ := (Option.bind_some _ _).symm.trans H; rw [hy269]; with_reducible exact H2_) | (have H2_ := (Option.bind_some _ _).symm.trans H; with_reducible exact H2_) | with_reducible exact H | (rw [hy269]; exact H) | exact H
   have Ny269 := Aside0.mk hy269
   clear hy269
   by_cases c65 : y269.length + l0.length < 4398046511104
   ·rw [if_pos c65] at H
    have LMc65 := Aside0.mk c65
    clear c65
    obtain ⟨y272, hy272⟩ : ∃ y_ : List (S69), y_ = (y269 ++ l0) := ⟨_, rfl⟩
    replace H : (some y272) = some r := by first | (rw [hy272]; with_reducible exact H) | (have H2_ := (Option.bind_some _ _).symm.trans H; rw [hy272]; with_reducible exact H2_) | (have H2_ := (Option.bind_some _ _).symm.trans H; with_reducible exact H2_) | with_reducible exact H | (rw [hy272]; exact H) | exact H
    have Ny272 := Aside0.mk hy272
    clear hy272
    obtain rfl := Option.some.inj H
    go_enter Tryd.func125, Tryd.ntmps125
    go_wp2_with (first | ((with_reducible refine gate_dst (N := 3) rfl ?_); refine bx_ 3 (#[.int .i64 a1_0, .int .i64 a1_1, .int .i64 a1_2, .int .i64 a1_3, .string a1_4]) 42 ?_; intro gb257 hg w66 hbox hb; have n0_ := Aside0.mk (below_step (bel_) hb); have n1_ := Aside0.mk (hbox); have n2_ := Aside0.mk ((by rw [hg]; exact (below_size (bel_)) : w.heap.size ≤ gb257)); have n3_ := Aside0.mk ((by rw [hg]; exact (below_size (bel_)) : w.heap.size ≤ gb257)); clear HB; have HB := n0_; have BK257 := n1_; have GW257 := n2_; have GE257 := n3_; clear n0_ n1_ n2_ n3_; clear hb hbox hg; have hcz67_0 := cz_ BK257.out 0 (.int .i64 a1_0); have hcz67_1 := cz_ BK257.out 1 (.int .i64 a1_1); have hcz67_2 := cz_ BK257.out 2 (.int .i64 a1_2); have hcz67_3 := cz_ BK257.out 3 (.int .i64 a1_3); have hcz67_4 := cz_ BK257.out 4 (.string a1_4); have hfz67_0 := blk_frozen BK257.out 0; have hfz67_1 := blk_frozen BK257.out 1; have hfz67_2 := blk_frozen BK257.out 2; have hfz67_3 := blk_frozen BK257.out 3; have hfz67_4 := blk_frozen BK257.out 4) | ((with_reducible refine gate_callee (f := 145) rfl ?_); refine gl_ 16 Tryd.func145 #[.slice A0 l0.length c0, .int .i64 a1_1] ?_; (with_reducible refine (spec_l2At.calls k _ _ l0 a1_1 t258 _ ?side1 ?side2 A3.out).mono ?_); (case side1 => exact cp_ HR0.out); (case side2 => exact HC0.out); rintro e w' ⟨rfl, ⟨nd, rfl⟩⟩; refine ⟨_, rfl, ?_⟩) | ((with_reducible refine gate_callee (f := 146) rfl ?_); refine gl_ 35 Tryd.func146 #[.slice A0 l0.length c0, .agg #[.int .i64 a1_0, .int .i64 a1_1, .int .i64 a1_2, .int .i64 a1_3, .string a1_4]] ?_; (with_reducible refine (spec_l3Where.calls k _ _ l0 a1_0 a1_1 a1_2 a1_3 a1_4 t266 t267 false _ ?side1 ?side2 A23.out).mono ?_); (case side1 => repeat (first | exact (Kd.C_below HR0.out (bel_)) | (with_reducible refine Kd.C_alloc ?_ _) | (with_reducible refine Kd.C_drewN ?_ _) | (with_reducible refine Kd.C_drew ?_))); (case side2 => exact HC0.out); rintro e w68 ⟨rfl, hb⟩; refine ⟨_, rfl, ?_⟩; replace HB := Aside0.mk (below_step (bel_) hb); replace BK257 := Aside0.mk (bb_ BK257.out hb); (try clear hb)) | ((with_reducible refine gate_dst (N := 41) rfl ?_); refine Kd.R_lit k69 _ 69 ?hg (N := 41) ?hd (xs := ([] : List (S69))) (inner := []) (ok := fun _ => True) (okp := fun _ => True) ?hr ?hp (fun _ hk => hk) trivial (Below.refl _ _) (Nat.le_refl _) (by simp) ?_; (case hd => rfl); (case hg => rfl); (case hr => first | (go_simp; done) | (go_simp; rfl)); (case hp => exact (Reps.none _ _)); intro v270 w69 ho70 hb hg_ hnew_; clear hg_ hnew_; (first | rw [← Ny269.out] at ho70 | (simp only [Int.reduceToNat] at ho70; rw [← Ny269.out] at ho70)); have HO271 := Aside0.mk (Kd.R_lower ho70 (below_size (bel_))); replace HB := Aside0.mk (below_step (bel_) hb); replace BK257 := Aside0.mk (bb_ BK257.out hb); clear hb ho70) | ((with_reducible refine gate_builtin (b := .append) (xs := #[.tmp 41, .tmp 42]) rfl ?_); at_builtin; refine Kd.R_append_rows k69 (w0 := w) w.heap.size rfl (.tmp 41) (.tmp 42) 62 69 (.agg #[(.int .i64 0), (.int .i64 0), (.string ⟨#[]⟩)]) 32 rfl Tryd.underlying62 info69 rfl (by decide) (by omega) v270 y269 l0 _ _ _ (fun _ => True) (fun _ => False) rfl rfl ?aO ?aR (fun _ _ h => h) (fun _ h => h.elim) ?aF ?aB ?aS ?aL ?_; (case aR => exact cx_ (Kd.C_below HR0.out HB.out)); (case aB => exact (bel_)); (case aF => exact (fun _ _ => trivial)); (case aO => exact (rp_ HO271.out)); (case aS => exact (below_size (bel_))); (case aL => have := LMc65.out; omega); intro v273 w71 ho hb hg hat; rw [← Ny272.out] at ho; replace BK257 := Aside0.mk (blk_grown (g := gb257) (o := .cells #[.int .i64 a1_0, .int .i64 a1_1, .int .i64 a1_2, .int .i64 a1_3, .string a1_4] 42 (0, 0)) (bp_ BK257.out) hg (Kd.R_ne HO271.out BK257.out (by decide))); replace HB := Aside0.mk (hb); have HO274 := Aside0.mk (ho); clear HO271; clear ho hb hg hat))
    go_ret
    exact ⟨_, fi_, by (with_reducible repeat (first | apply Kd.R_alloc | apply Kd.R_drewN | apply Kd.R_drew)); exact HO274.out, bel_⟩
   ·rw [if_neg c65] at H
    exact absurd H (by simp)

def impl_whoOk.f (a0 : Int) : Option (Bool) := if a0 ≥ 1 then (some (decide (a0 ≤ 3))) else (some false)
set_option maxHeartbeats 8000000 in
set_option maxRecDepth 100000 in
theorem impl_whoOk.calls (a0 : Int) (r : Bool) (w : World) (h : impl_whoOk.f a0 = some r) :
  Calls Tryd.prog 104 #[.int .i64 a0] w fun e w' => e = .returned (.bool r) ∧ Drawn0 w w' := by
 unfold impl_whoOk.f at h
 have H := h
 clear h
 by_cases c2 : a0 ≥ 1
 ·rw [if_pos c2] at H
  have c2b0 : decide (1 ≤ a0) = true := decide_eq_true c2
  clear c2
  obtain rfl := Option.some.inj H
  go_enter Tryd.func104, Tryd.ntmps104
  go_wp2
  go_ret
  exact ⟨si_, by repeat (first | exact Drawn0.refl _ | apply Drawn0.step)⟩
 ·rw [if_neg c2] at H
  have c2b0 : decide (1 ≤ a0) = false := decide_eq_false c2
  clear c2
  obtain rfl := Option.some.inj H
  go_enter Tryd.func104, Tryd.ntmps104
  go_wp2
  go_ret
  exact ⟨si_, by repeat (first | exact Drawn0.refl _ | apply Drawn0.step)⟩

end Go.Proofs.YtdpklbomhdpimaaDoor.P
namespace Go.Proofs.YtdpklbomhdpimaaDoor.P
open Go.RowKit Go.Proofs.YtdpklbomhdpimaaDoorW.PrintWords
def impl_RowWho.f (a0 : Int) : Option (Int × Bool) := some (if ownI a0 = 0 then (0, false) else (ownI a0 - 1, true))
set_option maxHeartbeats 800000 in
theorem impl_RowWho.calls (a0 : Int) (r1 : Int) (r2 : Bool) (w : World) (h : impl_RowWho.f a0 = some (r1, r2)) (hG : Glob w) :
  Calls Tryd.prog 117 #[.int .i64 a0] w fun e w' => e = .returned (.tuple #[.int .i64 r1, .bool r2]) ∧ Drawn0 w w' := by
 unfold impl_RowWho.f at h
 by_cases h0 : 0 ≤ a0
 ·by_cases h1 : a0 < 37
  ·have hc := hG.at_ a0 h0 h1
   have hr := ownI_range a0
   generalize ownI a0 = z at hc hr h
   by_cases hz : z = 0
   ·subst hz
    simp only [if_true, Option.some.injEq, Prod.mk.injEq] at h
    obtain ⟨rfl, rfl⟩ := h
    clear hr hG
    go_enter Tryd.func117, Tryd.ntmps117
    go_wp2
    go_ret2
    exact ⟨rfl, Drawn0.refl _⟩
   ·rw [if_neg hz] at h
    simp only [Option.some.injEq, Prod.mk.injEq] at h
    obtain ⟨rfl, rfl⟩ := h
    have hz1 : (z == 0) = false := beq_eq_false_iff_ne.2 hz
    have hr1 : 0 ≤ z := hr.1
    have hr2 : z ≤ 4 := hr.2
    clear hr hG
    go_enter Tryd.func117, Tryd.ntmps117
    go_wp2
    go_ret2
    exact ⟨rfl, Drawn0.refl _⟩
  ·have e : ownI a0 = 0 := by rw [ownI, if_neg (by omega)]
   rw [if_pos e] at h
   simp only [Option.some.injEq, Prod.mk.injEq] at h
   obtain ⟨rfl, rfl⟩ := h
   clear e hG
   go_enter Tryd.func117, Tryd.ntmps117
   go_wp2
   go_ret2
   exact ⟨rfl, Drawn0.refl _⟩
 ·have e : ownI a0 = 0 := by rw [ownI, if_neg (by omega)]
  rw [if_pos e] at h
  simp only [Option.some.injEq, Prod.mk.injEq] at h
  obtain ⟨rfl, rfl⟩ := h
  clear e hG
  have hlt : a0 < 0 := by omega
  go_enter Tryd.func117, Tryd.ntmps117
  go_wp2
  go_ret2
  exact ⟨rfl, Drawn0.refl _⟩
end Go.Proofs.YtdpklbomhdpimaaDoor.P
namespace Go.Proofs.YtdpklbomhdpimaaDoor.P
open Go.RowKit Go.Proofs.YtdpklbomhdpimaaDoorW.PrintWords Go.Proofs.YtdpklbomhdpimaaDoorW.PrintLast
def impl_isMade.f (a0 : Int) : Option (Bool) := (impl_RowWho.f a0).bind fun bt396 => (if bt396.2 = true then (some (bt396.1 != 0)) else (some false))
set_option maxHeartbeats 8000000 in
set_option maxRecDepth 100000 in
theorem impl_isMade.calls (a0 : Int) (r : Bool) (w : World) (h : impl_isMade.f a0 = some r) (hG : Glob w) :
  Calls Tryd.prog 127 #[.int .i64 a0] w fun e w' => e = .returned (.bool r) ∧ Drawn0 w w' := by
 have HG := Aside0.mk hG
 clear hG
 unfold impl_isMade.f at h
 have H := h
 clear h
 replace H := Option.bind_eq_some_iff.mp H
 obtain ⟨⟨t396, t397⟩, A20, H⟩ := H
 try dsimp only at H
 have A2 := Aside0.mk A20
 clear A20
 by_cases c3 : t397 = true
 ·subst c3
  have H1 : (some (t396 != 0)) = some r := by rw [if_pos rfl] at H; exact H
  clear H
  have H := H1
  clear H1
  obtain rfl := Option.some.inj H
  go_enter Tryd.func127, Tryd.ntmps127
  go_wp2_with (first | ((with_reducible refine gate_callee (f := 117) rfl ?_); refine gl_ 7 Tryd.func117 #[.int .i64 a0] ?_; (with_reducible refine (impl_RowWho.calls a0 t396 true _ A2.out ?side1).mono ?_); (case side1 => exact hg_); rintro e w' ⟨rfl, ⟨nd, rfl⟩⟩; refine ⟨_, rfl, ?_⟩))
  go_ret
  exact ⟨si_, by repeat (first | exact Drawn0.refl _ | apply Drawn0.step)⟩
 ·replace c3 := Bool.eq_false_iff.mpr c3
  subst c3
  have H1 : (some false) = some r := by rw [if_neg (show ¬ (false = true) by decide)] at H; exact H
  clear H
  have H := H1
  clear H1
  obtain rfl := Option.some.inj H
  go_enter Tryd.func127, Tryd.ntmps127
  go_wp2_with (first | ((with_reducible refine gate_callee (f := 117) rfl ?_); refine gl_ 7 Tryd.func117 #[.int .i64 a0] ?_; (with_reducible refine (impl_RowWho.calls a0 t396 false _ A2.out ?side1).mono ?_); (case side1 => exact hg_); rintro e w' ⟨rfl, ⟨nd, rfl⟩⟩; refine ⟨_, rfl, ?_⟩))
  go_ret
  exact ⟨si_, by repeat (first | exact Drawn0.refl _ | apply Drawn0.step)⟩

def impl_isRoot.f (a0 : Int) : Option (Bool) := (impl_RowWho.f a0).bind fun bt398 => (if bt398.2 = true then (some (bt398.1 == 0)) else (some false))
set_option maxHeartbeats 8000000 in
set_option maxRecDepth 100000 in
theorem impl_isRoot.calls (a0 : Int) (r : Bool) (w : World) (h : impl_isRoot.f a0 = some r) (hG : Glob w) :
  Calls Tryd.prog 98 #[.int .i64 a0] w fun e w' => e = .returned (.bool r) ∧ Drawn0 w w' := by
 have HG := Aside0.mk hG
 clear hG
 unfold impl_isRoot.f at h
 have H := h
 clear h
 replace H := Option.bind_eq_some_iff.mp H
 obtain ⟨⟨t398, t399⟩, A20, H⟩ := H
 try dsimp only at H
 have A2 := Aside0.mk A20
 clear A20
 by_cases c3 : t399 = true
 ·subst c3
  have H1 : (some (t398 == 0)) = some r := by rw [if_pos rfl] at H; exact H
  clear H
  have H := H1
  clear H1
  obtain rfl := Option.some.inj H
  go_enter Tryd.func98, Tryd.ntmps98
  go_wp2_with (first | ((with_reducible refine gate_callee (f := 117) rfl ?_); refine gl_ 7 Tryd.func117 #[.int .i64 a0] ?_; (with_reducible refine (impl_RowWho.calls a0 t398 true _ A2.out ?side1).mono ?_); (case side1 => exact hg_); rintro e w' ⟨rfl, ⟨nd, rfl⟩⟩; refine ⟨_, rfl, ?_⟩))
  go_ret
  exact ⟨si_, by repeat (first | exact Drawn0.refl _ | apply Drawn0.step)⟩
 ·replace c3 := Bool.eq_false_iff.mpr c3
  subst c3
  have H1 : (some false) = some r := by rw [if_neg (show ¬ (false = true) by decide)] at H; exact H
  clear H
  have H := H1
  clear H1
  obtain rfl := Option.some.inj H
  go_enter Tryd.func98, Tryd.ntmps98
  go_wp2_with (first | ((with_reducible refine gate_callee (f := 117) rfl ?_); refine gl_ 7 Tryd.func117 #[.int .i64 a0] ?_; (with_reducible refine (impl_RowWho.calls a0 t398 false _ A2.out ?side1).mono ?_); (case side1 => exact hg_); rintro e w' ⟨rfl, ⟨nd, rfl⟩⟩; refine ⟨_, rfl, ?_⟩))
  go_ret
  exact ⟨si_, by repeat (first | exact Drawn0.refl _ | apply Drawn0.step)⟩

def impl_placeOk.f (a0 : Int) (a1 : Int) : Option (Bool) := (impl_isMade.f a0).bind fun t400 => (if t400 = true then (if a1 = 0 then (some true) else ((impl_isMade.f a1).bind fun t401 => (some t401))) else ((impl_isRoot.f a0).bind fun t402 => (if t402 = true then (if a1 = 0 then (some true) else ((impl_isMade.f a1).bind fun t403 => (some t403))) else (some false))))
set_option maxHeartbeats 8000000 in
set_option maxRecDepth 100000 in
theorem impl_placeOk.calls (a0 : Int) (a1 : Int) (r : Bool) (w : World) (h : impl_placeOk.f a0 a1 = some r) (hG : Glob w) :
  Calls Tryd.prog 128 #[.int .i64 a0, .int .i64 a1] w fun e w' => e = .returned (.bool r) ∧ Drawn0 w w' := by
 have HG := Aside0.mk hG
 clear hG
 unfold impl_placeOk.f at h
 have H := h
 clear h
 replace H := Option.bind_eq_some_iff.mp H
 obtain ⟨t400, A30, H⟩ := H
 try dsimp only at H
 have A3 := Aside0.mk A30
 clear A30
 by_cases c4 : t400 = true
 ·subst c4
  have H1 : (if a1 = 0 then (some true) else ((impl_isMade.f a1).bind fun t401 => (some t401))) = some r := by rw [if_pos rfl] at H; exact H
  clear H
  have H := H1
  clear H1
  by_cases c5 : a1 = 0
  ·rw [if_pos c5] at H
   have c5b0 : (a1 == 0) = true := beq_iff_eq.mpr c5
   have c5b1 : (a1 != 0) = false := bne_eq_false_iff_eq.mpr c5
   clear c5
   obtain rfl := Option.some.inj H
   go_enter Tryd.func128, Tryd.ntmps128
   go_wp2_with (first | ((with_reducible refine gate_callee (f := 127) rfl ?_); refine gl_ 6 Tryd.func127 #[.int .i64 a0] ?_; (with_reducible refine (impl_isMade.calls a0 true _ A3.out ?side1).mono ?_); (case side1 => exact hg_); rintro e w' ⟨rfl, ⟨nd, rfl⟩⟩; refine ⟨_, rfl, ?_⟩))
   go_ret
   exact ⟨si_, by repeat (first | exact Drawn0.refl _ | apply Drawn0.step)⟩
  ·rw [if_neg c5] at H
   have c5b0 : (a1 == 0) = false := beq_eq_false_iff_ne.mpr c5
   have c5b1 : (a1 != 0) = true := bne_iff_ne.mpr c5
   replace H := Option.bind_eq_some_iff.mp H
   obtain ⟨t401, A60, H⟩ := H
   try dsimp only at H
   have A6 := Aside0.mk A60
   clear A60
   obtain rfl := Option.some.inj H
   go_enter Tryd.func128, Tryd.ntmps128
   go_wp2_with (first | ((with_reducible refine gate_callee (f := 127) rfl ?_); refine gl_ 6 Tryd.func127 #[.int .i64 a0] ?_; (with_reducible refine (impl_isMade.calls a0 true _ A3.out ?side1).mono ?_); (case side1 => exact hg_); rintro e w' ⟨rfl, ⟨nd, rfl⟩⟩; refine ⟨_, rfl, ?_⟩) | (go_at_call 127; (with_reducible refine (impl_isMade.calls a1 t401 _ A6.out ?side1).mono ?_); (case side1 => exact hg_); rintro e w' ⟨rfl, ⟨nd, rfl⟩⟩))
   go_ret
   exact ⟨si_, by repeat (first | exact Drawn0.refl _ | apply Drawn0.step)⟩
 ·replace c4 := Bool.eq_false_iff.mpr c4
  subst c4
  have H1 : ((impl_isRoot.f a0).bind fun t402 => (if t402 = true then (if a1 = 0 then (some true) else ((impl_isMade.f a1).bind fun t403 => (some t403))) else (some false))) = some r := by rw [if_neg (show ¬ (false = true) by decide)] at H; exact H
  clear H
  have H := H1
  clear H1
  replace H := Option.bind_eq_some_iff.mp H
  obtain ⟨t402, A70, H⟩ := H
  try dsimp only at H
  have A7 := Aside0.mk A70
  clear A70
  by_cases c8 : t402 = true
  ·subst c8
   have H1 : (if a1 = 0 then (some true) else ((impl_isMade.f a1).bind fun t403 => (some t403))) = some r := by rw [if_pos rfl] at H; exact H
   clear H
   have H := H1
   clear H1
   by_cases c9 : a1 = 0
   ·rw [if_pos c9] at H
    have c9b0 : (a1 == 0) = true := beq_iff_eq.mpr c9
    have c9b1 : (a1 != 0) = false := bne_eq_false_iff_eq.mpr c9
    clear c9
    obtain rfl := Option.some.inj H
    go_enter Tryd.func128, Tryd.ntmps128
    go_wp2_with (first | ((with_reducible refine gate_callee (f := 127) rfl ?_); refine gl_ 6 Tryd.func127 #[.int .i64 a0] ?_; (with_reducible refine (impl_isMade.calls a0 false _ A3.out ?side1).mono ?_); (case side1 => exact hg_); rintro e w' ⟨rfl, ⟨nd, rfl⟩⟩; refine ⟨_, rfl, ?_⟩) | (go_at_call 98; (with_reducible refine (impl_isRoot.calls a0 true _ A7.out ?side1).mono ?_); (case side1 => exact hg_); rintro e w' ⟨rfl, ⟨nd, rfl⟩⟩))
    go_ret
    exact ⟨si_, by repeat (first | exact Drawn0.refl _ | apply Drawn0.step)⟩
   ·rw [if_neg c9] at H
    have c9b0 : (a1 == 0) = false := beq_eq_false_iff_ne.mpr c9
    have c9b1 : (a1 != 0) = true := bne_iff_ne.mpr c9
    replace H := Option.bind_eq_some_iff.mp H
    obtain ⟨t403, A100, H⟩ := H
    try dsimp only at H
    have A10 := Aside0.mk A100
    clear A100
    obtain rfl := Option.some.inj H
    go_enter Tryd.func128, Tryd.ntmps128
    go_wp2_with (first | ((with_reducible refine gate_callee (f := 127) rfl ?_); refine gl_ 6 Tryd.func127 #[.int .i64 a0] ?_; (with_reducible refine (impl_isMade.calls a0 false _ A3.out ?side1).mono ?_); (case side1 => exact hg_); rintro e w' ⟨rfl, ⟨nd, rfl⟩⟩; refine ⟨_, rfl, ?_⟩) | (go_at_call 98; (with_reducible refine (impl_isRoot.calls a0 true _ A7.out ?side1).mono ?_); (case side1 => exact hg_); rintro e w' ⟨rfl, ⟨nd, rfl⟩⟩) | (go_at_call 127; (with_reducible refine (impl_isMade.calls a1 t403 _ A10.out ?side1).mono ?_); (case side1 => exact hg_); rintro e w' ⟨rfl, ⟨nd, rfl⟩⟩))
    go_ret
    exact ⟨si_, by repeat (first | exact Drawn0.refl _ | apply Drawn0.step)⟩
  ·replace c8 := Bool.eq_false_iff.mpr c8
   subst c8
   have H1 : (some false) = some r := by rw [if_neg (show ¬ (false = true) by decide)] at H; exact H
   clear H
   have H := H1
   clear H1
   obtain rfl := Option.some.inj H
   go_enter Tryd.func128, Tryd.ntmps128
   go_wp2_with (first | ((with_reducible refine gate_callee (f := 127) rfl ?_); refine gl_ 6 Tryd.func127 #[.int .i64 a0] ?_; (with_reducible refine (impl_isMade.calls a0 false _ A3.out ?side1).mono ?_); (case side1 => exact hg_); rintro e w' ⟨rfl, ⟨nd, rfl⟩⟩; refine ⟨_, rfl, ?_⟩) | (go_at_call 98; (with_reducible refine (impl_isRoot.calls a0 false _ A7.out ?side1).mono ?_); (case side1 => exact hg_); rintro e w' ⟨rfl, ⟨nd, rfl⟩⟩))
   go_ret
   exact ⟨si_, by repeat (first | exact Drawn0.refl _ | apply Drawn0.step)⟩

def impl_textOk.l0 : Nat → ByteArray → Int → Option (Bool)
 | 0, _, _ => none
 | k + 1, x0, x3 => if x3 < (x0.size : Int) then (if 0 ≤ x3 then (if (bt x0 x3) < 97 then (some false) else (if (bt x0 x3) > 100 then (some false) else (impl_textOk.l0 k x0 (wrap64 (x3 + 1))))) else (none)) else (some true)
def impl_textOk.f (k : Nat) (a0 : ByteArray) : Option (Bool) := if (a0.size : Int) > 4 then (some false) else (impl_textOk.l0 k a0 0)
theorem impl_textOk.mono_l : ∀ k, (∀ y0 y1, LeO (impl_textOk.l0 k y0 y1) (impl_textOk.l0 (k + 1) y0 y1))
 | 0 => fun _ _ r h => by simp [impl_textOk.l0] at h
 | k + 1 => by
  have ih0 := impl_textOk.mono_l k
  ·intro y0 y1
   unfold impl_textOk.l0
   repeat' first
   | (with_reducible exact ih0 _ _)
   | (with_reducible exact LeO.refl _)
   | (with_reducible exact LeO.none _)
   | (with_reducible refine LeO.ite ?_ ?_)
   | (with_reducible refine LeO.bind ?_ (fun _ => ?_))
   | exact ih0 _ _
   | exact LeO.none _
   | refine LeO.ite ?_ ?_
   | refine LeO.bind ?_ (fun _ => ?_)
theorem impl_textOk.mono : ∀ a0 k, LeO (impl_textOk.f k a0) (impl_textOk.f (k + 1) a0) := by
 intro a0 k
 have ih0 := impl_textOk.mono_l k
 unfold impl_textOk.f
 repeat' first
   | (with_reducible exact ih0 _ _)
   | (with_reducible exact LeO.refl _)
   | (with_reducible exact LeO.none _)
   | (with_reducible refine LeO.ite ?_ ?_)
   | (with_reducible refine LeO.bind ?_ (fun _ => ?_))
   | exact ih0 _ _
   | exact LeO.none _
   | refine LeO.ite ?_ ?_
   | refine LeO.bind ?_ (fun _ => ?_)
set_option maxHeartbeats 8000000 in
set_option maxRecDepth 100000 in
theorem impl_textOk.calls (k : Nat) (a0 : ByteArray) (r : Bool) (w : World) (h : impl_textOk.f k a0 = some r) :
  Calls Tryd.prog 129 #[.string a0] w fun e w' => e = .returned (.bool r) ∧ Drawn0 w w' := by
 unfold impl_textOk.f at h
 have H := h
 clear h
 by_cases c2 : (a0.size : Int) > 4
 ·rw [if_pos c2] at H
  have c2b0 : decide (4 < (a0.size : Int)) = true := decide_eq_true c2
  have c2b1 : decide (4 < a0.size) = true := decide_eq_true (by omega)
  clear c2
  obtain rfl := Option.some.inj H
  go_enter Tryd.func129, Tryd.ntmps129
  go_wp2
  go_ret
  exact ⟨si_, by repeat (first | exact Drawn0.refl _ | apply Drawn0.step)⟩
 ·rw [if_neg c2] at H
  have c2b0 : decide (4 < (a0.size : Int)) = false := decide_eq_false c2
  have c2b1 : decide (4 < a0.size) = false := decide_eq_false (by omega)
  clear c2
  have H' := Aside0.mk H
  clear H
  go_enter Tryd.func129, Tryd.ntmps129
  go_wp2
  go_loopg [3] k (fun kq v3 w' => ∃ (x3_1 : Int), v3 = .int .i64 x3_1 ∧ Aside0 (impl_textOk.l0 kq a0 x3_1 = some r) ∧ Aside0 (kq ≤ k) ∧ Drawn0 w w')
  case atStart => exact ⟨(0), (si_), H', ⟨Nat.le_refl _⟩, by repeat (first | exact Drawn0.refl _ | apply Drawn0.step)⟩
  case round =>
   clear H'
   try clear c1
   try clear c2
   try clear c2b0
   try clear c2b1
   try clear p2
   obtain ⟨x3_1, rfl, HA, HK1, ⟨m1, rfl⟩⟩ := hrel
   cases gk with
   | zero => exact absurd HA.out (by simp [impl_textOk.l0])
   | succ k1 =>
    have H := HA.out
    clear HA
    simp only [impl_textOk.l0] at H
    by_cases c3 : x3_1 < (a0.size : Int)
    ·rw [if_pos c3] at H
     have c3b0 : decide (x3_1 < (a0.size : Int)) = true := decide_eq_true c3
     clear c3
     by_cases c4 : 0 ≤ x3_1
     ·rw [if_pos c4] at H
      have c4b0 : decide (0 ≤ x3_1) = true := decide_eq_true c4
      clear c4
      by_cases c6 : (bt a0 x3_1) < 97
      ·rw [if_pos c6] at H
       have c6b0 : decide ((bt a0 x3_1) < 97) = true := decide_eq_true c6
       clear c6
       obtain rfl := Option.some.inj H
       have p5 : 0 ≤ (x3_1 : Int) := od_
       have q5 : x3_1 < (a0.size : Int) := od_
       have hx5 := bt_at a0 x3_1
       replace p5 := eq_true p5
       replace q5 := eq_true q5
       go_wp2
       go_ret
       exact ⟨si_, by repeat (first | exact Drawn0.refl _ | apply Drawn0.step)⟩
      ·rw [if_neg c6] at H
       have c6b0 : decide ((bt a0 x3_1) < 97) = false := decide_eq_false c6
       clear c6
       by_cases c8 : (bt a0 x3_1) > 100
       ·rw [if_pos c8] at H
        have c8b0 : decide (100 < (bt a0 x3_1)) = true := decide_eq_true c8
        clear c8
        obtain rfl := Option.some.inj H
        have p5 : 0 ≤ (x3_1 : Int) := od_
        have q5 : x3_1 < (a0.size : Int) := od_
        have hx5 := bt_at a0 x3_1
        replace p5 := eq_true p5
        replace q5 := eq_true q5
        have p7 : 0 ≤ (x3_1 : Int) := od_
        have q7 : x3_1 < (a0.size : Int) := od_
        have hx7 := bt_at a0 x3_1
        replace p7 := eq_true p7
        replace q7 := eq_true q7
        go_wp2
        go_ret
        exact ⟨si_, by repeat (first | exact Drawn0.refl _ | apply Drawn0.step)⟩
       ·rw [if_neg c8] at H
        have c8b0 : decide (100 < (bt a0 x3_1)) = false := decide_eq_false c8
        clear c8
        have H' := Aside0.mk H
        clear H
        have p5 : 0 ≤ (x3_1 : Int) := od_
        have q5 : x3_1 < (a0.size : Int) := od_
        have hx5 := bt_at a0 x3_1
        replace p5 := eq_true p5
        replace q5 := eq_true q5
        have p7 : 0 ≤ (x3_1 : Int) := od_
        have q7 : x3_1 < (a0.size : Int) := od_
        have hx7 := bt_at a0 x3_1
        replace p7 := eq_true p7
        replace q7 := eq_true q7
        go_wp2
        go_roundg k1
        case measure => have := HK1.out; omega
        case rel => exact ⟨(wrap64 (x3_1 + 1)), (si_), H', ⟨by have := HK1.out; omega⟩, by repeat (first | exact Drawn0.refl _ | apply Drawn0.step)⟩
     ·rw [if_neg c4] at H
      exact absurd H (by simp)
    ·rw [if_neg c3] at H
     have c3b0 : decide (x3_1 < (a0.size : Int)) = false := decide_eq_false c3
     clear c3
     obtain rfl := Option.some.inj H
     go_wp2
     go_ret
     exact ⟨si_, by repeat (first | exact Drawn0.refl _ | apply Drawn0.step)⟩


end Go.Proofs.YtdpklbomhdpimaaDoor.P
namespace Go.Proofs.YtdpklbomhdpimaaDoor.P
open Go.RowKit Go.Proofs.YtdpklbomhdpimaaDoorW.PrintWords Go.Proofs.YtdpklbomhdpimaaDoorW.PrintLast Go.Proofs.YtdpklbomhdpimaaDoorW.PrintMore
theorem quiet_d {P : Program} {f : FuncId} {args : Array Value} {w : World} {d n : Nat} {v : Value} (h : Calls P f args (w.drewN (d + n)) fun e w' => e = .returned v ∧ Drawn0 (w.drewN (d + n)) w') :
  Calls P f args (w.drewN (d + n)) fun e w'' => e = .returned v ∧ ∃ m, w'' = w.drewN (d + m) :=
 h.mono fun _ _ ⟨he, ⟨m, hm⟩⟩ => ⟨he, n + m, by rw [hm, World.drewN_drewN, Nat.add_assoc]⟩
def impl_changeOf.f (k : Nat) (a0 a1 a2 a3 : Int) (a4 : ByteArray) : Option Bool :=
 (impl_isMade.f a1).bind fun m => if m = true then
  (if a0 = 1 then ((impl_placeOk.f a2 a3).bind fun p => if p = true then impl_textOk.f k a4 else some false)
  else if a0 = 2 then (if a2 = 0 then (if a3 = 0 then impl_textOk.f k a4 else some false) else some false)
  else if a0 = 3 then ((impl_placeOk.f a2 a3).bind fun p => if p = true then some (a4.toList.isEmpty) else some false)
  else some false) else some false
theorem impl_changeOf.mono (a0 a1 a2 a3 : Int) (a4 : ByteArray) (k : Nat) : LeO (impl_changeOf.f k a0 a1 a2 a3 a4) (impl_changeOf.f (k + 1) a0 a1 a2 a3 a4) := by
 unfold impl_changeOf.f
 repeat' first
   | (with_reducible exact impl_textOk.mono _ _)
   | (with_reducible exact LeO.refl _)
   | (with_reducible refine LeO.ite ?_ ?_)
   | (with_reducible refine LeO.bind ?_ (fun _ => ?_))
def ChV (a0 a1 a2 a3 : Int) (a4 : ByteArray) : Value :=
 if a0 = 1 then .iface 156 (.agg #[.int .i64 a1, .int .i64 a2, .int .i64 a3, .string a4])
 else if a0 = 2 then .iface 159 (.agg #[.int .i64 a1, .string a4])
 else .iface 161 (.agg #[.int .i64 a1, .int .i64 a2, .int .i64 a3])
def ChPost (w : World) (a0 a1 a2 a3 : Int) (a4 : ByteArray) (r : Bool) (e : Ending) (w' : World) : Prop :=
 ∃ v : Value, e = .returned (.tuple #[v, .bool r]) ∧ (r = true → v = ChV a0 a1 a2 a3 a4) ∧ Below w.heap.size w w'
theorem below_box0 (w : World) (o : Obj) : Below w.heap.size w (w.alloc o) := (Below.refl _ _).alloc (Nat.le_refl _) _
set_option maxHeartbeats 4000000 in
set_option maxRecDepth 100000 in
theorem changeOf_unmade (a0 a1 a2 a3 : Int) (a4 : ByteArray) (w : World) (hm : impl_isMade.f a1 = some false) (hG : Glob w) :
  Calls Tryd.prog 92 #[.agg #[.int .i64 a0, .int .i64 a1, .int .i64 a2, .int .i64 a3, .string a4]] w (ChPost w a0 a1 a2 a3 a4 false) := by
 have hGa : Glob (w.alloc (.cells #[.int .i64 a0, .int .i64 a1, .int .i64 a2, .int .i64 a3, .string a4] 42)) := hG.below (below_box0 w _)
 have HG := Aside0.mk hGa
 clear hGa hG
 have Hm := Aside0.mk hm
 clear hm
 go_enter Tryd.func92, Tryd.ntmps92
 go_wp2_with (go_at_call 127; refine (impl_isMade.calls a1 _ _ Hm.out HG.out).mono ?_; rintro e w' ⟨rfl, ⟨nd, rfl⟩⟩)
 go_ret2
 exact ⟨_, rfl, (fun h => by cases h), by (with_reducible repeat (first | exact below_box0 w _ | apply pw_below_drewN))⟩
set_option maxHeartbeats 4000000 in
set_option maxRecDepth 100000 in
theorem changeOf_make (k : Nat) (a0 a1 a2 a3 : Int) (a4 : ByteArray) (r : Bool) (w : World) (hm : impl_isMade.f a1 = some true) (hp : impl_placeOk.f a2 a3 = some true) (ht : impl_textOk.f k a4 = some r) (h0 : a0 = 1) (hG : Glob w) :
  Calls Tryd.prog 92 #[.agg #[.int .i64 a0, .int .i64 a1, .int .i64 a2, .int .i64 a3, .string a4]] w (ChPost w a0 a1 a2 a3 a4 r) := by
 have hGa : Glob (w.alloc (.cells #[.int .i64 a0, .int .i64 a1, .int .i64 a2, .int .i64 a3, .string a4] 42)) := hG.below (below_box0 w _)
 have HG := Aside0.mk hGa
 clear hGa hG
 subst h0
 have Hm := Aside0.mk hm
 have Hp := Aside0.mk hp
 have Ht := Aside0.mk ht
 clear hm hp ht
 go_enter Tryd.func92, Tryd.ntmps92
 go_wp2_with (go_at_call 127; refine (impl_isMade.calls a1 _ _ Hm.out HG.out).mono ?_; rintro e w' ⟨rfl, ⟨nd, rfl⟩⟩)
 go_quiet ((first | (go_at_call 128; refine quiet_d (impl_placeOk.calls a2 a3 true _ Hp.out (by (with_reducible repeat (first | exact HG.out | apply Glob.drewN | apply Glob.drew))))) | (go_at_call 129; refine quiet_d (impl_textOk.calls k a4 r _ Ht.out))))
 go_wp2
 go_ret2
 exact ⟨_, rfl, fun _ => rfl, by (with_reducible repeat (first | exact below_box0 w _ | apply pw_below_drewN))⟩
set_option maxHeartbeats 4000000 in
set_option maxRecDepth 100000 in
theorem changeOf_make_no (a0 a1 a2 a3 : Int) (a4 : ByteArray) (w : World) (hm : impl_isMade.f a1 = some true) (hp : impl_placeOk.f a2 a3 = some false) (h0 : a0 = 1) (hG : Glob w) :
  Calls Tryd.prog 92 #[.agg #[.int .i64 a0, .int .i64 a1, .int .i64 a2, .int .i64 a3, .string a4]] w (ChPost w a0 a1 a2 a3 a4 false) := by
 have hGa : Glob (w.alloc (.cells #[.int .i64 a0, .int .i64 a1, .int .i64 a2, .int .i64 a3, .string a4] 42)) := hG.below (below_box0 w _)
 have HG := Aside0.mk hGa
 clear hGa hG
 subst h0
 have Hm := Aside0.mk hm
 have Hp := Aside0.mk hp
 clear hm hp
 go_enter Tryd.func92, Tryd.ntmps92
 go_wp2_with (go_at_call 127; refine (impl_isMade.calls a1 _ _ Hm.out HG.out).mono ?_; rintro e w' ⟨rfl, ⟨nd, rfl⟩⟩)
 go_quiet ((go_at_call 128; refine quiet_d (impl_placeOk.calls a2 a3 false _ Hp.out (by (with_reducible repeat (first | exact HG.out | apply Glob.drewN | apply Glob.drew))))))
 go_wp2
 go_ret2
 exact ⟨_, rfl, (fun h => by cases h), by (with_reducible repeat (first | exact below_box0 w _ | apply pw_below_drewN))⟩
set_option maxHeartbeats 4000000 in
set_option maxRecDepth 100000 in
theorem changeOf_text (k : Nat) (a0 a1 a2 a3 : Int) (a4 : ByteArray) (r : Bool) (w : World) (hm : impl_isMade.f a1 = some true) (h2 : a2 = 0) (h3 : a3 = 0) (ht : impl_textOk.f k a4 = some r) (h0 : a0 = 2) (hG : Glob w) :
  Calls Tryd.prog 92 #[.agg #[.int .i64 a0, .int .i64 a1, .int .i64 a2, .int .i64 a3, .string a4]] w (ChPost w a0 a1 a2 a3 a4 r) := by
 have hGa : Glob (w.alloc (.cells #[.int .i64 a0, .int .i64 a1, .int .i64 a2, .int .i64 a3, .string a4] 42)) := hG.below (below_box0 w _)
 have HG := Aside0.mk hGa
 clear hGa hG
 subst h0 h2 h3
 have Hm := Aside0.mk hm
 have Ht := Aside0.mk ht
 clear hm ht
 go_enter Tryd.func92, Tryd.ntmps92
 go_wp2_with (go_at_call 127; refine (impl_isMade.calls a1 _ _ Hm.out HG.out).mono ?_; rintro e w' ⟨rfl, ⟨nd, rfl⟩⟩)
 go_quiet ((go_at_call 129; refine quiet_d (impl_textOk.calls k a4 r _ Ht.out)))
 go_wp2
 go_ret2
 exact ⟨_, rfl, fun _ => rfl, by (with_reducible repeat (first | exact below_box0 w _ | apply pw_below_drewN))⟩
set_option maxHeartbeats 4000000 in
set_option maxRecDepth 100000 in
theorem changeOf_text_no2 (a0 a1 a2 a3 : Int) (a4 : ByteArray) (w : World) (hm : impl_isMade.f a1 = some true) (h2 : a2 ≠ 0) (h0 : a0 = 2) (hG : Glob w) :
  Calls Tryd.prog 92 #[.agg #[.int .i64 a0, .int .i64 a1, .int .i64 a2, .int .i64 a3, .string a4]] w (ChPost w a0 a1 a2 a3 a4 false) := by
 have hGa : Glob (w.alloc (.cells #[.int .i64 a0, .int .i64 a1, .int .i64 a2, .int .i64 a3, .string a4] 42)) := hG.below (below_box0 w _)
 have HG := Aside0.mk hGa
 clear hGa hG
 subst h0
 have e2 : (a2 == 0) = false := beq_eq_false_iff_ne.2 h2
 clear h2
 have Hm := Aside0.mk hm
 clear hm
 go_enter Tryd.func92, Tryd.ntmps92
 go_wp2_with (go_at_call 127; refine (impl_isMade.calls a1 _ _ Hm.out HG.out).mono ?_; rintro e w' ⟨rfl, ⟨nd, rfl⟩⟩)
 go_quiet (fail)
 go_wp2
 go_ret2
 exact ⟨_, rfl, (fun h => by cases h), by (with_reducible repeat (first | exact below_box0 w _ | apply pw_below_drewN))⟩
set_option maxHeartbeats 4000000 in
set_option maxRecDepth 100000 in
theorem changeOf_text_no3 (a0 a1 a2 a3 : Int) (a4 : ByteArray) (w : World) (hm : impl_isMade.f a1 = some true) (h2 : a2 = 0) (h3 : a3 ≠ 0) (h0 : a0 = 2) (hG : Glob w) :
  Calls Tryd.prog 92 #[.agg #[.int .i64 a0, .int .i64 a1, .int .i64 a2, .int .i64 a3, .string a4]] w (ChPost w a0 a1 a2 a3 a4 false) := by
 have hGa : Glob (w.alloc (.cells #[.int .i64 a0, .int .i64 a1, .int .i64 a2, .int .i64 a3, .string a4] 42)) := hG.below (below_box0 w _)
 have HG := Aside0.mk hGa
 clear hGa hG
 subst h0 h2
 have e3 : (a3 == 0) = false := beq_eq_false_iff_ne.2 h3
 clear h3
 have Hm := Aside0.mk hm
 clear hm
 go_enter Tryd.func92, Tryd.ntmps92
 go_wp2_with (go_at_call 127; refine (impl_isMade.calls a1 _ _ Hm.out HG.out).mono ?_; rintro e w' ⟨rfl, ⟨nd, rfl⟩⟩)
 go_quiet (fail)
 go_wp2
 go_ret2
 exact ⟨_, rfl, (fun h => by cases h), by (with_reducible repeat (first | exact below_box0 w _ | apply pw_below_drewN))⟩
set_option maxHeartbeats 4000000 in
set_option maxRecDepth 100000 in
theorem changeOf_move (a0 a1 a2 a3 : Int) (a4 : ByteArray) (w : World) (hm : impl_isMade.f a1 = some true) (hp : impl_placeOk.f a2 a3 = some true) (h0 : a0 = 3) (hG : Glob w) :
  Calls Tryd.prog 92 #[.agg #[.int .i64 a0, .int .i64 a1, .int .i64 a2, .int .i64 a3, .string a4]] w (ChPost w a0 a1 a2 a3 a4 a4.toList.isEmpty) := by
 have hGa : Glob (w.alloc (.cells #[.int .i64 a0, .int .i64 a1, .int .i64 a2, .int .i64 a3, .string a4] 42)) := hG.below (below_box0 w _)
 have HG := Aside0.mk hGa
 clear hGa hG
 subst h0
 have Hm := Aside0.mk hm
 have Hp := Aside0.mk hp
 clear hm hp
 go_enter Tryd.func92, Tryd.ntmps92
 go_wp2_with (go_at_call 127; refine (impl_isMade.calls a1 _ _ Hm.out HG.out).mono ?_; rintro e w' ⟨rfl, ⟨nd, rfl⟩⟩)
 go_quiet ((go_at_call 128; refine quiet_d (impl_placeOk.calls a2 a3 true _ Hp.out (by (with_reducible repeat (first | exact HG.out | apply Glob.drewN | apply Glob.drew))))))
 go_wp2
 go_ret2
 exact ⟨_, rfl, fun _ => rfl, by (with_reducible repeat (first | exact below_box0 w _ | apply pw_below_drewN))⟩
set_option maxHeartbeats 4000000 in
set_option maxRecDepth 100000 in
theorem changeOf_move_no (a0 a1 a2 a3 : Int) (a4 : ByteArray) (w : World) (hm : impl_isMade.f a1 = some true) (hp : impl_placeOk.f a2 a3 = some false) (h0 : a0 = 3) (hG : Glob w) :
  Calls Tryd.prog 92 #[.agg #[.int .i64 a0, .int .i64 a1, .int .i64 a2, .int .i64 a3, .string a4]] w (ChPost w a0 a1 a2 a3 a4 false) := by
 have hGa : Glob (w.alloc (.cells #[.int .i64 a0, .int .i64 a1, .int .i64 a2, .int .i64 a3, .string a4] 42)) := hG.below (below_box0 w _)
 have HG := Aside0.mk hGa
 clear hGa hG
 subst h0
 have Hm := Aside0.mk hm
 have Hp := Aside0.mk hp
 clear hm hp
 go_enter Tryd.func92, Tryd.ntmps92
 go_wp2_with (go_at_call 127; refine (impl_isMade.calls a1 _ _ Hm.out HG.out).mono ?_; rintro e w' ⟨rfl, ⟨nd, rfl⟩⟩)
 go_quiet ((go_at_call 128; refine quiet_d (impl_placeOk.calls a2 a3 false _ Hp.out (by (with_reducible repeat (first | exact HG.out | apply Glob.drewN | apply Glob.drew))))))
 go_wp2
 go_ret2
 exact ⟨_, rfl, (fun h => by cases h), by (with_reducible repeat (first | exact below_box0 w _ | apply pw_below_drewN))⟩
set_option maxHeartbeats 4000000 in
set_option maxRecDepth 100000 in
theorem changeOf_kind (a0 a1 a2 a3 : Int) (a4 : ByteArray) (w : World) (hm : impl_isMade.f a1 = some true) (h1 : a0 ≠ 1) (h2 : a0 ≠ 2) (h3 : a0 ≠ 3) (hG : Glob w) :
  Calls Tryd.prog 92 #[.agg #[.int .i64 a0, .int .i64 a1, .int .i64 a2, .int .i64 a3, .string a4]] w (ChPost w a0 a1 a2 a3 a4 false) := by
 have hGa : Glob (w.alloc (.cells #[.int .i64 a0, .int .i64 a1, .int .i64 a2, .int .i64 a3, .string a4] 42)) := hG.below (below_box0 w _)
 have HG := Aside0.mk hGa
 clear hGa hG
 have e1 : (a0 == 1) = false := beq_eq_false_iff_ne.2 h1
 have e2 : (a0 == 2) = false := beq_eq_false_iff_ne.2 h2
 have e3 : (a0 == 3) = false := beq_eq_false_iff_ne.2 h3
 clear h1 h2 h3
 have Hm := Aside0.mk hm
 clear hm
 go_enter Tryd.func92, Tryd.ntmps92
 go_wp2_with (go_at_call 127; refine (impl_isMade.calls a1 _ _ Hm.out HG.out).mono ?_; rintro e w' ⟨rfl, ⟨nd, rfl⟩⟩)
 go_ret2
 exact ⟨_, rfl, (fun h => by cases h), by (with_reducible repeat (first | exact below_box0 w _ | apply pw_below_drewN))⟩
theorem impl_changeOf.calls (k : Nat) (a0 a1 a2 a3 : Int) (a4 : ByteArray) (r : Bool) (w : World) (h : impl_changeOf.f k a0 a1 a2 a3 a4 = some r) (hG : Glob w) :
  Calls Tryd.prog 92 #[.agg #[.int .i64 a0, .int .i64 a1, .int .i64 a2, .int .i64 a3, .string a4]] w (ChPost w a0 a1 a2 a3 a4 r) := by
 unfold impl_changeOf.f at h
 obtain ⟨m, hm, h⟩ := Option.bind_eq_some_iff.1 h
 cases m with
 | false =>
  simp only [Bool.false_eq_true, if_false, Option.some.injEq] at h
  subst h
  exact changeOf_unmade a0 a1 a2 a3 a4 w hm hG
 | true =>
  simp only [if_true] at h
  by_cases h1 : a0 = 1
  ·rw [if_pos h1] at h
   obtain ⟨p, hp, h⟩ := Option.bind_eq_some_iff.1 h
   cases p with
   | false =>
    simp only [Bool.false_eq_true, if_false, Option.some.injEq] at h
    subst h
    exact changeOf_make_no a0 a1 a2 a3 a4 w hm hp h1 hG
   | true =>
    simp only [if_true] at h
    exact changeOf_make k a0 a1 a2 a3 a4 r w hm hp h h1 hG
  ·rw [if_neg h1] at h
   by_cases h2 : a0 = 2
   ·rw [if_pos h2] at h
    by_cases g2 : a2 = 0
    ·rw [if_pos g2] at h
     by_cases g3 : a3 = 0
     ·rw [if_pos g3] at h
      exact changeOf_text k a0 a1 a2 a3 a4 r w hm g2 g3 h h2 hG
     ·rw [if_neg g3] at h
      simp only [Option.some.injEq] at h
      subst h
      exact changeOf_text_no3 a0 a1 a2 a3 a4 w hm g2 g3 h2 hG
    ·rw [if_neg g2] at h
     simp only [Option.some.injEq] at h
     subst h
     exact changeOf_text_no2 a0 a1 a2 a3 a4 w hm g2 h2 hG
   ·rw [if_neg h2] at h
    by_cases h3 : a0 = 3
    ·rw [if_pos h3] at h
     obtain ⟨p, hp, h⟩ := Option.bind_eq_some_iff.1 h
     cases p with
     | false =>
      simp only [Bool.false_eq_true, if_false, Option.some.injEq] at h
      subst h
      exact changeOf_move_no a0 a1 a2 a3 a4 w hm hp h3 hG
     | true =>
      simp only [if_true, Option.some.injEq] at h
      subst h
      exact changeOf_move a0 a1 a2 a3 a4 w hm hp h3 hG
    ·rw [if_neg h3] at h
     simp only [Option.some.injEq] at h
     subst h
     exact changeOf_kind a0 a1 a2 a3 a4 w hm h1 h2 h3 hG
def impl_OpOk.f (k : Nat) (a0 a1 a2 a3 : Int) (a4 : ByteArray) : Option Bool := impl_changeOf.f k a0 a1 a2 a3 a4
theorem impl_OpOk.mono (a0 a1 a2 a3 : Int) (a4 : ByteArray) (k : Nat) : LeO (impl_OpOk.f k a0 a1 a2 a3 a4) (impl_OpOk.f (k + 1) a0 a1 a2 a3 a4) := impl_changeOf.mono a0 a1 a2 a3 a4 k
set_option maxHeartbeats 4000000 in
theorem impl_OpOk.calls (k : Nat) (a0_0 a0_1 a0_2 a0_3 : Int) (a0_4 : ByteArray) (r : Bool) (w : World) (h : impl_OpOk.f k a0_0 a0_1 a0_2 a0_3 a0_4 = some r) (hG : Glob w) :
  Calls Tryd.prog 116 #[.agg #[.int .i64 a0_0, .int .i64 a0_1, .int .i64 a0_2, .int .i64 a0_3, .string a0_4]] w fun e w' => e = .returned (.bool r) ∧ Below w.heap.size w w' := by
 have hGa : Glob (w.alloc (.cells #[.int .i64 a0_0, .int .i64 a0_1, .int .i64 a0_2, .int .i64 a0_3, .string a0_4] 42)) := hG.below (below_box0 w _)
 have HG := Aside0.mk hGa
 have HH := Aside0.mk h
 clear hGa hG h
 have hu := Tryd.underlying42
 go_enter Tryd.func116, Tryd.ntmps116
 go_wp2_with (go_at_call 92; refine (impl_changeOf.calls k a0_0 a0_1 a0_2 a0_3 a0_4 r _ HH.out HG.out).mono ?_; rintro e w1 ⟨v, rfl, _, hb⟩; have HB := Aside0.mk hb; clear hb)
 go_ret
 exact ⟨rfl, (below_box0 w _).trans (HB.out.mono (by simp))⟩
end Go.Proofs.YtdpklbomhdpimaaDoor.P
namespace Go.Proofs.YtdpklbomhdpimaaDoor.P
open Go.RowKit Go.Proofs.YtdpklbomhdpimaaDoorW.PrintWords Go.Proofs.YtdpklbomhdpimaaDoorW.PrintLast
def impl_EntryOk.f (k : Nat) (a0_0 : Int) (a0_1 : Int) (a0_2 : Int) (a0_3 : Int) (a0_4 : Int) (a0_5 : Int) (a0_6 : ByteArray) : Option (Bool) := (impl_whoOk.f a0_0).bind fun t405 => (if t405 = true then (if a0_1 < 1 then (some false) else (if a0_1 > 40 then (some false) else ((impl_OpOk.f k a0_2 a0_3 a0_4 a0_5 a0_6).bind fun t406 => (if t406 = true then ((impl_RowWho.f a0_3).bind fun bt407 => (if a0_2 = 1 then (some (bt407.1 == a0_0)) else (some true))) else (some false))))) else (some false))
theorem impl_EntryOk.mono : ∀ a0 a1 a2 a3 a4 a5 a6 k, LeO (impl_EntryOk.f k a0 a1 a2 a3 a4 a5 a6) (impl_EntryOk.f (k + 1) a0 a1 a2 a3 a4 a5 a6) := by
 intro a0 a1 a2 a3 a4 a5 a6 k
 unfold impl_EntryOk.f
 repeat' first
   | (with_reducible exact impl_OpOk.mono _ _ _ _ _ _)
   | (with_reducible exact LeO.refl _)
   | (with_reducible exact LeO.none _)
   | (with_reducible refine LeO.ite ?_ ?_)
   | (with_reducible refine LeO.bind ?_ (fun _ => ?_))
   | exact impl_OpOk.mono _ _ _ _ _ _
   | exact LeO.none _
   | refine LeO.ite ?_ ?_
   | refine LeO.bind ?_ (fun _ => ?_)
set_option maxHeartbeats 8000000 in
set_option maxRecDepth 100000 in
theorem impl_EntryOk.calls (k : Nat) (a0_0 : Int) (a0_1 : Int) (a0_2 : Int) (a0_3 : Int) (a0_4 : Int) (a0_5 : Int) (a0_6 : ByteArray) (r : Bool) (w : World) (h : impl_EntryOk.f k a0_0 a0_1 a0_2 a0_3 a0_4 a0_5 a0_6 = some r) (hG : Glob w) :
  Calls Tryd.prog 78 #[.agg #[.int .i64 a0_0, .int .i64 a0_1, .int .i64 a0_2, .int .i64 a0_3, .int .i64 a0_4, .int .i64 a0_5, .string a0_6]] w fun e w' => e = .returned (.bool r) ∧ Below w.heap.size w w' := by
 have hu44 := Tryd.underlying44
 have hu42 := Tryd.underlying42
 have HB := Aside0.mk (Below.refl w.heap.size w)
 have HG := Aside0.mk hG
 clear hG
 unfold impl_EntryOk.f at h
 have H := h
 clear h
 replace H := Option.bind_eq_some_iff.mp H
 obtain ⟨t405, A20, H⟩ := H
 try dsimp only at H
 have A2 := Aside0.mk A20
 clear A20
 by_cases c3 : t405 = true
 ·subst c3
  have H1 : (if a0_1 < 1 then (some false) else (if a0_1 > 40 then (some false) else ((impl_OpOk.f k a0_2 a0_3 a0_4 a0_5 a0_6).bind fun t406 => (if t406 = true then ((impl_RowWho.f a0_3).bind fun bt407 => (if a0_2 = 1 then (some (bt407.1 == a0_0)) else (some true))) else (some false))))) = some r := by rw [if_pos rfl] at H; exact H
  clear H
  have H := H1
  clear H1
  by_cases c4 : a0_1 < 1
  ·rw [if_pos c4] at H
   have c4b0 : decide (a0_1 < 1) = true := decide_eq_true c4
   clear c4
   obtain rfl := Option.some.inj H
   go_enter Tryd.func78, Tryd.ntmps78
   go_wp2_with (first | ((with_reducible refine gate_dst (N := 1) rfl ?_); refine bx_ 1 (#[.int .i64 a0_0, .int .i64 a0_1, .int .i64 a0_2, .int .i64 a0_3, .int .i64 a0_4, .int .i64 a0_5, .string a0_6]) 44 ?_; intro gb404 hg w5 hbox hb; have n0_ := Aside0.mk (below_step (bel_) hb); have n1_ := Aside0.mk (hbox); have n2_ := Aside0.mk ((by rw [hg]; exact (below_size (bel_)) : w.heap.size ≤ gb404)); have n3_ := Aside0.mk ((by rw [hg]; exact (below_size (bel_)) : w.heap.size ≤ gb404)); clear HB; have HB := n0_; have BK404 := n1_; have GW404 := n2_; have GE404 := n3_; clear n0_ n1_ n2_ n3_; clear hb hbox hg; have hcz6_0 := cz_ BK404.out 0 (.int .i64 a0_0); have hcz6_1 := cz_ BK404.out 1 (.int .i64 a0_1); have hcz6_2 := cz_ BK404.out 2 (.int .i64 a0_2); have hcz6_3 := cz_ BK404.out 3 (.int .i64 a0_3); have hcz6_4 := cz_ BK404.out 4 (.int .i64 a0_4); have hcz6_5 := cz_ BK404.out 5 (.int .i64 a0_5); have hcz6_6 := cz_ BK404.out 6 (.string a0_6); have hfz6_0 := blk_frozen BK404.out 0; have hfz6_1 := blk_frozen BK404.out 1; have hfz6_2 := blk_frozen BK404.out 2; have hfz6_3 := blk_frozen BK404.out 3; have hfz6_4 := blk_frozen BK404.out 4; have hfz6_5 := blk_frozen BK404.out 5; have hfz6_6 := blk_frozen BK404.out 6) | ((with_reducible refine gate_callee (f := 104) rfl ?_); refine gl_ 7 Tryd.func104 #[.int .i64 a0_0] ?_; (with_reducible refine (impl_whoOk.calls a0_0 true _ A2.out).mono ?_); rintro e w' ⟨rfl, ⟨nd, rfl⟩⟩; refine ⟨_, rfl, ?_⟩))
   go_ret
   exact ⟨fi_, bel_⟩
  ·rw [if_neg c4] at H
   have c4b0 : decide (a0_1 < 1) = false := decide_eq_false c4
   clear c4
   by_cases c7 : a0_1 > 40
   ·rw [if_pos c7] at H
    have c7b0 : decide (40 < a0_1) = true := decide_eq_true c7
    clear c7
    obtain rfl := Option.some.inj H
    go_enter Tryd.func78, Tryd.ntmps78
    go_wp2_with (first | ((with_reducible refine gate_dst (N := 1) rfl ?_); refine bx_ 1 (#[.int .i64 a0_0, .int .i64 a0_1, .int .i64 a0_2, .int .i64 a0_3, .int .i64 a0_4, .int .i64 a0_5, .string a0_6]) 44 ?_; intro gb404 hg w8 hbox hb; have n0_ := Aside0.mk (below_step (bel_) hb); have n1_ := Aside0.mk (hbox); have n2_ := Aside0.mk ((by rw [hg]; exact (below_size (bel_)) : w.heap.size ≤ gb404)); have n3_ := Aside0.mk ((by rw [hg]; exact (below_size (bel_)) : w.heap.size ≤ gb404)); clear HB; have HB := n0_; have BK404 := n1_; have GW404 := n2_; have GE404 := n3_; clear n0_ n1_ n2_ n3_; clear hb hbox hg; have hcz9_0 := cz_ BK404.out 0 (.int .i64 a0_0); have hcz9_1 := cz_ BK404.out 1 (.int .i64 a0_1); have hcz9_2 := cz_ BK404.out 2 (.int .i64 a0_2); have hcz9_3 := cz_ BK404.out 3 (.int .i64 a0_3); have hcz9_4 := cz_ BK404.out 4 (.int .i64 a0_4); have hcz9_5 := cz_ BK404.out 5 (.int .i64 a0_5); have hcz9_6 := cz_ BK404.out 6 (.string a0_6); have hfz9_0 := blk_frozen BK404.out 0; have hfz9_1 := blk_frozen BK404.out 1; have hfz9_2 := blk_frozen BK404.out 2; have hfz9_3 := blk_frozen BK404.out 3; have hfz9_4 := blk_frozen BK404.out 4; have hfz9_5 := blk_frozen BK404.out 5; have hfz9_6 := blk_frozen BK404.out 6) | ((with_reducible refine gate_callee (f := 104) rfl ?_); refine gl_ 7 Tryd.func104 #[.int .i64 a0_0] ?_; (with_reducible refine (impl_whoOk.calls a0_0 true _ A2.out).mono ?_); rintro e w' ⟨rfl, ⟨nd, rfl⟩⟩; refine ⟨_, rfl, ?_⟩))
    go_ret
    exact ⟨fi_, bel_⟩
   ·rw [if_neg c7] at H
    have c7b0 : decide (40 < a0_1) = false := decide_eq_false c7
    clear c7
    replace H := Option.bind_eq_some_iff.mp H
    obtain ⟨t406, A100, H⟩ := H
    try dsimp only at H
    have A10 := Aside0.mk A100
    clear A100
    by_cases c11 : t406 = true
    ·subst c11
     have H1 : ((impl_RowWho.f a0_3).bind fun bt407 => (if a0_2 = 1 then (some (bt407.1 == a0_0)) else (some true))) = some r := by rw [if_pos rfl] at H; exact H
     clear H
     have H := H1
     clear H1
     replace H := Option.bind_eq_some_iff.mp H
     obtain ⟨⟨t407, t408⟩, A120, H⟩ := H
     try dsimp only at H
     have A12 := Aside0.mk A120
     clear A120
     by_cases c13 : a0_2 = 1
     ·rw [if_pos c13] at H
      have c13b0 : (a0_2 == 1) = true := beq_iff_eq.mpr c13
      have c13b1 : (a0_2 != 1) = false := bne_eq_false_iff_eq.mpr c13
      clear c13
      obtain rfl := Option.some.inj H
      go_enter Tryd.func78, Tryd.ntmps78
      go_wp2_with (first | ((with_reducible refine gate_dst (N := 1) rfl ?_); refine bx_ 1 (#[.int .i64 a0_0, .int .i64 a0_1, .int .i64 a0_2, .int .i64 a0_3, .int .i64 a0_4, .int .i64 a0_5, .string a0_6]) 44 ?_; intro gb404 hg w14 hbox hb; have n0_ := Aside0.mk (below_step (bel_) hb); have n1_ := Aside0.mk (hbox); have n2_ := Aside0.mk ((by rw [hg]; exact (below_size (bel_)) : w.heap.size ≤ gb404)); have n3_ := Aside0.mk ((by rw [hg]; exact (below_size (bel_)) : w.heap.size ≤ gb404)); clear HB; have HB := n0_; have BK404 := n1_; have GW404 := n2_; have GE404 := n3_; clear n0_ n1_ n2_ n3_; clear hb hbox hg; have hcz15_0 := cz_ BK404.out 0 (.int .i64 a0_0); have hcz15_1 := cz_ BK404.out 1 (.int .i64 a0_1); have hcz15_2 := cz_ BK404.out 2 (.int .i64 a0_2); have hcz15_3 := cz_ BK404.out 3 (.int .i64 a0_3); have hcz15_4 := cz_ BK404.out 4 (.int .i64 a0_4); have hcz15_5 := cz_ BK404.out 5 (.int .i64 a0_5); have hcz15_6 := cz_ BK404.out 6 (.string a0_6); have hfz15_0 := blk_frozen BK404.out 0; have hfz15_1 := blk_frozen BK404.out 1; have hfz15_2 := blk_frozen BK404.out 2; have hfz15_3 := blk_frozen BK404.out 3; have hfz15_4 := blk_frozen BK404.out 4; have hfz15_5 := blk_frozen BK404.out 5; have hfz15_6 := blk_frozen BK404.out 6) | ((with_reducible refine gate_callee (f := 104) rfl ?_); refine gl_ 7 Tryd.func104 #[.int .i64 a0_0] ?_; (with_reducible refine (impl_whoOk.calls a0_0 true _ A2.out).mono ?_); rintro e w' ⟨rfl, ⟨nd, rfl⟩⟩; refine ⟨_, rfl, ?_⟩) | (go_at_call 116; (with_reducible refine (impl_OpOk.calls k a0_2 a0_3 a0_4 a0_5 a0_6 true _ A10.out ?side1).mono ?_); (case side1 => exact Glob.below HG.out (bel_)); rintro e w16 ⟨rfl, hb⟩; replace HB := Aside0.mk (below_step (bel_) hb); replace BK404 := Aside0.mk (bb_ BK404.out hb); (try clear hb); have hcz17_0 := cz_ BK404.out 0 (.int .i64 a0_0); have hcz17_1 := cz_ BK404.out 1 (.int .i64 a0_1); have hcz17_2 := cz_ BK404.out 2 (.int .i64 a0_2); have hcz17_3 := cz_ BK404.out 3 (.int .i64 a0_3); have hcz17_4 := cz_ BK404.out 4 (.int .i64 a0_4); have hcz17_5 := cz_ BK404.out 5 (.int .i64 a0_5); have hcz17_6 := cz_ BK404.out 6 (.string a0_6); have hfz17_0 := blk_frozen BK404.out 0; have hfz17_1 := blk_frozen BK404.out 1; have hfz17_2 := blk_frozen BK404.out 2; have hfz17_3 := blk_frozen BK404.out 3; have hfz17_4 := blk_frozen BK404.out 4; have hfz17_5 := blk_frozen BK404.out 5; have hfz17_6 := blk_frozen BK404.out 6) | ((with_reducible refine gate_callee (f := 117) rfl ?_); refine gl_ 29 Tryd.func117 #[.int .i64 a0_3] ?_; (with_reducible refine (impl_RowWho.calls a0_3 t407 t408 _ A12.out ?side1).mono ?_); (case side1 => exact Glob.below HG.out (bel_)); rintro e w' ⟨rfl, ⟨nd, rfl⟩⟩; refine ⟨_, rfl, ?_⟩))
      go_ret
      exact ⟨fi_, bel_⟩
     ·rw [if_neg c13] at H
      have c13b0 : (a0_2 == 1) = false := beq_eq_false_iff_ne.mpr c13
      have c13b1 : (a0_2 != 1) = true := bne_iff_ne.mpr c13
      obtain rfl := Option.some.inj H
      go_enter Tryd.func78, Tryd.ntmps78
      go_wp2_with (first | ((with_reducible refine gate_dst (N := 1) rfl ?_); refine bx_ 1 (#[.int .i64 a0_0, .int .i64 a0_1, .int .i64 a0_2, .int .i64 a0_3, .int .i64 a0_4, .int .i64 a0_5, .string a0_6]) 44 ?_; intro gb404 hg w18 hbox hb; have n0_ := Aside0.mk (below_step (bel_) hb); have n1_ := Aside0.mk (hbox); have n2_ := Aside0.mk ((by rw [hg]; exact (below_size (bel_)) : w.heap.size ≤ gb404)); have n3_ := Aside0.mk ((by rw [hg]; exact (below_size (bel_)) : w.heap.size ≤ gb404)); clear HB; have HB := n0_; have BK404 := n1_; have GW404 := n2_; have GE404 := n3_; clear n0_ n1_ n2_ n3_; clear hb hbox hg; have hcz19_0 := cz_ BK404.out 0 (.int .i64 a0_0); have hcz19_1 := cz_ BK404.out 1 (.int .i64 a0_1); have hcz19_2 := cz_ BK404.out 2 (.int .i64 a0_2); have hcz19_3 := cz_ BK404.out 3 (.int .i64 a0_3); have hcz19_4 := cz_ BK404.out 4 (.int .i64 a0_4); have hcz19_5 := cz_ BK404.out 5 (.int .i64 a0_5); have hcz19_6 := cz_ BK404.out 6 (.string a0_6); have hfz19_0 := blk_frozen BK404.out 0; have hfz19_1 := blk_frozen BK404.out 1; have hfz19_2 := blk_frozen BK404.out 2; have hfz19_3 := blk_frozen BK404.out 3; have hfz19_4 := blk_frozen BK404.out 4; have hfz19_5 := blk_frozen BK404.out 5; have hfz19_6 := blk_frozen BK404.out 6) | ((with_reducible refine gate_callee (f := 104) rfl ?_); refine gl_ 7 Tryd.func104 #[.int .i64 a0_0] ?_; (with_reducible refine (impl_whoOk.calls a0_0 true _ A2.out).mono ?_); rintro e w' ⟨rfl, ⟨nd, rfl⟩⟩; refine ⟨_, rfl, ?_⟩) | (go_at_call 116; (with_reducible refine (impl_OpOk.calls k a0_2 a0_3 a0_4 a0_5 a0_6 true _ A10.out ?side1).mono ?_); (case side1 => exact Glob.below HG.out (bel_)); rintro e w20 ⟨rfl, hb⟩; replace HB := Aside0.mk (below_step (bel_) hb); replace BK404 := Aside0.mk (bb_ BK404.out hb); (try clear hb); have hcz21_0 := cz_ BK404.out 0 (.int .i64 a0_0); have hcz21_1 := cz_ BK404.out 1 (.int .i64 a0_1); have hcz21_2 := cz_ BK404.out 2 (.int .i64 a0_2); have hcz21_3 := cz_ BK404.out 3 (.int .i64 a0_3); have hcz21_4 := cz_ BK404.out 4 (.int .i64 a0_4); have hcz21_5 := cz_ BK404.out 5 (.int .i64 a0_5); have hcz21_6 := cz_ BK404.out 6 (.string a0_6); have hfz21_0 := blk_frozen BK404.out 0; have hfz21_1 := blk_frozen BK404.out 1; have hfz21_2 := blk_frozen BK404.out 2; have hfz21_3 := blk_frozen BK404.out 3; have hfz21_4 := blk_frozen BK404.out 4; have hfz21_5 := blk_frozen BK404.out 5; have hfz21_6 := blk_frozen BK404.out 6) | ((with_reducible refine gate_callee (f := 117) rfl ?_); refine gl_ 29 Tryd.func117 #[.int .i64 a0_3] ?_; (with_reducible refine (impl_RowWho.calls a0_3 t407 t408 _ A12.out ?side1).mono ?_); (case side1 => exact Glob.below HG.out (bel_)); rintro e w' ⟨rfl, ⟨nd, rfl⟩⟩; refine ⟨_, rfl, ?_⟩))
      go_ret
      exact ⟨fi_, bel_⟩
    ·replace c11 := Bool.eq_false_iff.mpr c11
     subst c11
     have H1 : (some false) = some r := by rw [if_neg (show ¬ (false = true) by decide)] at H; exact H
     clear H
     have H := H1
     clear H1
     obtain rfl := Option.some.inj H
     go_enter Tryd.func78, Tryd.ntmps78
     go_wp2_with (first | ((with_reducible refine gate_dst (N := 1) rfl ?_); refine bx_ 1 (#[.int .i64 a0_0, .int .i64 a0_1, .int .i64 a0_2, .int .i64 a0_3, .int .i64 a0_4, .int .i64 a0_5, .string a0_6]) 44 ?_; intro gb404 hg w22 hbox hb; have n0_ := Aside0.mk (below_step (bel_) hb); have n1_ := Aside0.mk (hbox); have n2_ := Aside0.mk ((by rw [hg]; exact (below_size (bel_)) : w.heap.size ≤ gb404)); have n3_ := Aside0.mk ((by rw [hg]; exact (below_size (bel_)) : w.heap.size ≤ gb404)); clear HB; have HB := n0_; have BK404 := n1_; have GW404 := n2_; have GE404 := n3_; clear n0_ n1_ n2_ n3_; clear hb hbox hg; have hcz23_0 := cz_ BK404.out 0 (.int .i64 a0_0); have hcz23_1 := cz_ BK404.out 1 (.int .i64 a0_1); have hcz23_2 := cz_ BK404.out 2 (.int .i64 a0_2); have hcz23_3 := cz_ BK404.out 3 (.int .i64 a0_3); have hcz23_4 := cz_ BK404.out 4 (.int .i64 a0_4); have hcz23_5 := cz_ BK404.out 5 (.int .i64 a0_5); have hcz23_6 := cz_ BK404.out 6 (.string a0_6); have hfz23_0 := blk_frozen BK404.out 0; have hfz23_1 := blk_frozen BK404.out 1; have hfz23_2 := blk_frozen BK404.out 2; have hfz23_3 := blk_frozen BK404.out 3; have hfz23_4 := blk_frozen BK404.out 4; have hfz23_5 := blk_frozen BK404.out 5; have hfz23_6 := blk_frozen BK404.out 6) | ((with_reducible refine gate_callee (f := 104) rfl ?_); refine gl_ 7 Tryd.func104 #[.int .i64 a0_0] ?_; (with_reducible refine (impl_whoOk.calls a0_0 true _ A2.out).mono ?_); rintro e w' ⟨rfl, ⟨nd, rfl⟩⟩; refine ⟨_, rfl, ?_⟩) | (go_at_call 116; (with_reducible refine (impl_OpOk.calls k a0_2 a0_3 a0_4 a0_5 a0_6 false _ A10.out ?side1).mono ?_); (case side1 => exact Glob.below HG.out (bel_)); rintro e w24 ⟨rfl, hb⟩; replace HB := Aside0.mk (below_step (bel_) hb); replace BK404 := Aside0.mk (bb_ BK404.out hb); (try clear hb)))
     go_ret
     exact ⟨fi_, bel_⟩
 ·replace c3 := Bool.eq_false_iff.mpr c3
  subst c3
  have H1 : (some false) = some r := by rw [if_neg (show ¬ (false = true) by decide)] at H; exact H
  clear H
  have H := H1
  clear H1
  obtain rfl := Option.some.inj H
  go_enter Tryd.func78, Tryd.ntmps78
  go_wp2_with (first | ((with_reducible refine gate_dst (N := 1) rfl ?_); refine bx_ 1 (#[.int .i64 a0_0, .int .i64 a0_1, .int .i64 a0_2, .int .i64 a0_3, .int .i64 a0_4, .int .i64 a0_5, .string a0_6]) 44 ?_; intro gb404 hg w25 hbox hb; have n0_ := Aside0.mk (below_step (bel_) hb); have n1_ := Aside0.mk (hbox); have n2_ := Aside0.mk ((by rw [hg]; exact (below_size (bel_)) : w.heap.size ≤ gb404)); have n3_ := Aside0.mk ((by rw [hg]; exact (below_size (bel_)) : w.heap.size ≤ gb404)); clear HB; have HB := n0_; have BK404 := n1_; have GW404 := n2_; have GE404 := n3_; clear n0_ n1_ n2_ n3_; clear hb hbox hg; have hcz26_0 := cz_ BK404.out 0 (.int .i64 a0_0); have hcz26_1 := cz_ BK404.out 1 (.int .i64 a0_1); have hcz26_2 := cz_ BK404.out 2 (.int .i64 a0_2); have hcz26_3 := cz_ BK404.out 3 (.int .i64 a0_3); have hcz26_4 := cz_ BK404.out 4 (.int .i64 a0_4); have hcz26_5 := cz_ BK404.out 5 (.int .i64 a0_5); have hcz26_6 := cz_ BK404.out 6 (.string a0_6); have hfz26_0 := blk_frozen BK404.out 0; have hfz26_1 := blk_frozen BK404.out 1; have hfz26_2 := blk_frozen BK404.out 2; have hfz26_3 := blk_frozen BK404.out 3; have hfz26_4 := blk_frozen BK404.out 4; have hfz26_5 := blk_frozen BK404.out 5; have hfz26_6 := blk_frozen BK404.out 6) | ((with_reducible refine gate_callee (f := 104) rfl ?_); refine gl_ 7 Tryd.func104 #[.int .i64 a0_0] ?_; (with_reducible refine (impl_whoOk.calls a0_0 false _ A2.out).mono ?_); rintro e w' ⟨rfl, ⟨nd, rfl⟩⟩; refine ⟨_, rfl, ?_⟩))
  go_ret
  exact ⟨fi_, bel_⟩


end Go.Proofs.YtdpklbomhdpimaaDoor.P
namespace Go.Proofs.YtdpklbomhdpimaaDoor.P
open Go.RowKit Go.Maps Go.Proofs.YtdpklbomhdpimaaDoorW.PrintWords Go.Proofs.YtdpklbomhdpimaaDoorW.PrintLast Go.Proofs.YtdpklbomhdpimaaDoorW.PrintMore
theorem wf_small (x : Int) (h : -1000000 ≤ x ∧ x ≤ 1000000) : (Lit.int .i64 x).wf = true := by
 have e : wrap64 x = x := by unfold wrap64; omega
 rw [← e]
 exact wrap64_wf _
theorem keyI : Keyed Tryd.prog 3 := int_keyed Tryd.underlying3
theorem zeroI (w : World) : (zeroValue 3).run Tryd.prog w = .ok (.int .i64 0) w := by kernel_rfl
def CntMap (w : World) (b : Nat) (c : Int → Int) (n : Nat) : Prop :=
 ∃ D : DataW Unit, w.ownsMap Tryd.prog 3 (plainElem Tryd.prog 3) b n D ∧ ∀ x, D.atKey (.int .i64 x) (.lit (.int .i64 0)) = .lit (.int .i64 (c x))
def upd (c : Int → Int) (x : Int) : Int → Int := fun y => if y = x then c x + 1 else c y
theorem CntMap.alloc {w : World} {b : Nat} {c : Int → Int} {n : Nat} (h : CntMap w b c n) (o : Obj) : CntMap (w.alloc o) b c n := by
 obtain ⟨D, h1, h2⟩ := h
 exact ⟨D, h1.alloc o, h2⟩
theorem CntMap.drew {w : World} {b : Nat} {c : Int → Int} {n : Nat} (h : CntMap w b c n) : CntMap w.drew b c n := by
 obtain ⟨D, h1, h2⟩ := h
 exact ⟨D, h1.drew, h2⟩
theorem CntMap.grown {w w' : World} {b : Nat} {c : Int → Int} {n : Nat} {row : Option Nat} (h : CntMap w b c n) (hg : w.grownBy w' row) (hne : some b ≠ row) : CntMap w' b c n := by
 obtain ⟨D, h1, h2⟩ := h
 exact ⟨D, h1.kept hg hne, h2⟩
theorem CntMap.below {w w' : World} {b : Nat} {c : Int → Int} {n : Nat} (h : CntMap w b c n) (hb : Below w.heap.size w w') : CntMap w' b c n := by
 obtain ⟨D, h1, h2⟩ := h
 refine ⟨D, ?_, h2⟩
 have hl := h1.lt
 obtain ⟨es, clock, e1, e2, e3, e4⟩ := h1
 exact ⟨es, clock, (hb.block b hl).trans e1, e2, e3, e4⟩
def AddPost (w : World) (b : Nat) (c : Int → Int) (x : Int) (n : Nat) (e : Ending) (w' : World) : Prop := e = .returned (.int .i64 (c x + 1)) ∧ CntMap w' b (upd c x) (n + 1) ∧ w.grownBy w' (some b)
set_option maxHeartbeats 1000000 in
set_option maxRecDepth 100000 in
theorem add_any (b : Nat) (c : Int → Int) (x : Int) (n : Nat) (w : World) (hx : 0 ≤ x ∧ x ≤ 4) (hc : 0 ≤ c x ∧ c x ≤ 1000) (hn : n ≤ 1000) (hM : CntMap w b c n) :
  Calls Tryd.prog 87 #[.map (some b), .int .i64 x] w (AddPost w b c x n) := by
 obtain ⟨D, hown, hat⟩ := hM
 have hkey : keyOf Tryd.prog 3 (.int .i64 x) = some (.int .i64 x) := keyOf_int_mk Tryd.underlying3 (wf_small x (by omega))
 have HAT := Aside0.mk (hat x)
 have HATS := Aside0.mk hat
 clear hat
 have hwf : (Lit.int .i64 (c x + 1)).wf = true := wf_small _ (by omega)
 have HC := Aside0.mk hc
 clear hc
 go_enter Tryd.func87, Tryd.ntmps87
 go_wp2_with (first
  | (at_lookup; refine wpList_lookup_own_int _ rfl (.tmp 5) (.tmp 6) 114 rfl 3 3 .i64 keyI Tryd.underlying114 Tryd.underlying3 (zeroI _) b n D rfl hown _ _ rfl hkey ?_; intro z hz hwz; have ez : z = c x := (by have := HAT.out.symm.trans hz; injection this with this; injection this with _ this; exact this.symm); subst ez; clear hz hwz; have hcb := HC.out)
  | (at_mapUpdate; refine wpList_mapUpdate_own _ rfl _ _ _ 114 rfl 3 3 keyI Tryd.underlying114 _ b n D rfl hown (by unfold maxLen; omega) _ _ _ rfl rfl hkey _ [] (plainElem_int Tryd.underlying3 hwf) ?_; intro w1 hown1 hgrow1; have HG1 := Aside0.mk hgrow1; clear hgrow1; have HAT1 := Aside0.mk (atKey_put_same hown.isMap (k := .int .i64 x) trivial (.lit (.int .i64 (c x + 1))) (.lit (.int .i64 0))))
  | (at_lookup; refine wpList_lookup_own_int _ rfl (.tmp 9) (.tmp 10) 114 rfl 3 3 .i64 keyI Tryd.underlying114 Tryd.underlying3 (zeroI _) b (n + 1) _ rfl hown1 _ _ rfl hkey ?_; intro z hz hwz; have ez : z = c x + 1 := (by have := HAT1.out.symm.trans hz; injection this with this; injection this with _ this; exact this.symm); subst ez; clear hz hwz))
 go_ret
 refine ⟨rfl, ⟨_, hown1, fun y => ?_⟩, HG1.out⟩
 unfold upd
 by_cases hy : y = x
 ·rw [if_pos hy, hy]
  exact HAT1.out
 ·rw [if_neg hy, atKey_put_other (by intro e; injection e with _ e; exact hy e), HATS.out]
def cntE (l : List S44) (who : Int) : Int := (l.countP fun e => e.f0 == who : Nat)
theorem cntE_snoc (l : List S44) (e : S44) : cntE (l ++ [e]) = upd (cntE l) e.f0 := by
 funext y
 unfold cntE upd
 rw [List.countP_append]
 by_cases h : y = e.f0
 ·subst h
  simp
 ·have h' : (e.f0 == y) = false := beq_eq_false_iff_ne.2 (fun q => h q.symm)
  rw [if_neg h]
  simp [h']
theorem cntE_le (l : List S44) (who : Int) : 0 ≤ cntE l who ∧ cntE l who ≤ l.length := by
 unfold cntE
 have := List.countP_le_length (p := fun e : S44 => e.f0 == who) (l := l)
 omega
def impl_LogOk.go (k : Nat) : List S44 → List S44 → Option Bool
 | _, [] => some true
 | pre, e :: rest => (impl_EntryOk.f k e.f0 e.f1 e.f2.f0 e.f2.f1 e.f2.f2 e.f2.f3 e.f2.f4).bind fun t =>
   if t = true then (if cntE pre e.f0 + 1 = e.f1 then impl_LogOk.go k (pre ++ [e]) rest else some false) else some false
def impl_LogOk.f (k : Nat) (l0 : List S44) : Option Bool := if (l0.length : Int) > 40 then some false else impl_LogOk.go k [] l0
theorem impl_LogOk.mono_go (k : Nat) : ∀ (rest pre : List S44), LeO (impl_LogOk.go k pre rest) (impl_LogOk.go (k + 1) pre rest)
 | [], _ => LeO.refl _
 | e :: rest, pre => by
  unfold impl_LogOk.go
  exact LeO.bind (impl_EntryOk.mono _ _ _ _ _ _ _ _) (fun _ => LeO.ite (LeO.ite (impl_LogOk.mono_go k rest _) (LeO.refl _)) (LeO.refl _))
theorem impl_LogOk.mono (l0 : List S44) (k : Nat) : LeO (impl_LogOk.f k l0) (impl_LogOk.f (k + 1) l0) := by
 unfold impl_LogOk.f
 exact LeO.ite (LeO.refl _) (impl_LogOk.mono_go k _ _)
theorem entry_who {k : Nat} {a0 a1 a2 a3 a4 a5 : Int} {a6 : ByteArray} (h : impl_EntryOk.f k a0 a1 a2 a3 a4 a5 a6 = some true) : 1 ≤ a0 ∧ a0 ≤ 3 := by
 unfold impl_EntryOk.f at h
 obtain ⟨t, ht, h⟩ := Option.bind_eq_some_iff.1 h
 cases t with
 | false => simp at h
 | true =>
  unfold impl_whoOk.f at ht
  by_cases h1 : a0 ≥ 1
  ·rw [if_pos h1] at ht
   exact ⟨h1, of_decide_eq_true (Option.some.inj ht)⟩
  ·rw [if_neg h1] at ht
   cases ht
def LogRel (k : Nat) (l0 : List S44) (r : Bool) (w : World) (i : Value) (wr : World) : Prop :=
 ∃ j : Int, 0 ≤ j ∧ j ≤ l0.length ∧ i = .int .i64 j ∧ impl_LogOk.go k (l0.take j.toNat) (l0.drop j.toNat) = some r ∧ CntMap wr w.heap.size (cntE (l0.take j.toNat)) j.toNat ∧ Below w.heap.size w wr
set_option maxHeartbeats 4000000 in
set_option maxRecDepth 100000 in
theorem impl_LogOk.calls (k : Nat) (A0 : Option Addr) (c0 : Nat) (l0 : List S44) (r : Bool) (w : World) (hr0 : Kd.C k44 w A0 l0.length l0) (hc0 : l0.length ≤ c0) (h : impl_LogOk.f k l0 = some r) (hG : Glob w) :
  Calls Tryd.prog 42 #[.slice A0 l0.length c0] w fun e w' => e = .returned (.bool r) ∧ Below w.heap.size w w' := by
 have HR0 := Aside0.mk hr0
 have HG := Aside0.mk hG
 clear hr0 hG
 unfold impl_LogOk.f at h
 have hmm := @run_makeMap Tryd.prog
 by_cases h40 : (l0.length : Int) > 40
 ·rw [if_pos h40] at h
  obtain rfl := Option.some.inj h
  clear h hmm
  have hd : decide (40 < l0.length) = true := decide_eq_true (by omega)
  go_enter Tryd.func42, Tryd.ntmps42
  go_wp2
  go_ret
  exact ⟨rfl, Below.refl _ _⟩
 ·rw [if_neg h40] at h
  have HH := Aside0.mk h
  clear h
  have hd : decide (40 < l0.length) = false := decide_eq_false (by omega)
  have hlen : l0.length ≤ 40 := by omega
  go_enter Tryd.func42, Tryd.ntmps42
  go_wp2
  have hM0 : CntMap (w.alloc (.map #[] 0)) w.heap.size (cntE []) 0 := ⟨.map [], World.ownsMap_made _ _ _ _, fun x => rfl⟩
  have HM0 := Aside0.mk hM0
  clear hM0
  go_loopw [12] (fun i wr => LogRel k l0 r w i wr) (fun i _ => l0.length - (intOf i).toNat)
  case atStart => exact ⟨0, Int.le_refl _, by omega, rfl, HH.out, HM0.out, below_box0 w _⟩
  case round =>
   obtain ⟨j, hj0, hj, rfl, hgo, hM, hB⟩ := hrel
   have HM := Aside0.mk hM
   have HB := Aside0.mk hB
   have HGO := Aside0.mk hgo
   clear hM hB hgo HH HM0
   by_cases hlt : j < l0.length
   ·have hd1 : decide (j < (l0.length : Int)) = true := decide_eq_true hlt
    obtain ⟨ad, e, hx0, hx1, hx2, hx3, hx4, hx5, hx6⟩ := at_T44 HR0.out j hj0 hlt
    cases e
    replace hx0 := (cb_ HB.out hx0 :)
    replace hx1 := (cb_ HB.out hx1 :)
    replace hx2 := (cb_ HB.out hx2 :)
    replace hx3 := (cb_ HB.out hx3 :)
    replace hx4 := (cb_ HB.out hx4 :)
    replace hx5 := (cb_ HB.out hx5 :)
    replace hx6 := (cb_ HB.out hx6 :)
    have hu := Tryd.underlying44
    have hxe : rd_T44 l0 j = l0[j.toNat]'(by omega) := by
     unfold rd_T44
     rw [List.getD_eq_getElem?_getD, List.getElem?_eq_getElem (by omega)]
     rfl
    have htd := List.drop_eq_getElem_cons (l := l0) (i := j.toNat) (by omega)
    have htk := List.take_succ_eq_append_getElem (l := l0) (i := j.toNat) (by omega)
    rw [← hxe] at htd htk
    have hgo := HGO.out
    rw [htd] at hgo
    clear HGO hxe
    generalize rd_T44 l0 j = x at hx0 hx1 hx2 hx3 hx4 hx5 hx6 htd htk hgo
    rw [show j.toNat + 1 = (j + 1).toNat by omega] at htd htk hgo
    unfold impl_LogOk.go at hgo
    have hjb : j ≤ 40 := by omega
    have p1 := eq_true hj0
    have q1 := eq_true hlt
    have hM1 := HM.out.alloc (.cells #[.int .i64 x.f0, .int .i64 x.f1, .int .i64 x.f2.f0, .int .i64 x.f2.f1, .int .i64 x.f2.f2, .int .i64 x.f2.f3, .string x.f2.f4] 44)
    have hcn := cntE_le (l0.take j.toNat) x.f0
    have hcl : (l0.take j.toNat).length ≤ 40 := by rw [List.length_take]; omega
    have hsn := cntE_snoc (l0.take j.toNat) x
    rw [← htk] at hsn
    rw [← htk] at hgo
    have HM1 := Aside0.mk hM1
    have HSN := Aside0.mk hsn
    have HGO := Aside0.mk hgo
    have HTD := Aside0.mk htd
    have HCN := Aside0.mk hcn
    have HCL := Aside0.mk hcl
    have HJN := Aside0.mk (show j.toNat ≤ 1000 ∧ 0 ≤ j ∧ j < l0.length from ⟨by omega, hj0, hlt⟩)
    have HB0 := HB
    have HL := Aside0.mk (show w.heap.size < wr.heap.size from by obtain ⟨D, h1, _⟩ := HM.out; exact h1.lt)
    have HB1 := Aside0.mk (below_alloc HB.out (.cells #[.int .i64 x.f0, .int .i64 x.f1, .int .i64 x.f2.f0, .int .i64 x.f2.f1, .int .i64 x.f2.f2, .int .i64 x.f2.f3, .string x.f2.f4] 44))
    clear hj0 hlt hM1 hcn hcl htd htk hsn hgo HM HB
    go_wp2
    have hwr : w.heap.size ≤ wr.heap.size ∧ w.heap.size < wr.heap.size := by
     obtain ⟨D, h1, _⟩ := HM1.out
     have h2 := HB0.out.size
     exact ⟨h2, HL.out⟩
    have HW := Aside0.mk hwr
    clear hwr
    obtain ⟨W1, hW1⟩ : ∃ W1, W1 = wr.alloc (.cells #[.int .i64 x.f0, .int .i64 x.f1, .int .i64 x.f2.f0, .int .i64 x.f2.f1, .int .i64 x.f2.f2, .int .i64 x.f2.f3, .string x.f2.f4] 44) := ⟨_, rfl⟩
    have hn0 : W1.heap[wr.heap.size]? = some (.cells #[.int .i64 x.f0, .int .i64 x.f1, .int .i64 x.f2.f0, .int .i64 x.f2.f1, .int .i64 x.f2.f2, .int .i64 x.f2.f3, .string x.f2.f4] 44 (0, 0)) := by rw [hW1]; simpa using heap_alloc_new wr _
    have HN0 := Aside0.mk hn0
    rw [← hW1] at HM1 HB1 ⊢
    clear hW1 hx0 hx1 hx2 hx3 hx4 hx5 hx6 hn0
    generalize wr.heap.size = g at HN0 HW ⊢
    have hc0 : W1.cell? ⟨g, 0, none⟩ = some (.int .i64 x.f0) := (blk_cell HN0.out 0).trans rfl
    have hc1 : W1.cell? ⟨g, 1, none⟩ = some (.int .i64 x.f1) := (blk_cell HN0.out 1).trans rfl
    have hc2 : W1.cell? ⟨g, 2, none⟩ = some (.int .i64 x.f2.f0) := (blk_cell HN0.out 2).trans rfl
    have hc3 : W1.cell? ⟨g, 3, none⟩ = some (.int .i64 x.f2.f1) := (blk_cell HN0.out 3).trans rfl
    have hc4 : W1.cell? ⟨g, 4, none⟩ = some (.int .i64 x.f2.f2) := (blk_cell HN0.out 4).trans rfl
    have hc5 : W1.cell? ⟨g, 5, none⟩ = some (.int .i64 x.f2.f3) := (blk_cell HN0.out 5).trans rfl
    have hc6 : W1.cell? ⟨g, 6, none⟩ = some (.string x.f2.f4) := (blk_cell HN0.out 6).trans rfl
    have hgo := HGO.out
    clear HGO
    obtain ⟨t, ht, hgo⟩ := Option.bind_eq_some_iff.1 hgo
    have HT := Aside0.mk ht
    clear ht
    have HBd := Aside0.mk (below_drew1 HB1.out)
    have HGd := Aside0.mk (HG.out.below HBd.out)
    have HMd := Aside0.mk HM1.out.drew
    have HNd := Aside0.mk (blk_drew HN0.out)
    have hwho := fun (e : t = true) => entry_who (k := k) (e ▸ HT.out)
    clear HB1 HM1 HN0
    cases t with
    | false =>
     simp only [Bool.false_eq_true, if_false, Option.some.injEq] at hgo
     subst hgo
     clear hwho
     refine start_ (n := 12) (S := fun w' => w'.cell? ⟨g, 0, none⟩ = some (.int .i64 x.f0) ∧ w'.cell? ⟨g, 1, none⟩ = some (.int .i64 x.f1) ∧ w'.cell? ⟨g, 2, none⟩ = some (.int .i64 x.f2.f0) ∧ w'.cell? ⟨g, 3, none⟩ = some (.int .i64 x.f2.f1) ∧ w'.cell? ⟨g, 4, none⟩ = some (.int .i64 x.f2.f2) ∧ w'.cell? ⟨g, 5, none⟩ = some (.int .i64 x.f2.f3) ∧ w'.cell? ⟨g, 6, none⟩ = some (.string x.f2.f4)) (ds := []) #[false, false, false, false, false, false, false, false, false, false, false, false] (by kernel_rfl) rfl rfl ⟨(blk_cell HNd.out 0).trans rfl, (blk_cell HNd.out 1).trans rfl, (blk_cell HNd.out 2).trans rfl, (blk_cell HNd.out 3).trans rfl, (blk_cell HNd.out 4).trans rfl, (blk_cell HNd.out 5).trans rfl, (blk_cell HNd.out 6).trans rfl⟩ (fun hHeld => ?_)
     refine take_ (i := 0) (N := some 16) (v := ?_) (a' := ?_) #[true, false, false, false, false, false, false, false, false, false, false, false] rfl rfl (by kernel_rfl) (fun _ _ _ h => h) (Or.inl ⟨by rfl, ?_⟩) hHeld ?_ ?_
     rotate_left
     ·rintro w' ⟨s0, s1, s2, s3, s4, s5, s6⟩
      go_simp
      with_reducible rfl
     rotate_left
     ·simp only [Act.put, List.setIfInBounds_toArray, List.set_cons_zero, List.set_cons_succ, i64_w, i32_w]
      rfl
     refine one_ (i := 1) (N := some 17) #[true, true, false, false, false, false, false, false, false, false, false, false] rfl rfl (by kernel_rfl) (by decide) (fun K hK => ?_)
     refine goes_ Tryd.func78 (by kernel_rfl) rfl #[.agg #[.int .i64 x.f0, .int .i64 x.f1, .int .i64 x.f2.f0, .int .i64 x.f2.f1, .int .i64 x.f2.f2, .int .i64 x.f2.f3, .string x.f2.f4]] (by rfl) rfl rfl (by (try simp only [List.map_toArray, List.map_cons, List.map_nil]); first | done | rfl) ?_
     with_reducible refine (impl_EntryOk.calls k x.f0 x.f1 x.f2.f0 x.f2.f1 x.f2.f2 x.f2.f3 x.f2.f4 false _ HT.out HGd.out).mono ?_
     rintro e w2 ⟨rfl, hb⟩
     refine ⟨_, rfl, ?_⟩
     have HB2 := Aside0.mk (below_step HBd.out hb)
     have HN2 := Aside0.mk (blk_below HNd.out hb)
     clear hb
     refine hK.out _ _ ⟨(blk_cell HN2.out 0).trans rfl, (blk_cell HN2.out 1).trans rfl, (blk_cell HN2.out 2).trans rfl, (blk_cell HN2.out 3).trans rfl, (blk_cell HN2.out 4).trans rfl, (blk_cell HN2.out 5).trans rfl, (blk_cell HN2.out 6).trans rfl⟩ (fun hHeld2 => ?_)
     clear hK K
     refine no_ 17 ?_
     refine pure_ (i := 2) (N := some 18) (v := ?_) (a' := ?_) #[true, true, true, false, false, false, false, false, false, false, false, false] rfl rfl (by kernel_rfl) (fun _ _ _ h => h) (Or.inl ⟨by rfl, ?_⟩) ?_ ?_
     rotate_left
     ·intro w'
      go_simp
      with_reducible rfl
     rotate_left
     ·simp only [Act.put, List.setIfInBounds_toArray, List.set_cons_zero, List.set_cons_succ, i64_w, i32_w]
      rfl
     refine pure_ (i := 3) (N := some 19) (v := ?_) (a' := ?_) #[true, true, true, true, false, false, false, false, false, false, false, false] rfl rfl (by kernel_rfl) (fun _ _ _ h => h) (Or.inl ⟨by rfl, ?_⟩) ?_ ?_
     rotate_left
     ·intro w'
      go_simp
      with_reducible rfl
     rotate_left
     ·simp only [Act.put, List.setIfInBounds_toArray, List.set_cons_zero, List.set_cons_succ, i64_w, i32_w]
      rfl
     refine pure_ (i := 4) (N := some 20) (v := undef) (a' := ?_) #[true, true, true, true, true, false, false, false, false, false, false, false] rfl rfl (by kernel_rfl) (fun _ _ _ h => h) (Or.inr ⟨by rfl, rfl⟩) ?_ ?_
     rotate_left
     ·simp only [Act.put, List.setIfInBounds_toArray, List.set_cons_zero, List.set_cons_succ, i64_w, i32_w]
      rfl
     refine pure_ (i := 5) (N := some 21) (v := undef) (a' := ?_) #[true, true, true, true, true, true, false, false, false, false, false, false] rfl rfl (by kernel_rfl) (fun _ _ _ h => h) (Or.inr ⟨by rfl, rfl⟩) ?_ ?_
     rotate_left
     ·simp only [Act.put, List.setIfInBounds_toArray, List.set_cons_zero, List.set_cons_succ, i64_w, i32_w]
      rfl
     refine pure_ (i := 6) (N := some 22) (v := undef) (a' := ?_) #[true, true, true, true, true, true, true, false, false, false, false, false] rfl rfl (by kernel_rfl) (fun _ _ _ h => h) (Or.inr ⟨by rfl, rfl⟩) ?_ ?_
     rotate_left
     ·simp only [Act.put, List.setIfInBounds_toArray, List.set_cons_zero, List.set_cons_succ, i64_w, i32_w]
      rfl
     refine pure_ (i := 7) (N := some 23) (v := undef) (a' := ?_) #[true, true, true, true, true, true, true, true, false, false, false, false] rfl rfl (by kernel_rfl) (fun _ _ _ h => h) (Or.inr ⟨by rfl, rfl⟩) ?_ ?_
     rotate_left
     ·simp only [Act.put, List.setIfInBounds_toArray, List.set_cons_zero, List.set_cons_succ, i64_w, i32_w]
      rfl
     refine pure_ (i := 8) (N := some 24) (v := undef) (a' := ?_) #[true, true, true, true, true, true, true, true, true, false, false, false] rfl rfl (by kernel_rfl) (fun _ _ _ h => h) (Or.inr ⟨by rfl, rfl⟩) ?_ ?_
     rotate_left
     ·simp only [Act.put, List.setIfInBounds_toArray, List.set_cons_zero, List.set_cons_succ, i64_w, i32_w]
      rfl
     refine pure_ (i := 9) (N := some 25) (v := undef) (a' := ?_) #[true, true, true, true, true, true, true, true, true, true, false, false] rfl rfl (by kernel_rfl) (fun _ _ _ h => h) (Or.inr ⟨by rfl, rfl⟩) ?_ ?_
     rotate_left
     ·simp only [Act.put, List.setIfInBounds_toArray, List.set_cons_zero, List.set_cons_succ, i64_w, i32_w]
      rfl
     refine pure_ (i := 10) (N := some 26) (v := undef) (a' := ?_) #[true, true, true, true, true, true, true, true, true, true, true, false] rfl rfl (by kernel_rfl) (fun _ _ _ h => h) (Or.inr ⟨by rfl, rfl⟩) ?_ ?_
     rotate_left
     ·simp only [Act.put, List.setIfInBounds_toArray, List.set_cons_zero, List.set_cons_succ, i64_w, i32_w]
      rfl
     refine pure_ (i := 11) (N := some 27) (v := ?_) (a' := ?_) #[true, true, true, true, true, true, true, true, true, true, true, true] rfl rfl (by kernel_rfl) (fun _ _ _ h => h) (Or.inl ⟨by rfl, ?_⟩) ?_ ?_
     rotate_left
     ·intro w'
      go_simp
      with_reducible rfl
     rotate_left
     ·simp only [Act.put, List.setIfInBounds_toArray, List.set_cons_zero, List.set_cons_succ, i64_w, i32_w]
      rfl
     refine done_ (by kernel_rfl) ?_
     go_wp2
     go_ret
     exact ⟨rfl, HB2.out⟩
    | true =>
     simp only [if_true] at hgo
     have hx13 := hwho rfl
     have HX := Aside0.mk (show 0 ≤ x.f0 ∧ x.f0 ≤ 4 from ⟨by omega, by omega⟩)
     have HC := Aside0.mk (show 0 ≤ cntE (l0.take j.toNat) x.f0 ∧ cntE (l0.take j.toNat) x.f0 ≤ 1000 from ⟨HCN.out.1, by have := HCN.out.2; have := HCL.out; omega⟩)
     clear hwho hx13
     have HGO := Aside0.mk hgo
     clear hgo
     generalize cntE (l0.take j.toNat) = c at HMd HSN HCN HGO HC
     by_cases hq : c x.f0 + 1 = x.f1
     ·have hgo := HGO.out
      rw [if_pos hq] at hgo
      clear HGO
      have HGO := Aside0.mk hgo
      clear hgo
      have b1 : (c x.f0 + 1 != x.f1) = false := bne_eq_false_iff_eq.2 hq
      clear hq
      go_region_with (first
       | (go_at_call 78; refine (impl_EntryOk.calls k _ _ _ _ _ _ _ true _ HT.out HGd.out).mono ?_; rintro e w2 ⟨rfl, hb⟩; have HB2 := Aside0.mk (below_step HBd.out hb); have HM2 := Aside0.mk (HMd.out.below hb); have HN2 := Aside0.mk (blk_below HNd.out hb); clear hb; have hd0 := (blk_cell HN2.out 0).trans rfl; have hd1 := (blk_cell HN2.out 1).trans rfl)
       | (go_at_call 87; refine (add_any _ _ _ _ _ HX.out HC.out HJN.out.1 HM2.out).mono ?_; rintro e w3 ⟨rfl, hM3, hg3⟩; have HM3 := Aside0.mk hM3; have HN3 := Aside0.mk ((hg3.block g (blk_lt HN2.out) (by intro e; cases e; have := HW.out; omega)).trans HN2.out); have HB3 := Aside0.mk (HB2.out.grown hg3 HB2.out.size (fun j hj => by cases hj; exact Nat.le_refl _)); clear hM3 hg3; have hf0 := (blk_cell HN3.out 0).trans rfl; have hf1 := (blk_cell HN3.out 1).trans rfl))
      all_goals go_wp2
      all_goals have hjj := HJN.out
      all_goals have hww : wrap64 (j + 1) = j + 1 := by unfold wrap64; omega
      all_goals refine ⟨⟨j + 1, by omega, by omega, by rw [hww], HGO.out, ?_, HB3.out⟩, ?_⟩
      all_goals first
       | (rw [hww]; show l0.length - (j + 1).toNat < l0.length - j.toNat; omega)
       | (rw [HSN.out, show (j + 1).toNat = j.toNat + 1 by omega]; exact HM3.out)
     ·have hgo := HGO.out
      rw [if_neg hq] at hgo
      obtain rfl := Option.some.inj hgo
      clear HGO hgo
      have b1 : (c x.f0 + 1 != x.f1) = true := bne_iff_ne.2 hq
      clear hq
      go_region_with (first
       | (go_at_call 78; refine (impl_EntryOk.calls k _ _ _ _ _ _ _ true _ HT.out HGd.out).mono ?_; rintro e w2 ⟨rfl, hb⟩; have HB2 := Aside0.mk (below_step HBd.out hb); have HM2 := Aside0.mk (HMd.out.below hb); have HN2 := Aside0.mk (blk_below HNd.out hb); clear hb; have hd0 := (blk_cell HN2.out 0).trans rfl; have hd1 := (blk_cell HN2.out 1).trans rfl)
       | (go_at_call 87; refine (add_any _ _ _ _ _ HX.out HC.out HJN.out.1 HM2.out).mono ?_; rintro e w3 ⟨rfl, hM3, hg3⟩; have HN3 := Aside0.mk ((hg3.block g (blk_lt HN2.out) (by intro e; cases e; have := HW.out; omega)).trans HN2.out); have HB3 := Aside0.mk (HB2.out.grown hg3 HB2.out.size (fun j hj => by cases hj; exact Nat.le_refl _)); clear hM3 hg3; have hf0 := (blk_cell HN3.out 0).trans rfl; have hf1 := (blk_cell HN3.out 1).trans rfl))
      all_goals go_wp2
      all_goals go_ret
      all_goals exact ⟨rfl, HB3.out⟩
   ·have hd1 : decide (j < (l0.length : Int)) = false := decide_eq_false hlt
    have hgo := HGO.out
    rw [List.drop_eq_nil_of_le (by omega)] at hgo
    unfold impl_LogOk.go at hgo
    obtain rfl := Option.some.inj hgo
    clear hgo HGO hlt
    go_wp2
    go_ret
    exact ⟨rfl, HB.out⟩
end Go.Proofs.YtdpklbomhdpimaaDoor.P
namespace Go.Proofs.YtdpklbomhdpimaaDoor.P
open Go.RowKit Go.Proofs.YtdpklbomhdpimaaDoorW.PrintWords Go.Proofs.YtdpklbomhdpimaaDoorW.PrintLast
def spec_l1Root.f (a0 : Int) : Option (Bool) := (spec_l6In.f a0 1 3).bind fun t411 => (some t411)
set_option maxHeartbeats 8000000 in
set_option maxRecDepth 100000 in
theorem spec_l1Root.calls (a0 : Int) (r : Bool) (w : World) (h : spec_l1Root.f a0 = some r) :
  Calls Tryd.prog 141 #[.int .i64 a0] w fun e w' => e = .returned (.bool r) ∧ Drawn0 w w' := by
 unfold spec_l1Root.f at h
 have H := h
 clear h
 replace H := Option.bind_eq_some_iff.mp H
 obtain ⟨t411, A20, H⟩ := H
 try dsimp only at H
 have A2 := Aside0.mk A20
 clear A20
 obtain rfl := Option.some.inj H
 go_enter Tryd.func141, Tryd.ntmps141
 go_wp2_with (first | ((with_reducible refine gate_callee (f := 75) rfl ?_); refine gl_ 4 Tryd.func75 #[.int .i64 a0, .int .i64 1, .int .i64 3] ?_; (with_reducible refine (spec_l6In.calls a0 1 3 t411 _ A2.out).mono ?_); rintro e w' ⟨rfl, ⟨nd, rfl⟩⟩; refine ⟨_, rfl, ?_⟩))
 go_ret
 exact ⟨si_, by repeat (first | exact Drawn0.refl _ | apply Drawn0.step)⟩

def spec_l3Id.f (a0 : Int) : Option (Bool) := (spec_l1Root.f a0).bind fun t412 => (if t412 = true then (some true) else ((spec_l1Made.f a0).bind fun t413 => (some t413)))
set_option maxHeartbeats 8000000 in
set_option maxRecDepth 100000 in
theorem spec_l3Id.calls (a0 : Int) (r : Bool) (w : World) (h : spec_l3Id.f a0 = some r) :
  Calls Tryd.prog 122 #[.int .i64 a0] w fun e w' => e = .returned (.bool r) ∧ Drawn0 w w' := by
 unfold spec_l3Id.f at h
 have H := h
 clear h
 replace H := Option.bind_eq_some_iff.mp H
 obtain ⟨t412, A20, H⟩ := H
 try dsimp only at H
 have A2 := Aside0.mk A20
 clear A20
 by_cases c3 : t412 = true
 ·subst c3
  have H1 : (some true) = some r := by rw [if_pos rfl] at H; exact H
  clear H
  have H := H1
  clear H1
  obtain rfl := Option.some.inj H
  go_enter Tryd.func122, Tryd.ntmps122
  go_wp2_with (first | ((with_reducible refine gate_callee (f := 141) rfl ?_); refine gl_ 4 Tryd.func141 #[.int .i64 a0] ?_; (with_reducible refine (spec_l1Root.calls a0 true _ A2.out).mono ?_); rintro e w' ⟨rfl, ⟨nd, rfl⟩⟩; refine ⟨_, rfl, ?_⟩))
  go_ret
  exact ⟨si_, by repeat (first | exact Drawn0.refl _ | apply Drawn0.step)⟩
 ·replace c3 := Bool.eq_false_iff.mpr c3
  subst c3
  have H1 : ((spec_l1Made.f a0).bind fun t413 => (some t413)) = some r := by rw [if_neg (show ¬ (false = true) by decide)] at H; exact H
  clear H
  have H := H1
  clear H1
  replace H := Option.bind_eq_some_iff.mp H
  obtain ⟨t413, A40, H⟩ := H
  try dsimp only at H
  have A4 := Aside0.mk A40
  clear A40
  obtain rfl := Option.some.inj H
  go_enter Tryd.func122, Tryd.ntmps122
  go_wp2_with (first | ((with_reducible refine gate_callee (f := 141) rfl ?_); refine gl_ 4 Tryd.func141 #[.int .i64 a0] ?_; (with_reducible refine (spec_l1Root.calls a0 false _ A2.out).mono ?_); rintro e w' ⟨rfl, ⟨nd, rfl⟩⟩; refine ⟨_, rfl, ?_⟩) | (go_at_call 120; (with_reducible refine (spec_l1Made.calls a0 t413 _ A4.out).mono ?_); rintro e w' ⟨rfl, ⟨nd, rfl⟩⟩))
  go_ret
  exact ⟨si_, by repeat (first | exact Drawn0.refl _ | apply Drawn0.step)⟩

def spec_OpOk.j0 : Nat → Bool → Int → Int → Int → Int → ByteArray → Option (Bool)
 | 0, _, _, _, _, _, _ => none
 | k + 1, x12, x415000, x415001, x415002, x415003, x415004 => if x12 = true then (some false) else (if x415000 = 1 then ((spec_l3Id.f x415002).bind fun t417 => (if t417 = true then (if x415003 = 0 then (some true) else ((spec_l1Made.f x415003).bind fun t418 => (some t418))) else (some false))) else (if x415000 = 2 then (if x415002 = 0 then (some (x415003 == 0)) else (some false)) else (if x415000 = 3 then ((spec_l3Id.f x415002).bind fun t419 => (if t419 = true then (if x415003 = 0 then (some (x415004.toList == ([] : List UInt8))) else ((spec_l1Made.f x415003).bind fun t420 => (if t420 = true then (some (x415004.toList == ([] : List UInt8))) else (some false)))) else (some false))) else (some false))))
def spec_OpOk.f (k : Nat) (a0_0 : Int) (a0_1 : Int) (a0_2 : Int) (a0_3 : Int) (a0_4 : ByteArray) : Option (Bool) := (spec_l1Made.f a0_1).bind fun t415 => (if t415 = true then ((spec_l1Text.f k a0_4).bind fun t416 => (spec_OpOk.j0 k (!t416) a0_0 a0_1 a0_2 a0_3 a0_4)) else (spec_OpOk.j0 k true a0_0 a0_1 a0_2 a0_3 a0_4))
theorem spec_OpOk.mono_l : ∀ k, (∀ y0 y1 y2 y3 y4 y5, LeO (spec_OpOk.j0 k y0 y1 y2 y3 y4 y5) (spec_OpOk.j0 (k + 1) y0 y1 y2 y3 y4 y5))
 | 0 => fun _ _ _ _ _ _ r h => by simp [spec_OpOk.j0] at h
 | k + 1 => by
  have ih0 := spec_OpOk.mono_l k
  ·intro y0 y1 y2 y3 y4 y5
   unfold spec_OpOk.j0
   repeat' first
   | (with_reducible exact ih0 _ _ _ _ _ _)
   | (with_reducible exact spec_l1Text.mono _ _)
   | (with_reducible exact LeO.refl _)
   | (with_reducible exact LeO.none _)
   | (with_reducible refine LeO.ite ?_ ?_)
   | (with_reducible refine LeO.bind ?_ (fun _ => ?_))
   | exact ih0 _ _ _ _ _ _
   | exact spec_l1Text.mono _ _
   | exact LeO.none _
   | refine LeO.ite ?_ ?_
   | refine LeO.bind ?_ (fun _ => ?_)
theorem spec_OpOk.mono : ∀ a0 a1 a2 a3 a4 k, LeO (spec_OpOk.f k a0 a1 a2 a3 a4) (spec_OpOk.f (k + 1) a0 a1 a2 a3 a4) := by
 intro a0 a1 a2 a3 a4 k
 have ih0 := spec_OpOk.mono_l k
 unfold spec_OpOk.f
 repeat' first
   | (with_reducible exact ih0 _ _ _ _ _ _)
   | (with_reducible exact spec_l1Text.mono _ _)
   | (with_reducible exact LeO.refl _)
   | (with_reducible exact LeO.none _)
   | (with_reducible refine LeO.ite ?_ ?_)
   | (with_reducible refine LeO.bind ?_ (fun _ => ?_))
   | exact ih0 _ _ _ _ _ _
   | exact spec_l1Text.mono _ _
   | exact LeO.none _
   | refine LeO.ite ?_ ?_
   | refine LeO.bind ?_ (fun _ => ?_)
set_option maxHeartbeats 8000000 in
set_option maxRecDepth 100000 in
theorem spec_OpOk.calls (k : Nat) (a0_0 : Int) (a0_1 : Int) (a0_2 : Int) (a0_3 : Int) (a0_4 : ByteArray) (r : Bool) (w : World) (h : spec_OpOk.f k a0_0 a0_1 a0_2 a0_3 a0_4 = some r) :
  Calls Tryd.prog 84 #[.agg #[.int .i64 a0_0, .int .i64 a0_1, .int .i64 a0_2, .int .i64 a0_3, .string a0_4]] w fun e w' => e = .returned (.bool r) ∧ Below w.heap.size w w' := by
 have hu42 := Tryd.underlying42
 have HB := Aside0.mk (Below.refl w.heap.size w)
 unfold spec_OpOk.f at h
 have H := h
 clear h
 have HC2 := Aside0.mk H
 clear H
 go_enter Tryd.func84, Tryd.ntmps84
 go_upto_region 1 with (first | ((with_reducible refine gate_dst (N := 1) rfl ?_); refine bx_ 1 (#[.int .i64 a0_0, .int .i64 a0_1, .int .i64 a0_2, .int .i64 a0_3, .string a0_4]) 42 ?_; intro gb414 hg w3 hbox hb; have n0_ := Aside0.mk (below_step (bel_) hb); have n1_ := Aside0.mk (hbox); have n2_ := Aside0.mk ((by rw [hg]; exact (below_size (bel_)) : w.heap.size ≤ gb414)); have n3_ := Aside0.mk ((by rw [hg]; exact (below_size (bel_)) : w.heap.size ≤ gb414)); clear HB; have HB := n0_; have BK414 := n1_; have GW414 := n2_; have GE414 := n3_; clear n0_ n1_ n2_ n3_; clear hb hbox hg))
 (try simp only [Act.put, List.setIfInBounds_toArray, List.set_cons_zero, List.set_cons_succ])
 go_cut [12] (fun v12 wc => ∃ (kq : Nat) (x12_1 : Bool), v12 = .bool x12_1 ∧ Aside0 (spec_OpOk.j0 kq x12_1 a0_0 a0_1 a0_2 a0_3 a0_4 = some r) ∧ Aside0 (kq ≤ k) ∧ Aside0 (wc.heap[gb414]? = some (.cells #[.int .i64 a0_0, .int .i64 a0_1, .int .i64 a0_2, .int .i64 a0_3, .string a0_4] 42 (0, 0))) ∧ Aside0 (Below w.heap.size w wc))
 case first =>
  have H := HC2.out
  clear HC2
  replace H := Option.bind_eq_some_iff.mp H
  obtain ⟨t415, A40, H⟩ := H
  try dsimp only at H
  have A4 := Aside0.mk A40
  clear A40
  by_cases c5 : t415 = true
  ·subst c5
   have H1 : ((spec_l1Text.f k a0_4).bind fun t416 => (spec_OpOk.j0 k (!t416) a0_0 a0_1 a0_2 a0_3 a0_4)) = some r := by rw [if_pos rfl] at H; exact H
   clear H
   have H := H1
   clear H1
   replace H := Option.bind_eq_some_iff.mp H
   obtain ⟨t416, A60, H⟩ := H
   try dsimp only at H
   have A6 := Aside0.mk A60
   clear A60
   have H' := Aside0.mk H
   clear H
   have hcz7_0 := cz_ BK414.out 0 (.int .i64 a0_0)
   have hcz7_1 := cz_ BK414.out 1 (.int .i64 a0_1)
   have hcz7_2 := cz_ BK414.out 2 (.int .i64 a0_2)
   have hcz7_3 := cz_ BK414.out 3 (.int .i64 a0_3)
   have hcz7_4 := cz_ BK414.out 4 (.string a0_4)
   have hfz7_0 := blk_frozen BK414.out 0
   have hfz7_1 := blk_frozen BK414.out 1
   have hfz7_2 := blk_frozen BK414.out 2
   have hfz7_3 := blk_frozen BK414.out 3
   have hfz7_4 := blk_frozen BK414.out 4
   go_wp2_with (first | ((with_reducible refine gate_callee (f := 120) rfl ?_); refine gl_ 5 Tryd.func120 #[.int .i64 a0_1] ?_; (with_reducible refine (spec_l1Made.calls a0_1 true _ A4.out).mono ?_); rintro e w' ⟨rfl, ⟨nd, rfl⟩⟩; refine ⟨_, rfl, ?_⟩) | (go_at_call 121; (with_reducible refine (spec_l1Text.calls k a0_4 t416 _ A6.out).mono ?_); rintro e w' ⟨rfl, ⟨nd, rfl⟩⟩))
   go_meet
   case rel => exact ⟨_, (!t416), (si_), H', ⟨by first | omega | exact Nat.le_refl _⟩, ⟨by (with_reducible repeat (first | refine blk_drewN ?_ _ | refine blk_drew ?_ | refine blk_alloc ?_ _)); exact BK414.out⟩, ⟨bel_⟩⟩
  ·replace c5 := Bool.eq_false_iff.mpr c5
   subst c5
   have H1 : (spec_OpOk.j0 k true a0_0 a0_1 a0_2 a0_3 a0_4) = some r := by rw [if_neg (show ¬ (false = true) by decide)] at H; exact H
   clear H
   have H := H1
   clear H1
   have H' := Aside0.mk H
   clear H
   have hcz8_0 := cz_ BK414.out 0 (.int .i64 a0_0)
   have hcz8_1 := cz_ BK414.out 1 (.int .i64 a0_1)
   have hcz8_2 := cz_ BK414.out 2 (.int .i64 a0_2)
   have hcz8_3 := cz_ BK414.out 3 (.int .i64 a0_3)
   have hcz8_4 := cz_ BK414.out 4 (.string a0_4)
   have hfz8_0 := blk_frozen BK414.out 0
   have hfz8_1 := blk_frozen BK414.out 1
   have hfz8_2 := blk_frozen BK414.out 2
   have hfz8_3 := blk_frozen BK414.out 3
   have hfz8_4 := blk_frozen BK414.out 4
   go_wp2_with (first | ((with_reducible refine gate_callee (f := 120) rfl ?_); refine gl_ 5 Tryd.func120 #[.int .i64 a0_1] ?_; (with_reducible refine (spec_l1Made.calls a0_1 false _ A4.out).mono ?_); rintro e w' ⟨rfl, ⟨nd, rfl⟩⟩; refine ⟨_, rfl, ?_⟩))
   go_meet
   case rel => exact ⟨_, (true), (si_), H', ⟨by first | omega | exact Nat.le_refl _⟩, ⟨by (with_reducible repeat (first | refine blk_drewN ?_ _ | refine blk_drew ?_ | refine blk_alloc ?_ _)); exact BK414.out⟩, ⟨bel_⟩⟩
 case rest =>
  clear HC2
  try clear c1
  try clear p2
  try clear c5
  try clear c8
  try clear hcz7_0
  try clear hcz7_1
  try clear hcz7_2
  try clear hcz7_3
  try clear hcz7_4
  try clear hcz8_0
  try clear hcz8_1
  try clear hcz8_2
  try clear hcz8_3
  try clear hcz8_4
  try clear hfz7_0
  try clear hfz7_1
  try clear hfz7_2
  try clear hfz7_3
  try clear hfz7_4
  try clear hfz8_0
  try clear hfz8_1
  try clear hfz8_2
  try clear hfz8_3
  try clear hfz8_4
  obtain ⟨kq, x12_1, rfl, HA, HJ1, BK414, HB⟩ := hcut
  cases kq with
  | zero => exact absurd HA.out (by simp [spec_OpOk.j0])
  | succ kj1 =>
   have H := HA.out
   clear HA
   simp only [spec_OpOk.j0] at H
   by_cases c9 : x12_1 = true
   ·subst c9
    have H1 : (some false) = some r := by rw [if_pos rfl] at H; exact H
    clear H
    have H := H1
    clear H1
    obtain rfl := Option.some.inj H
    go_wp2
    go_ret
    exact ⟨fi_, bel_⟩
   ·replace c9 := Bool.eq_false_iff.mpr c9
    subst c9
    have H1 : (if a0_0 = 1 then ((spec_l3Id.f a0_2).bind fun t417 => (if t417 = true then (if a0_3 = 0 then (some true) else ((spec_l1Made.f a0_3).bind fun t418 => (some t418))) else (some false))) else (if a0_0 = 2 then (if a0_2 = 0 then (some (a0_3 == 0)) else (some false)) else (if a0_0 = 3 then ((spec_l3Id.f a0_2).bind fun t419 => (if t419 = true then (if a0_3 = 0 then (some (a0_4.toList == ([] : List UInt8))) else ((spec_l1Made.f a0_3).bind fun t420 => (if t420 = true then (some (a0_4.toList == ([] : List UInt8))) else (some false)))) else (some false))) else (some false)))) = some r := by rw [if_neg (show ¬ (false = true) by decide)] at H; exact H
    clear H
    have H := H1
    clear H1
    by_cases c10 : a0_0 = 1
    ·rw [if_pos c10] at H
     have c10b0 : (a0_0 == 1) = true := beq_iff_eq.mpr c10
     have c10b1 : (a0_0 != 1) = false := bne_eq_false_iff_eq.mpr c10
     clear c10
     replace H := Option.bind_eq_some_iff.mp H
     obtain ⟨t417, A110, H⟩ := H
     try dsimp only at H
     have A11 := Aside0.mk A110
     clear A110
     by_cases c12 : t417 = true
     ·subst c12
      have H1 : (if a0_3 = 0 then (some true) else ((spec_l1Made.f a0_3).bind fun t418 => (some t418))) = some r := by rw [if_pos rfl] at H; exact H
      clear H
      have H := H1
      clear H1
      by_cases c13 : a0_3 = 0
      ·rw [if_pos c13] at H
       have c13b0 : (a0_3 == 0) = true := beq_iff_eq.mpr c13
       have c13b1 : (a0_3 != 0) = false := bne_eq_false_iff_eq.mpr c13
       clear c13
       obtain rfl := Option.some.inj H
       have hcz14_0 : wc.cell? ⟨gb414, 0, none⟩ = some (.int .i64 a0_0) := (blk_cell BK414.out 0).trans rfl
       have hcz14_1 : wc.cell? ⟨gb414, 1, none⟩ = some (.int .i64 a0_1) := (blk_cell BK414.out 1).trans rfl
       have hcz14_2 : wc.cell? ⟨gb414, 2, none⟩ = some (.int .i64 a0_2) := (blk_cell BK414.out 2).trans rfl
       have hcz14_3 : wc.cell? ⟨gb414, 3, none⟩ = some (.int .i64 a0_3) := (blk_cell BK414.out 3).trans rfl
       have hcz14_4 : wc.cell? ⟨gb414, 4, none⟩ = some (.string a0_4) := (blk_cell BK414.out 4).trans rfl
       have hfz14_0 := blk_frozen BK414.out 0
       have hfz14_1 := blk_frozen BK414.out 1
       have hfz14_2 := blk_frozen BK414.out 2
       have hfz14_3 := blk_frozen BK414.out 3
       have hfz14_4 := blk_frozen BK414.out 4
       go_wp2_with (first | ((with_reducible refine gate_callee (f := 122) rfl ?_); refine gl_ 19 Tryd.func122 #[.int .i64 a0_2] ?_; (with_reducible refine (spec_l3Id.calls a0_2 true _ A11.out).mono ?_); rintro e w' ⟨rfl, ⟨nd, rfl⟩⟩; refine ⟨_, rfl, ?_⟩))
       go_ret
       exact ⟨fi_, bel_⟩
      ·rw [if_neg c13] at H
       have c13b0 : (a0_3 == 0) = false := beq_eq_false_iff_ne.mpr c13
       have c13b1 : (a0_3 != 0) = true := bne_iff_ne.mpr c13
       replace H := Option.bind_eq_some_iff.mp H
       obtain ⟨t418, A150, H⟩ := H
       try dsimp only at H
       have A15 := Aside0.mk A150
       clear A150
       obtain rfl := Option.some.inj H
       have hcz16_0 : wc.cell? ⟨gb414, 0, none⟩ = some (.int .i64 a0_0) := (blk_cell BK414.out 0).trans rfl
       have hcz16_1 : wc.cell? ⟨gb414, 1, none⟩ = some (.int .i64 a0_1) := (blk_cell BK414.out 1).trans rfl
       have hcz16_2 : wc.cell? ⟨gb414, 2, none⟩ = some (.int .i64 a0_2) := (blk_cell BK414.out 2).trans rfl
       have hcz16_3 : wc.cell? ⟨gb414, 3, none⟩ = some (.int .i64 a0_3) := (blk_cell BK414.out 3).trans rfl
       have hcz16_4 : wc.cell? ⟨gb414, 4, none⟩ = some (.string a0_4) := (blk_cell BK414.out 4).trans rfl
       have hfz16_0 := blk_frozen BK414.out 0
       have hfz16_1 := blk_frozen BK414.out 1
       have hfz16_2 := blk_frozen BK414.out 2
       have hfz16_3 := blk_frozen BK414.out 3
       have hfz16_4 := blk_frozen BK414.out 4
       go_wp2_with (first | ((with_reducible refine gate_callee (f := 122) rfl ?_); refine gl_ 19 Tryd.func122 #[.int .i64 a0_2] ?_; (with_reducible refine (spec_l3Id.calls a0_2 true _ A11.out).mono ?_); rintro e w' ⟨rfl, ⟨nd, rfl⟩⟩; refine ⟨_, rfl, ?_⟩) | (go_at_call 120; (with_reducible refine (spec_l1Made.calls a0_3 t418 _ A15.out).mono ?_); rintro e w' ⟨rfl, ⟨nd, rfl⟩⟩))
       go_ret
       exact ⟨fi_, bel_⟩
     ·replace c12 := Bool.eq_false_iff.mpr c12
      subst c12
      have H1 : (some false) = some r := by rw [if_neg (show ¬ (false = true) by decide)] at H; exact H
      clear H
      have H := H1
      clear H1
      obtain rfl := Option.some.inj H
      have hcz17_0 : wc.cell? ⟨gb414, 0, none⟩ = some (.int .i64 a0_0) := (blk_cell BK414.out 0).trans rfl
      have hcz17_1 : wc.cell? ⟨gb414, 1, none⟩ = some (.int .i64 a0_1) := (blk_cell BK414.out 1).trans rfl
      have hcz17_2 : wc.cell? ⟨gb414, 2, none⟩ = some (.int .i64 a0_2) := (blk_cell BK414.out 2).trans rfl
      have hcz17_3 : wc.cell? ⟨gb414, 3, none⟩ = some (.int .i64 a0_3) := (blk_cell BK414.out 3).trans rfl
      have hcz17_4 : wc.cell? ⟨gb414, 4, none⟩ = some (.string a0_4) := (blk_cell BK414.out 4).trans rfl
      have hfz17_0 := blk_frozen BK414.out 0
      have hfz17_1 := blk_frozen BK414.out 1
      have hfz17_2 := blk_frozen BK414.out 2
      have hfz17_3 := blk_frozen BK414.out 3
      have hfz17_4 := blk_frozen BK414.out 4
      go_wp2_with (first | ((with_reducible refine gate_callee (f := 122) rfl ?_); refine gl_ 19 Tryd.func122 #[.int .i64 a0_2] ?_; (with_reducible refine (spec_l3Id.calls a0_2 false _ A11.out).mono ?_); rintro e w' ⟨rfl, ⟨nd, rfl⟩⟩; refine ⟨_, rfl, ?_⟩))
      go_ret
      exact ⟨fi_, bel_⟩
    ·rw [if_neg c10] at H
     have c10b0 : (a0_0 == 1) = false := beq_eq_false_iff_ne.mpr c10
     have c10b1 : (a0_0 != 1) = true := bne_iff_ne.mpr c10
     by_cases c18 : a0_0 = 2
     ·rw [if_pos c18] at H
      have c18b0 : (a0_0 == 2) = true := beq_iff_eq.mpr c18
      have c18b1 : (a0_0 != 2) = false := bne_eq_false_iff_eq.mpr c18
      clear c18
      by_cases c19 : a0_2 = 0
      ·rw [if_pos c19] at H
       have c19b0 : (a0_2 == 0) = true := beq_iff_eq.mpr c19
       have c19b1 : (a0_2 != 0) = false := bne_eq_false_iff_eq.mpr c19
       clear c19
       obtain rfl := Option.some.inj H
       have hcz20_0 : wc.cell? ⟨gb414, 0, none⟩ = some (.int .i64 a0_0) := (blk_cell BK414.out 0).trans rfl
       have hcz20_1 : wc.cell? ⟨gb414, 1, none⟩ = some (.int .i64 a0_1) := (blk_cell BK414.out 1).trans rfl
       have hcz20_2 : wc.cell? ⟨gb414, 2, none⟩ = some (.int .i64 a0_2) := (blk_cell BK414.out 2).trans rfl
       have hcz20_3 : wc.cell? ⟨gb414, 3, none⟩ = some (.int .i64 a0_3) := (blk_cell BK414.out 3).trans rfl
       have hcz20_4 : wc.cell? ⟨gb414, 4, none⟩ = some (.string a0_4) := (blk_cell BK414.out 4).trans rfl
       have hfz20_0 := blk_frozen BK414.out 0
       have hfz20_1 := blk_frozen BK414.out 1
       have hfz20_2 := blk_frozen BK414.out 2
       have hfz20_3 := blk_frozen BK414.out 3
       have hfz20_4 := blk_frozen BK414.out 4
       go_wp2
       go_ret
       exact ⟨fi_, bel_⟩
      ·rw [if_neg c19] at H
       have c19b0 : (a0_2 == 0) = false := beq_eq_false_iff_ne.mpr c19
       have c19b1 : (a0_2 != 0) = true := bne_iff_ne.mpr c19
       obtain rfl := Option.some.inj H
       have hcz21_0 : wc.cell? ⟨gb414, 0, none⟩ = some (.int .i64 a0_0) := (blk_cell BK414.out 0).trans rfl
       have hcz21_1 : wc.cell? ⟨gb414, 1, none⟩ = some (.int .i64 a0_1) := (blk_cell BK414.out 1).trans rfl
       have hcz21_2 : wc.cell? ⟨gb414, 2, none⟩ = some (.int .i64 a0_2) := (blk_cell BK414.out 2).trans rfl
       have hcz21_3 : wc.cell? ⟨gb414, 3, none⟩ = some (.int .i64 a0_3) := (blk_cell BK414.out 3).trans rfl
       have hcz21_4 : wc.cell? ⟨gb414, 4, none⟩ = some (.string a0_4) := (blk_cell BK414.out 4).trans rfl
       have hfz21_0 := blk_frozen BK414.out 0
       have hfz21_1 := blk_frozen BK414.out 1
       have hfz21_2 := blk_frozen BK414.out 2
       have hfz21_3 := blk_frozen BK414.out 3
       have hfz21_4 := blk_frozen BK414.out 4
       go_wp2
       go_ret
       exact ⟨fi_, bel_⟩
     ·rw [if_neg c18] at H
      have c18b0 : (a0_0 == 2) = false := beq_eq_false_iff_ne.mpr c18
      have c18b1 : (a0_0 != 2) = true := bne_iff_ne.mpr c18
      by_cases c22 : a0_0 = 3
      ·rw [if_pos c22] at H
       have c22b0 : (a0_0 == 3) = true := beq_iff_eq.mpr c22
       have c22b1 : (a0_0 != 3) = false := bne_eq_false_iff_eq.mpr c22
       clear c22
       replace H := Option.bind_eq_some_iff.mp H
       obtain ⟨t419, A230, H⟩ := H
       try dsimp only at H
       have A23 := Aside0.mk A230
       clear A230
       by_cases c24 : t419 = true
       ·subst c24
        have H1 : (if a0_3 = 0 then (some (a0_4.toList == ([] : List UInt8))) else ((spec_l1Made.f a0_3).bind fun t420 => (if t420 = true then (some (a0_4.toList == ([] : List UInt8))) else (some false)))) = some r := by rw [if_pos rfl] at H; exact H
        clear H
        have H := H1
        clear H1
        by_cases c25 : a0_3 = 0
        ·rw [if_pos c25] at H
         have c25b0 : (a0_3 == 0) = true := beq_iff_eq.mpr c25
         have c25b1 : (a0_3 != 0) = false := bne_eq_false_iff_eq.mpr c25
         clear c25
         obtain rfl := Option.some.inj H
         have hcz26_0 : wc.cell? ⟨gb414, 0, none⟩ = some (.int .i64 a0_0) := (blk_cell BK414.out 0).trans rfl
         have hcz26_1 : wc.cell? ⟨gb414, 1, none⟩ = some (.int .i64 a0_1) := (blk_cell BK414.out 1).trans rfl
         have hcz26_2 : wc.cell? ⟨gb414, 2, none⟩ = some (.int .i64 a0_2) := (blk_cell BK414.out 2).trans rfl
         have hcz26_3 : wc.cell? ⟨gb414, 3, none⟩ = some (.int .i64 a0_3) := (blk_cell BK414.out 3).trans rfl
         have hcz26_4 : wc.cell? ⟨gb414, 4, none⟩ = some (.string a0_4) := (blk_cell BK414.out 4).trans rfl
         have hfz26_0 := blk_frozen BK414.out 0
         have hfz26_1 := blk_frozen BK414.out 1
         have hfz26_2 := blk_frozen BK414.out 2
         have hfz26_3 := blk_frozen BK414.out 3
         have hfz26_4 := blk_frozen BK414.out 4
         go_wp2_with (first | ((with_reducible refine gate_callee (f := 122) rfl ?_); refine gl_ 44 Tryd.func122 #[.int .i64 a0_2] ?_; (with_reducible refine (spec_l3Id.calls a0_2 true _ A23.out).mono ?_); rintro e w' ⟨rfl, ⟨nd, rfl⟩⟩; refine ⟨_, rfl, ?_⟩))
         go_ret
         exact ⟨fi_, bel_⟩
        ·rw [if_neg c25] at H
         have c25b0 : (a0_3 == 0) = false := beq_eq_false_iff_ne.mpr c25
         have c25b1 : (a0_3 != 0) = true := bne_iff_ne.mpr c25
         replace H := Option.bind_eq_some_iff.mp H
         obtain ⟨t420, A270, H⟩ := H
         try dsimp only at H
         have A27 := Aside0.mk A270
         clear A270
         by_cases c28 : t420 = true
         ·subst c28
          have H1 : (some (a0_4.toList == ([] : List UInt8))) = some r := by rw [if_pos rfl] at H; exact H
          clear H
          have H := H1
          clear H1
          obtain rfl := Option.some.inj H
          have hcz29_0 : wc.cell? ⟨gb414, 0, none⟩ = some (.int .i64 a0_0) := (blk_cell BK414.out 0).trans rfl
          have hcz29_1 : wc.cell? ⟨gb414, 1, none⟩ = some (.int .i64 a0_1) := (blk_cell BK414.out 1).trans rfl
          have hcz29_2 : wc.cell? ⟨gb414, 2, none⟩ = some (.int .i64 a0_2) := (blk_cell BK414.out 2).trans rfl
          have hcz29_3 : wc.cell? ⟨gb414, 3, none⟩ = some (.int .i64 a0_3) := (blk_cell BK414.out 3).trans rfl
          have hcz29_4 : wc.cell? ⟨gb414, 4, none⟩ = some (.string a0_4) := (blk_cell BK414.out 4).trans rfl
          have hfz29_0 := blk_frozen BK414.out 0
          have hfz29_1 := blk_frozen BK414.out 1
          have hfz29_2 := blk_frozen BK414.out 2
          have hfz29_3 := blk_frozen BK414.out 3
          have hfz29_4 := blk_frozen BK414.out 4
          go_wp2_with (first | ((with_reducible refine gate_callee (f := 122) rfl ?_); refine gl_ 44 Tryd.func122 #[.int .i64 a0_2] ?_; (with_reducible refine (spec_l3Id.calls a0_2 true _ A23.out).mono ?_); rintro e w' ⟨rfl, ⟨nd, rfl⟩⟩; refine ⟨_, rfl, ?_⟩) | (go_at_call 120; (with_reducible refine (spec_l1Made.calls a0_3 true _ A27.out).mono ?_); rintro e w' ⟨rfl, ⟨nd, rfl⟩⟩))
          go_ret
          exact ⟨fi_, bel_⟩
         ·replace c28 := Bool.eq_false_iff.mpr c28
          subst c28
          have H1 : (some false) = some r := by rw [if_neg (show ¬ (false = true) by decide)] at H; exact H
          clear H
          have H := H1
          clear H1
          obtain rfl := Option.some.inj H
          have hcz30_0 : wc.cell? ⟨gb414, 0, none⟩ = some (.int .i64 a0_0) := (blk_cell BK414.out 0).trans rfl
          have hcz30_1 : wc.cell? ⟨gb414, 1, none⟩ = some (.int .i64 a0_1) := (blk_cell BK414.out 1).trans rfl
          have hcz30_2 : wc.cell? ⟨gb414, 2, none⟩ = some (.int .i64 a0_2) := (blk_cell BK414.out 2).trans rfl
          have hcz30_3 : wc.cell? ⟨gb414, 3, none⟩ = some (.int .i64 a0_3) := (blk_cell BK414.out 3).trans rfl
          have hcz30_4 : wc.cell? ⟨gb414, 4, none⟩ = some (.string a0_4) := (blk_cell BK414.out 4).trans rfl
          have hfz30_0 := blk_frozen BK414.out 0
          have hfz30_1 := blk_frozen BK414.out 1
          have hfz30_2 := blk_frozen BK414.out 2
          have hfz30_3 := blk_frozen BK414.out 3
          have hfz30_4 := blk_frozen BK414.out 4
          go_wp2_with (first | ((with_reducible refine gate_callee (f := 122) rfl ?_); refine gl_ 44 Tryd.func122 #[.int .i64 a0_2] ?_; (with_reducible refine (spec_l3Id.calls a0_2 true _ A23.out).mono ?_); rintro e w' ⟨rfl, ⟨nd, rfl⟩⟩; refine ⟨_, rfl, ?_⟩) | (go_at_call 120; (with_reducible refine (spec_l1Made.calls a0_3 false _ A27.out).mono ?_); rintro e w' ⟨rfl, ⟨nd, rfl⟩⟩))
          go_ret
          exact ⟨fi_, bel_⟩
       ·replace c24 := Bool.eq_false_iff.mpr c24
        subst c24
        have H1 : (some false) = some r := by rw [if_neg (show ¬ (false = true) by decide)] at H; exact H
        clear H
        have H := H1
        clear H1
        obtain rfl := Option.some.inj H
        have hcz31_0 : wc.cell? ⟨gb414, 0, none⟩ = some (.int .i64 a0_0) := (blk_cell BK414.out 0).trans rfl
        have hcz31_1 : wc.cell? ⟨gb414, 1, none⟩ = some (.int .i64 a0_1) := (blk_cell BK414.out 1).trans rfl
        have hcz31_2 : wc.cell? ⟨gb414, 2, none⟩ = some (.int .i64 a0_2) := (blk_cell BK414.out 2).trans rfl
        have hcz31_3 : wc.cell? ⟨gb414, 3, none⟩ = some (.int .i64 a0_3) := (blk_cell BK414.out 3).trans rfl
        have hcz31_4 : wc.cell? ⟨gb414, 4, none⟩ = some (.string a0_4) := (blk_cell BK414.out 4).trans rfl
        have hfz31_0 := blk_frozen BK414.out 0
        have hfz31_1 := blk_frozen BK414.out 1
        have hfz31_2 := blk_frozen BK414.out 2
        have hfz31_3 := blk_frozen BK414.out 3
        have hfz31_4 := blk_frozen BK414.out 4
        go_wp2_with (first | ((with_reducible refine gate_callee (f := 122) rfl ?_); refine gl_ 44 Tryd.func122 #[.int .i64 a0_2] ?_; (with_reducible refine (spec_l3Id.calls a0_2 false _ A23.out).mono ?_); rintro e w' ⟨rfl, ⟨nd, rfl⟩⟩; refine ⟨_, rfl, ?_⟩))
        go_ret
        exact ⟨fi_, bel_⟩
      ·rw [if_neg c22] at H
       have c22b0 : (a0_0 == 3) = false := beq_eq_false_iff_ne.mpr c22
       have c22b1 : (a0_0 != 3) = true := bne_iff_ne.mpr c22
       obtain rfl := Option.some.inj H
       have hcz32_0 : wc.cell? ⟨gb414, 0, none⟩ = some (.int .i64 a0_0) := (blk_cell BK414.out 0).trans rfl
       have hcz32_1 : wc.cell? ⟨gb414, 1, none⟩ = some (.int .i64 a0_1) := (blk_cell BK414.out 1).trans rfl
       have hcz32_2 : wc.cell? ⟨gb414, 2, none⟩ = some (.int .i64 a0_2) := (blk_cell BK414.out 2).trans rfl
       have hcz32_3 : wc.cell? ⟨gb414, 3, none⟩ = some (.int .i64 a0_3) := (blk_cell BK414.out 3).trans rfl
       have hcz32_4 : wc.cell? ⟨gb414, 4, none⟩ = some (.string a0_4) := (blk_cell BK414.out 4).trans rfl
       have hfz32_0 := blk_frozen BK414.out 0
       have hfz32_1 := blk_frozen BK414.out 1
       have hfz32_2 := blk_frozen BK414.out 2
       have hfz32_3 := blk_frozen BK414.out 3
       have hfz32_4 := blk_frozen BK414.out 4
       go_wp2
       go_ret
       exact ⟨fi_, bel_⟩

def spec_EntryOk.f (k : Nat) (a0_0 : Int) (a0_1 : Int) (a0_2 : Int) (a0_3 : Int) (a0_4 : Int) (a0_5 : Int) (a0_6 : ByteArray) : Option (Bool) := (spec_l6In.f a0_0 1 3).bind fun t422 => (if t422 = true then ((spec_l6In.f a0_1 1 40).bind fun t423 => (if t423 = true then ((spec_OpOk.f k a0_2 a0_3 a0_4 a0_5 a0_6).bind fun t424 => (if t424 = true then (if a0_2 = 1 then (some ((wrap64 (Int.tdiv a0_3 10)) == a0_0)) else (some true)) else (some false))) else (some false))) else (some false))
theorem spec_EntryOk.mono : ∀ a0 a1 a2 a3 a4 a5 a6 k, LeO (spec_EntryOk.f k a0 a1 a2 a3 a4 a5 a6) (spec_EntryOk.f (k + 1) a0 a1 a2 a3 a4 a5 a6) := by
 intro a0 a1 a2 a3 a4 a5 a6 k
 unfold spec_EntryOk.f
 repeat' first
   | (with_reducible exact spec_OpOk.mono _ _ _ _ _ _)
   | (with_reducible exact LeO.refl _)
   | (with_reducible exact LeO.none _)
   | (with_reducible refine LeO.ite ?_ ?_)
   | (with_reducible refine LeO.bind ?_ (fun _ => ?_))
   | exact spec_OpOk.mono _ _ _ _ _ _
   | exact LeO.none _
   | refine LeO.ite ?_ ?_
   | refine LeO.bind ?_ (fun _ => ?_)
set_option maxHeartbeats 8000000 in
set_option maxRecDepth 100000 in
theorem spec_EntryOk.calls (k : Nat) (a0_0 : Int) (a0_1 : Int) (a0_2 : Int) (a0_3 : Int) (a0_4 : Int) (a0_5 : Int) (a0_6 : ByteArray) (r : Bool) (w : World) (h : spec_EntryOk.f k a0_0 a0_1 a0_2 a0_3 a0_4 a0_5 a0_6 = some r) :
  Calls Tryd.prog 30 #[.agg #[.int .i64 a0_0, .int .i64 a0_1, .int .i64 a0_2, .int .i64 a0_3, .int .i64 a0_4, .int .i64 a0_5, .string a0_6]] w fun e w' => e = .returned (.bool r) ∧ Below w.heap.size w w' := by
 have hu44 := Tryd.underlying44
 have hu42 := Tryd.underlying42
 have HB := Aside0.mk (Below.refl w.heap.size w)
 unfold spec_EntryOk.f at h
 have H := h
 clear h
 replace H := Option.bind_eq_some_iff.mp H
 obtain ⟨t422, A20, H⟩ := H
 try dsimp only at H
 have A2 := Aside0.mk A20
 clear A20
 by_cases c3 : t422 = true
 ·subst c3
  have H1 : ((spec_l6In.f a0_1 1 40).bind fun t423 => (if t423 = true then ((spec_OpOk.f k a0_2 a0_3 a0_4 a0_5 a0_6).bind fun t424 => (if t424 = true then (if a0_2 = 1 then (some ((wrap64 (Int.tdiv a0_3 10)) == a0_0)) else (some true)) else (some false))) else (some false))) = some r := by rw [if_pos rfl] at H; exact H
  clear H
  have H := H1
  clear H1
  replace H := Option.bind_eq_some_iff.mp H
  obtain ⟨t423, A40, H⟩ := H
  try dsimp only at H
  have A4 := Aside0.mk A40
  clear A40
  by_cases c5 : t423 = true
  ·subst c5
   have H1 : ((spec_OpOk.f k a0_2 a0_3 a0_4 a0_5 a0_6).bind fun t424 => (if t424 = true then (if a0_2 = 1 then (some ((wrap64 (Int.tdiv a0_3 10)) == a0_0)) else (some true)) else (some false))) = some r := by rw [if_pos rfl] at H; exact H
   clear H
   have H := H1
   clear H1
   replace H := Option.bind_eq_some_iff.mp H
   obtain ⟨t424, A60, H⟩ := H
   try dsimp only at H
   have A6 := Aside0.mk A60
   clear A60
   by_cases c7 : t424 = true
   ·subst c7
    have H1 : (if a0_2 = 1 then (some ((wrap64 (Int.tdiv a0_3 10)) == a0_0)) else (some true)) = some r := by rw [if_pos rfl] at H; exact H
    clear H
    have H := H1
    clear H1
    by_cases c8 : a0_2 = 1
    ·rw [if_pos c8] at H
     have c8b0 : (a0_2 == 1) = true := beq_iff_eq.mpr c8
     have c8b1 : (a0_2 != 1) = false := bne_eq_false_iff_eq.mpr c8
     clear c8
     obtain rfl := Option.some.inj H
     go_enter Tryd.func30, Tryd.ntmps30
     go_wp2_with (first | ((with_reducible refine gate_dst (N := 1) rfl ?_); refine bx_ 1 (#[.int .i64 a0_0, .int .i64 a0_1, .int .i64 a0_2, .int .i64 a0_3, .int .i64 a0_4, .int .i64 a0_5, .string a0_6]) 44 ?_; intro gb421 hg w9 hbox hb; have n0_ := Aside0.mk (below_step (bel_) hb); have n1_ := Aside0.mk (hbox); have n2_ := Aside0.mk ((by rw [hg]; exact (below_size (bel_)) : w.heap.size ≤ gb421)); have n3_ := Aside0.mk ((by rw [hg]; exact (below_size (bel_)) : w.heap.size ≤ gb421)); clear HB; have HB := n0_; have BK421 := n1_; have GW421 := n2_; have GE421 := n3_; clear n0_ n1_ n2_ n3_; clear hb hbox hg; have hcz10_0 := cz_ BK421.out 0 (.int .i64 a0_0); have hcz10_1 := cz_ BK421.out 1 (.int .i64 a0_1); have hcz10_2 := cz_ BK421.out 2 (.int .i64 a0_2); have hcz10_3 := cz_ BK421.out 3 (.int .i64 a0_3); have hcz10_4 := cz_ BK421.out 4 (.int .i64 a0_4); have hcz10_5 := cz_ BK421.out 5 (.int .i64 a0_5); have hcz10_6 := cz_ BK421.out 6 (.string a0_6); have hfz10_0 := blk_frozen BK421.out 0; have hfz10_1 := blk_frozen BK421.out 1; have hfz10_2 := blk_frozen BK421.out 2; have hfz10_3 := blk_frozen BK421.out 3; have hfz10_4 := blk_frozen BK421.out 4; have hfz10_5 := blk_frozen BK421.out 5; have hfz10_6 := blk_frozen BK421.out 6) | ((with_reducible refine gate_callee (f := 75) rfl ?_); refine gl_ 5 Tryd.func75 #[.int .i64 a0_0, .int .i64 1, .int .i64 3] ?_; (with_reducible refine (spec_l6In.calls a0_0 1 3 true _ A2.out).mono ?_); rintro e w' ⟨rfl, ⟨nd, rfl⟩⟩; refine ⟨_, rfl, ?_⟩) | (go_at_call 75; (with_reducible refine (spec_l6In.calls a0_1 1 40 true _ A4.out).mono ?_); rintro e w' ⟨rfl, ⟨nd, rfl⟩⟩) | (go_at_call 84; (with_reducible refine (spec_OpOk.calls k a0_2 a0_3 a0_4 a0_5 a0_6 true _ A6.out).mono ?_); rintro e w11 ⟨rfl, hb⟩; replace HB := Aside0.mk (below_step (bel_) hb); replace BK421 := Aside0.mk (bb_ BK421.out hb); (try clear hb); have hcz12_0 := cz_ BK421.out 0 (.int .i64 a0_0); have hcz12_1 := cz_ BK421.out 1 (.int .i64 a0_1); have hcz12_2 := cz_ BK421.out 2 (.int .i64 a0_2); have hcz12_3 := cz_ BK421.out 3 (.int .i64 a0_3); have hcz12_4 := cz_ BK421.out 4 (.int .i64 a0_4); have hcz12_5 := cz_ BK421.out 5 (.int .i64 a0_5); have hcz12_6 := cz_ BK421.out 6 (.string a0_6); have hfz12_0 := blk_frozen BK421.out 0; have hfz12_1 := blk_frozen BK421.out 1; have hfz12_2 := blk_frozen BK421.out 2; have hfz12_3 := blk_frozen BK421.out 3; have hfz12_4 := blk_frozen BK421.out 4; have hfz12_5 := blk_frozen BK421.out 5; have hfz12_6 := blk_frozen BK421.out 6))
     go_ret
     exact ⟨fi_, bel_⟩
    ·rw [if_neg c8] at H
     have c8b0 : (a0_2 == 1) = false := beq_eq_false_iff_ne.mpr c8
     have c8b1 : (a0_2 != 1) = true := bne_iff_ne.mpr c8
     obtain rfl := Option.some.inj H
     go_enter Tryd.func30, Tryd.ntmps30
     go_wp2_with (first | ((with_reducible refine gate_dst (N := 1) rfl ?_); refine bx_ 1 (#[.int .i64 a0_0, .int .i64 a0_1, .int .i64 a0_2, .int .i64 a0_3, .int .i64 a0_4, .int .i64 a0_5, .string a0_6]) 44 ?_; intro gb421 hg w13 hbox hb; have n0_ := Aside0.mk (below_step (bel_) hb); have n1_ := Aside0.mk (hbox); have n2_ := Aside0.mk ((by rw [hg]; exact (below_size (bel_)) : w.heap.size ≤ gb421)); have n3_ := Aside0.mk ((by rw [hg]; exact (below_size (bel_)) : w.heap.size ≤ gb421)); clear HB; have HB := n0_; have BK421 := n1_; have GW421 := n2_; have GE421 := n3_; clear n0_ n1_ n2_ n3_; clear hb hbox hg; have hcz14_0 := cz_ BK421.out 0 (.int .i64 a0_0); have hcz14_1 := cz_ BK421.out 1 (.int .i64 a0_1); have hcz14_2 := cz_ BK421.out 2 (.int .i64 a0_2); have hcz14_3 := cz_ BK421.out 3 (.int .i64 a0_3); have hcz14_4 := cz_ BK421.out 4 (.int .i64 a0_4); have hcz14_5 := cz_ BK421.out 5 (.int .i64 a0_5); have hcz14_6 := cz_ BK421.out 6 (.string a0_6); have hfz14_0 := blk_frozen BK421.out 0; have hfz14_1 := blk_frozen BK421.out 1; have hfz14_2 := blk_frozen BK421.out 2; have hfz14_3 := blk_frozen BK421.out 3; have hfz14_4 := blk_frozen BK421.out 4; have hfz14_5 := blk_frozen BK421.out 5; have hfz14_6 := blk_frozen BK421.out 6) | ((with_reducible refine gate_callee (f := 75) rfl ?_); refine gl_ 5 Tryd.func75 #[.int .i64 a0_0, .int .i64 1, .int .i64 3] ?_; (with_reducible refine (spec_l6In.calls a0_0 1 3 true _ A2.out).mono ?_); rintro e w' ⟨rfl, ⟨nd, rfl⟩⟩; refine ⟨_, rfl, ?_⟩) | (go_at_call 75; (with_reducible refine (spec_l6In.calls a0_1 1 40 true _ A4.out).mono ?_); rintro e w' ⟨rfl, ⟨nd, rfl⟩⟩) | (go_at_call 84; (with_reducible refine (spec_OpOk.calls k a0_2 a0_3 a0_4 a0_5 a0_6 true _ A6.out).mono ?_); rintro e w15 ⟨rfl, hb⟩; replace HB := Aside0.mk (below_step (bel_) hb); replace BK421 := Aside0.mk (bb_ BK421.out hb); (try clear hb); have hcz16_0 := cz_ BK421.out 0 (.int .i64 a0_0); have hcz16_1 := cz_ BK421.out 1 (.int .i64 a0_1); have hcz16_2 := cz_ BK421.out 2 (.int .i64 a0_2); have hcz16_3 := cz_ BK421.out 3 (.int .i64 a0_3); have hcz16_4 := cz_ BK421.out 4 (.int .i64 a0_4); have hcz16_5 := cz_ BK421.out 5 (.int .i64 a0_5); have hcz16_6 := cz_ BK421.out 6 (.string a0_6); have hfz16_0 := blk_frozen BK421.out 0; have hfz16_1 := blk_frozen BK421.out 1; have hfz16_2 := blk_frozen BK421.out 2; have hfz16_3 := blk_frozen BK421.out 3; have hfz16_4 := blk_frozen BK421.out 4; have hfz16_5 := blk_frozen BK421.out 5; have hfz16_6 := blk_frozen BK421.out 6))
     go_ret
     exact ⟨fi_, bel_⟩
   ·replace c7 := Bool.eq_false_iff.mpr c7
    subst c7
    have H1 : (some false) = some r := by rw [if_neg (show ¬ (false = true) by decide)] at H; exact H
    clear H
    have H := H1
    clear H1
    obtain rfl := Option.some.inj H
    go_enter Tryd.func30, Tryd.ntmps30
    go_wp2_with (first | ((with_reducible refine gate_dst (N := 1) rfl ?_); refine bx_ 1 (#[.int .i64 a0_0, .int .i64 a0_1, .int .i64 a0_2, .int .i64 a0_3, .int .i64 a0_4, .int .i64 a0_5, .string a0_6]) 44 ?_; intro gb421 hg w17 hbox hb; have n0_ := Aside0.mk (below_step (bel_) hb); have n1_ := Aside0.mk (hbox); have n2_ := Aside0.mk ((by rw [hg]; exact (below_size (bel_)) : w.heap.size ≤ gb421)); have n3_ := Aside0.mk ((by rw [hg]; exact (below_size (bel_)) : w.heap.size ≤ gb421)); clear HB; have HB := n0_; have BK421 := n1_; have GW421 := n2_; have GE421 := n3_; clear n0_ n1_ n2_ n3_; clear hb hbox hg; have hcz18_0 := cz_ BK421.out 0 (.int .i64 a0_0); have hcz18_1 := cz_ BK421.out 1 (.int .i64 a0_1); have hcz18_2 := cz_ BK421.out 2 (.int .i64 a0_2); have hcz18_3 := cz_ BK421.out 3 (.int .i64 a0_3); have hcz18_4 := cz_ BK421.out 4 (.int .i64 a0_4); have hcz18_5 := cz_ BK421.out 5 (.int .i64 a0_5); have hcz18_6 := cz_ BK421.out 6 (.string a0_6); have hfz18_0 := blk_frozen BK421.out 0; have hfz18_1 := blk_frozen BK421.out 1; have hfz18_2 := blk_frozen BK421.out 2; have hfz18_3 := blk_frozen BK421.out 3; have hfz18_4 := blk_frozen BK421.out 4; have hfz18_5 := blk_frozen BK421.out 5; have hfz18_6 := blk_frozen BK421.out 6) | ((with_reducible refine gate_callee (f := 75) rfl ?_); refine gl_ 5 Tryd.func75 #[.int .i64 a0_0, .int .i64 1, .int .i64 3] ?_; (with_reducible refine (spec_l6In.calls a0_0 1 3 true _ A2.out).mono ?_); rintro e w' ⟨rfl, ⟨nd, rfl⟩⟩; refine ⟨_, rfl, ?_⟩) | (go_at_call 75; (with_reducible refine (spec_l6In.calls a0_1 1 40 true _ A4.out).mono ?_); rintro e w' ⟨rfl, ⟨nd, rfl⟩⟩) | (go_at_call 84; (with_reducible refine (spec_OpOk.calls k a0_2 a0_3 a0_4 a0_5 a0_6 false _ A6.out).mono ?_); rintro e w19 ⟨rfl, hb⟩; replace HB := Aside0.mk (below_step (bel_) hb); replace BK421 := Aside0.mk (bb_ BK421.out hb); (try clear hb)))
    go_ret
    exact ⟨fi_, bel_⟩
  ·replace c5 := Bool.eq_false_iff.mpr c5
   subst c5
   have H1 : (some false) = some r := by rw [if_neg (show ¬ (false = true) by decide)] at H; exact H
   clear H
   have H := H1
   clear H1
   obtain rfl := Option.some.inj H
   go_enter Tryd.func30, Tryd.ntmps30
   go_wp2_with (first | ((with_reducible refine gate_dst (N := 1) rfl ?_); refine bx_ 1 (#[.int .i64 a0_0, .int .i64 a0_1, .int .i64 a0_2, .int .i64 a0_3, .int .i64 a0_4, .int .i64 a0_5, .string a0_6]) 44 ?_; intro gb421 hg w20 hbox hb; have n0_ := Aside0.mk (below_step (bel_) hb); have n1_ := Aside0.mk (hbox); have n2_ := Aside0.mk ((by rw [hg]; exact (below_size (bel_)) : w.heap.size ≤ gb421)); have n3_ := Aside0.mk ((by rw [hg]; exact (below_size (bel_)) : w.heap.size ≤ gb421)); clear HB; have HB := n0_; have BK421 := n1_; have GW421 := n2_; have GE421 := n3_; clear n0_ n1_ n2_ n3_; clear hb hbox hg; have hcz21_0 := cz_ BK421.out 0 (.int .i64 a0_0); have hcz21_1 := cz_ BK421.out 1 (.int .i64 a0_1); have hcz21_2 := cz_ BK421.out 2 (.int .i64 a0_2); have hcz21_3 := cz_ BK421.out 3 (.int .i64 a0_3); have hcz21_4 := cz_ BK421.out 4 (.int .i64 a0_4); have hcz21_5 := cz_ BK421.out 5 (.int .i64 a0_5); have hcz21_6 := cz_ BK421.out 6 (.string a0_6); have hfz21_0 := blk_frozen BK421.out 0; have hfz21_1 := blk_frozen BK421.out 1; have hfz21_2 := blk_frozen BK421.out 2; have hfz21_3 := blk_frozen BK421.out 3; have hfz21_4 := blk_frozen BK421.out 4; have hfz21_5 := blk_frozen BK421.out 5; have hfz21_6 := blk_frozen BK421.out 6) | ((with_reducible refine gate_callee (f := 75) rfl ?_); refine gl_ 5 Tryd.func75 #[.int .i64 a0_0, .int .i64 1, .int .i64 3] ?_; (with_reducible refine (spec_l6In.calls a0_0 1 3 true _ A2.out).mono ?_); rintro e w' ⟨rfl, ⟨nd, rfl⟩⟩; refine ⟨_, rfl, ?_⟩) | (go_at_call 75; (with_reducible refine (spec_l6In.calls a0_1 1 40 false _ A4.out).mono ?_); rintro e w' ⟨rfl, ⟨nd, rfl⟩⟩))
   go_ret
   exact ⟨fi_, bel_⟩
 ·replace c3 := Bool.eq_false_iff.mpr c3
  subst c3
  have H1 : (some false) = some r := by rw [if_neg (show ¬ (false = true) by decide)] at H; exact H
  clear H
  have H := H1
  clear H1
  obtain rfl := Option.some.inj H
  go_enter Tryd.func30, Tryd.ntmps30
  go_wp2_with (first | ((with_reducible refine gate_dst (N := 1) rfl ?_); refine bx_ 1 (#[.int .i64 a0_0, .int .i64 a0_1, .int .i64 a0_2, .int .i64 a0_3, .int .i64 a0_4, .int .i64 a0_5, .string a0_6]) 44 ?_; intro gb421 hg w22 hbox hb; have n0_ := Aside0.mk (below_step (bel_) hb); have n1_ := Aside0.mk (hbox); have n2_ := Aside0.mk ((by rw [hg]; exact (below_size (bel_)) : w.heap.size ≤ gb421)); have n3_ := Aside0.mk ((by rw [hg]; exact (below_size (bel_)) : w.heap.size ≤ gb421)); clear HB; have HB := n0_; have BK421 := n1_; have GW421 := n2_; have GE421 := n3_; clear n0_ n1_ n2_ n3_; clear hb hbox hg; have hcz23_0 := cz_ BK421.out 0 (.int .i64 a0_0); have hcz23_1 := cz_ BK421.out 1 (.int .i64 a0_1); have hcz23_2 := cz_ BK421.out 2 (.int .i64 a0_2); have hcz23_3 := cz_ BK421.out 3 (.int .i64 a0_3); have hcz23_4 := cz_ BK421.out 4 (.int .i64 a0_4); have hcz23_5 := cz_ BK421.out 5 (.int .i64 a0_5); have hcz23_6 := cz_ BK421.out 6 (.string a0_6); have hfz23_0 := blk_frozen BK421.out 0; have hfz23_1 := blk_frozen BK421.out 1; have hfz23_2 := blk_frozen BK421.out 2; have hfz23_3 := blk_frozen BK421.out 3; have hfz23_4 := blk_frozen BK421.out 4; have hfz23_5 := blk_frozen BK421.out 5; have hfz23_6 := blk_frozen BK421.out 6) | ((with_reducible refine gate_callee (f := 75) rfl ?_); refine gl_ 5 Tryd.func75 #[.int .i64 a0_0, .int .i64 1, .int .i64 3] ?_; (with_reducible refine (spec_l6In.calls a0_0 1 3 false _ A2.out).mono ?_); rintro e w' ⟨rfl, ⟨nd, rfl⟩⟩; refine ⟨_, rfl, ?_⟩))
  go_ret
  exact ⟨fi_, bel_⟩

def spec_LogOk.l0 : Nat → List (S44) → Int → Option (Bool)
 | 0, _, _ => none
 | k + 1, x0, x3 => if x3 < (x0.length : Int) then (if 0 ≤ x3 then ((spec_EntryOk.f k ((rd_T44 x0 x3).f0) ((rd_T44 x0 x3).f1) ((rd_T44 x0 x3).f2.f0) ((rd_T44 x0 x3).f2.f1) ((rd_T44 x0 x3).f2.f2) ((rd_T44 x0 x3).f2.f3) ((rd_T44 x0 x3).f2.f4)).bind fun t426 => (if t426 = true then (if x3 ≤ (x0.length : Int) then ((spec_l12Seq.f k (x0.take (x3 : Int).toNat) ((rd_T44 x0 x3).f0)).bind fun t433 => (if ((rd_T44 x0 x3).f1) = (wrap64 (t433 + 1)) then (spec_LogOk.l0 k x0 (wrap64 (x3 + 1))) else (some false))) else (none)) else (some false))) else (none)) else (some (decide ((x0.length : Int) ≤ 40)))
def spec_LogOk.f (k : Nat) (l0 : List (S44)) : Option (Bool) := spec_LogOk.l0 k l0 0
theorem spec_LogOk.mono_l : ∀ k, (∀ y0 y1, LeO (spec_LogOk.l0 k y0 y1) (spec_LogOk.l0 (k + 1) y0 y1))
 | 0 => fun _ _ r h => by simp [spec_LogOk.l0] at h
 | k + 1 => by
  have ih0 := spec_LogOk.mono_l k
  ·intro y0 y1
   unfold spec_LogOk.l0
   repeat' first
   | (with_reducible exact ih0 _ _)
   | (with_reducible exact spec_EntryOk.mono _ _ _ _ _ _ _ _)
   | (with_reducible exact spec_l12Seq.mono _ _ _)
   | (with_reducible exact LeO.refl _)
   | (with_reducible exact LeO.none _)
   | (with_reducible refine LeO.ite ?_ ?_)
   | (with_reducible refine LeO.bind ?_ (fun _ => ?_))
   | exact ih0 _ _
   | exact spec_EntryOk.mono _ _ _ _ _ _ _ _
   | exact spec_l12Seq.mono _ _ _
   | exact LeO.none _
   | refine LeO.ite ?_ ?_
   | refine LeO.bind ?_ (fun _ => ?_)
theorem spec_LogOk.mono : ∀ a0 k, LeO (spec_LogOk.f k a0) (spec_LogOk.f (k + 1) a0) := by
 intro a0 k
 have ih0 := spec_LogOk.mono_l k
 unfold spec_LogOk.f
 repeat' first
   | (with_reducible exact ih0 _ _)
   | (with_reducible exact spec_EntryOk.mono _ _ _ _ _ _ _ _)
   | (with_reducible exact spec_l12Seq.mono _ _ _)
   | (with_reducible exact LeO.refl _)
   | (with_reducible exact LeO.none _)
   | (with_reducible refine LeO.ite ?_ ?_)
   | (with_reducible refine LeO.bind ?_ (fun _ => ?_))
   | exact ih0 _ _
   | exact spec_EntryOk.mono _ _ _ _ _ _ _ _
   | exact spec_l12Seq.mono _ _ _
   | exact LeO.none _
   | refine LeO.ite ?_ ?_
   | refine LeO.bind ?_ (fun _ => ?_)
def spec_LogOk.T4 : Bool × List (List Nat × List Nat) := (true, [([], []), ([], []), ([0, 1], [0, 1]), ([2], [2]), ([3], [3]), ([4], [4]), ([5, 4], [5]), ([6], [6]), ([6], [6]), ([7, 8, 6], [6, 7, 8]), ([9, 6], [6, 9]), ([10, 6], [6, 10]), ([6], [6]), ([6], [6]), ([12, 13, 6], [6, 12, 13]), ([6], [6]), ([6], [6]), ([15, 16, 6], [6, 15, 16]), ([17, 6], [6, 17]), ([18, 6], [6, 18]), ([14, 19, 6, 6], [6, 14, 19]), ([20, 6], [6, 20]), ([11, 21, 6], [6, 11, 21]), ([6, 22], [6, 22])])
def spec_LogOk.B4 : List Nat := [0, 0, 3, 7, 15, 31, 63, 127, 127, 511, 1023, 2047, 127, 127, 12415, 127, 127, 98431, 229503, 491647, 1044607, 2093183, 4194303, 8388607]
theorem spec_LogOk.tab4 : rtab .any (opsOf Tryd.f43 4) = spec_LogOk.T4 := by kernel_rfl
theorem spec_LogOk.bits4 : waitsOk spec_LogOk.T4.2 spec_LogOk.B4 = true := by kernel_rfl
end Go.Proofs.YtdpklbomhdpimaaDoor.P
