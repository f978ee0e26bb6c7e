/- Joined by a program (wip/shake.py): the declarations that 'YtnclcbjagleoeaaDoorCardFnFallNews' reaches. -/
import Derived.Test.YtnclcbjagleoeaaDoorZQ34
namespace Go.Proofs.YtnclcbjagleoeaaDoor.P
open Go.RowKit Go.Proofs.YtnclcbjagleoeaaDoorW.PrintWords Go.Proofs.YtnclcbjagleoeaaDoorW.PrintLast
set_option linter.unusedVariables false
set_option linter.unusedSimpArgs false
set_option maxHeartbeats 8000000 in
set_option maxRecDepth 100000 in
theorem laws_FnFallNews.calls (k : Nat) (A0 : Option Addr) (c0 : Nat) (l0 : List Int) (A1 : Option Addr) (c1 : Nat) (l1 : List Int) (r : Bool) (w : World) (hr0 : Kd.C (Kd.int .u8) w A0 l0.length l0) (hc0 : l0.length ≤ c0) (hr1 : Kd.C (Kd.int .u8) w A1 l1.length l1) (hc1 : l1.length ≤ c1) (h : laws_FnFallNews.f k l0 l1 = some r) (hG : Glob w) :
  Calls Tryd.prog 9 #[.slice A0 l0.length c0, .slice A1 l1.length c1] w fun e w' => e = .returned (.bool r) ∧ Below w.heap.size w w' := by
 have hu29 := Tryd.underlying29
 have HR0 := Aside0.mk hr0
 have HC0 := Aside0.mk hc0
 clear hr0 hc0
 have HR1 := Aside0.mk hr1
 have HC1 := Aside0.mk hc1
 clear hr1 hc1
 have HB := Aside0.mk (Below.refl w.heap.size w)
 have HG := Aside0.mk hG
 clear hG
 have H : (if (l0.length : Int) > 1048576 then (laws_FnFallNews.j0 k l0 l1 true) else (laws_FnFallNews.j0 k l0 l1 (decide ((l1.length : Int) > 1048576)))) = some r := h
 clear h
 have HC3 := Aside0.mk H
 clear H
 go_enter Tryd.func9, Tryd.ntmps9
 go_upto_region 1 with (fail)
 go_cut [16] (fun v16 wc => ∃ (kq : Nat) (x16_2 : Bool), v16 = .bool x16_2 ∧ Aside0 (laws_FnFallNews.j0 kq l0 l1 x16_2 = some r) ∧ Aside0 (kq ≤ k) ∧ Aside0 (Below w.heap.size w wc))
 case first =>
  have H := HC3.out
  clear HC3
  by_cases c4 : (l0.length : Int) > 1048576
  ·rw [if_pos c4] at H
   have c4b0 : decide (1048576 < (l0.length : Int)) = true := decide_eq_true c4
   have c4b1 : decide (1048576 < l0.length) = true := decide_eq_true (by omega)
   clear c4
   (first | rw [c4b0] | (simp only [i64_w, i32_w]; rw [c4b0]) | skip)
   have H' := Aside0.mk H
   clear H
   go_wp2
   go_meet
   case rel => exact ⟨_, (true), (si_), H', ⟨by first | omega | exact Nat.le_refl _⟩, ⟨bel_⟩⟩
  ·rw [if_neg c4] at H
   have c4b0 : decide (1048576 < (l0.length : Int)) = false := decide_eq_false c4
   have c4b1 : decide (1048576 < l0.length) = false := decide_eq_false (by omega)
   clear c4
   (first | rw [c4b0] | (simp only [i64_w, i32_w]; rw [c4b0]) | skip)
   have H' := Aside0.mk H
   clear H
   go_wp2
   go_meet
   case rel => exact ⟨_, (decide ((l1.length : Int) > 1048576)), (si_), H', ⟨by first | omega | exact Nat.le_refl _⟩, ⟨bel_⟩⟩
 case rest =>
  clear HC3
  try clear c1
  try clear p2
  try clear c4
  try clear c4b0
  try clear c4b1
  obtain ⟨kq, x16_2, rfl, HA, HJ2, HB⟩ := hcut
  cases kq with
  | zero => exact absurd HA.out (by simp [laws_FnFallNews.j0])
  | succ kj2 =>
   have H := HA.out
   clear HA
   simp only [laws_FnFallNews.j0] at H
   by_cases c5 : x16_2 = true
   ·subst c5
    have H1 : (some true) = some r := by rw [if_pos rfl] at H; exact H
    clear H
    have H := H1
    clear H1
    obtain rfl := Option.some.inj H
    go_wp2
    go_ret
    exact ⟨fi_, bel_⟩
   ·replace c5 := Bool.eq_false_iff.mpr c5
    subst c5
    have H1 : ((spec_DrawServerFall.f kj2 l0).bind fun bt837 => ((impl_ServerFall.f kj2 bt837.1 bt837.2.1 bt837.2.2.1 bt837.2.2.2).bind fun bt844 => ((spec_ServerFall.f kj2 bt837.1 bt837.2.1 bt837.2.2.1 bt837.2.2.2).bind fun bt850 => ((laws_lpServer.f kj2 bt844.1 bt844.2.1 bt844.2.2 bt850.1 bt850.2.1 bt850.2.2).bind fun t855 => (if t855 = true then ((spec_ServerOk.f kj2 bt837.1 bt837.2.1 bt837.2.2.1).bind fun t856 => (if t856 = true then (if bt837.2.2.2 < 0 then (laws_FnFallNews.j1 kj2 l1 bt837.2.2.2 true bt837.1 bt837.2.1 bt837.2.2.1 bt844.1 bt844.2.1 bt844.2.2) else (laws_FnFallNews.j1 kj2 l1 bt837.2.2.2 (decide (bt837.2.2.2 > 40)) bt837.1 bt837.2.1 bt837.2.2.1 bt844.1 bt844.2.1 bt844.2.2)) else (laws_FnFallNews.j1 kj2 l1 bt837.2.2.2 true bt837.1 bt837.2.1 bt837.2.2.1 bt844.1 bt844.2.1 bt844.2.2))) else (none)))))) = some r := by rw [if_neg (show ¬ (false = true) by decide)] at H; exact H
    clear H
    have H := H1
    clear H1
    replace H := Option.bind_eq_some_iff.mp H
    obtain ⟨⟨t837, t840, t841, t842⟩, A60, H⟩ := H
    replace H : ((impl_ServerFall.f kj2 t837 t840 t841 t842).bind fun bt844 => ((spec_ServerFall.f kj2 t837 t840 t841 t842).bind fun bt850 => ((laws_lpServer.f kj2 bt844.1 bt844.2.1 bt844.2.2 bt850.1 bt850.2.1 bt850.2.2).bind fun t855 => (if t855 = true then ((spec_ServerOk.f kj2 t837 t840 t841).bind fun t856 => (if t856 = true then (if t842 < 0 then (laws_FnFallNews.j1 kj2 l1 t842 true t837 t840 t841 bt844.1 bt844.2.1 bt844.2.2) else (laws_FnFallNews.j1 kj2 l1 t842 (decide (t842 > 40)) t837 t840 t841 bt844.1 bt844.2.1 bt844.2.2)) else (laws_FnFallNews.j1 kj2 l1 t842 true t837 t840 t841 bt844.1 bt844.2.1 bt844.2.2))) else (none))))) = some r := H
    have A6 := Aside0.mk A60
    clear A60
    replace H := Option.bind_eq_some_iff.mp H
    obtain ⟨⟨t844, t847, t848⟩, A70, H⟩ := H
    replace H : ((spec_ServerFall.f kj2 t837 t840 t841 t842).bind fun bt850 => ((laws_lpServer.f kj2 t844 t847 t848 bt850.1 bt850.2.1 bt850.2.2).bind fun t855 => (if t855 = true then ((spec_ServerOk.f kj2 t837 t840 t841).bind fun t856 => (if t856 = true then (if t842 < 0 then (laws_FnFallNews.j1 kj2 l1 t842 true t837 t840 t841 t844 t847 t848) else (laws_FnFallNews.j1 kj2 l1 t842 (decide (t842 > 40)) t837 t840 t841 t844 t847 t848)) else (laws_FnFallNews.j1 kj2 l1 t842 true t837 t840 t841 t844 t847 t848))) else (none)))) = some r := H
    have A7 := Aside0.mk A70
    clear A70
    have HC8 := Aside0.mk H
    clear H
    go_upto_region 5 with (first | ((with_reducible refine gate_callee (f := 36) rfl ?_); refine gl_ 19 Tryd.func36 #[.slice A0 l0.length c0] ?_; (with_reducible refine (spec_DrawServerFall.calls kj2 _ _ l0 t837 t840 t841 t842 _ ?side1 ?side2 A6.out).mono ?_); (case side1 => exact cp_ HR0.out); (case side2 => exact HC0.out); rintro e w9 ⟨v838, rfl, ho0, hb⟩; refine ⟨_, rfl, ?_⟩; have HO839 := Aside0.mk (Kd.R_lower ho0 (below_size (bel_))); replace HB := Aside0.mk (below_step (bel_) hb); (try clear hb); (try clear hb2); (try clear hk); (try clear hi); (try clear ho0)) | ((with_reducible refine gate_dst (N := 5) rfl ?_); refine box_event ?hg (N := 5) ?hd (cs := #[.slice none 0 0, .int .i64 0, .bool false]) (t := 29) ?hr ?_; (case hd => rfl); (case hg => rfl); (case hr => first | (go_simp; done) | (go_simp; rfl)); intro gb843 hg w10 hbox hb; have n0_ := Aside0.mk (Kd.R_below (rp_ HO839.out) hb); have n1_ := Aside0.mk (below_step (bel_) hb); have n2_ := Aside0.mk (hbox); have n3_ := Aside0.mk ((by rw [hg]; exact (below_size (bel_)) : w.heap.size ≤ gb843)); have n4_ := Aside0.mk ((by rw [hg]; exact (below_size (bel_)) : w.heap.size ≤ gb843)); clear HO839; clear HB; have HO839 := n0_; have HB := n1_; have BK843 := n2_; have GW843 := n3_; have GE843 := n4_; clear n0_ n1_ n2_ n3_ n4_; clear hb hbox hg; obtain ⟨Ao11, co11, eo11⟩ := Kd.R_slice HO839.out; subst eo11; have hcz12_0 : w10.cell? ⟨gb843, 0, none⟩ = some (.slice none 0 0) := (blk_cell BK843.out 0).trans rfl; have hcz12_1 : w10.cell? ⟨gb843, 1, none⟩ = some (.int .i64 0) := (blk_cell BK843.out 1).trans rfl; have hcz12_2 : w10.cell? ⟨gb843, 2, none⟩ = some (.bool false) := (blk_cell BK843.out 2).trans rfl; have hfz12_0 := blk_frozen BK843.out 0; have hfz12_1 := blk_frozen BK843.out 1; have hfz12_2 := blk_frozen BK843.out 2) | ((with_reducible refine gate_callee (f := 30) rfl ?_); refine gl_ 24 Tryd.func30 #[.agg #[.slice Ao11 t837.length co11, .int .i64 t840, .bool t841], .int .i64 t842] ?_; (with_reducible refine (impl_ServerFall.calls kj2 _ _ t837 t840 t841 t842 t844 t847 t848 _ ?side1 ?side2 A7.out ?side3).mono ?_); (case side1 => refine (Kd.R_reads' (e := 56) (base := w.heap.size) (ok := fun k_ => True) (n := t837.length) (c := co11) ?_).2.2; exact (by (with_reducible repeat (first | apply Kd.R_alloc | apply Kd.R_drewN | apply Kd.R_drew)); exact (Kd.R_mono (Kd.R_far (p := ⟨gb843, 2, none⟩) (Kd.R_far (p := ⟨gb843, 1, none⟩) (Kd.R_far (p := ⟨gb843, 0, none⟩) (Kd.R_types HO839.out BK843.out (by decide)) (fun _ hk => hk.2) (.slice Ao11 t837.length co11)) (fun _ hk => hk.2) (.int .i64 t840)) (fun _ hk => hk.2) (.bool t841)) (fun _ h_ => h_.1)))); (case side2 => exact (Kd.R_reads' HO839.out).2.1); (case side3 => exact Glob.below HG.out (bel_)); rintro e w13 ⟨v845, rfl, ho0, hb⟩; refine ⟨_, rfl, ?_⟩; have n0_ := Aside0.mk (Kd.R_elder' (by (with_reducible repeat (first | apply Kd.R_alloc | apply Kd.R_drewN | apply Kd.R_drew)); exact (Kd.R_mono (Kd.R_far (p := ⟨gb843, 2, none⟩) (Kd.R_far (p := ⟨gb843, 1, none⟩) (Kd.R_far (p := ⟨gb843, 0, none⟩) (Kd.R_types HO839.out BK843.out (by decide)) (fun _ hk => hk.2) (.slice Ao11 t837.length co11)) (fun _ hk => hk.2) (.int .i64 t840)) (fun _ hk => hk.2) (.bool t841)) (fun _ h_ => h_.1))) (Kd.R_base ho0) hb); have n1_ := Aside0.mk (Kd.R_lower (Kd.R_new' ho0 (Kd.R_lt (by (with_reducible repeat (first | apply Kd.R_alloc | apply Kd.R_drewN | apply Kd.R_drew)); exact (Kd.R_mono (Kd.R_far (p := ⟨gb843, 2, none⟩) (Kd.R_far (p := ⟨gb843, 1, none⟩) (Kd.R_far (p := ⟨gb843, 0, none⟩) (Kd.R_types HO839.out BK843.out (by decide)) (fun _ hk => hk.2) (.slice Ao11 t837.length co11)) (fun _ hk => hk.2) (.int .i64 t840)) (fun _ hk => hk.2) (.bool t841)) (fun _ h_ => h_.1))))) (below_size (bel_))); have n2_ := Aside0.mk (blk_below (g := gb843) (o := .cells #[.slice Ao11 t837.length co11, .int .i64 t840, .bool t841] 29 (0, 0)) (by (with_reducible repeat (first | refine blk_drewN ?_ _ | refine blk_drew ?_ | refine blk_alloc ?_ _)); refine blk_put (cs := #[.slice Ao11 t837.length co11, .int .i64 t840, .bool false]) ?_ 2 _ rfl; (with_reducible repeat (first | refine blk_drewN ?_ _ | refine blk_drew ?_ | refine blk_alloc ?_ _)); refine blk_put (cs := #[.slice Ao11 t837.length co11, .int .i64 0, .bool false]) ?_ 1 _ rfl; (with_reducible repeat (first | refine blk_drewN ?_ _ | refine blk_drew ?_ | refine blk_alloc ?_ _)); refine blk_put (cs := #[.slice none 0 0, .int .i64 0, .bool false]) ?_ 0 _ rfl; (with_reducible repeat (first | refine blk_drewN ?_ _ | refine blk_drew ?_ | refine blk_alloc ?_ _)); exact BK843.out) hb); have n3_ := Aside0.mk (below_step (bel_) hb); clear HO839; clear BK843; clear HB; have HO839 := n0_; have HO846 := n1_; have BK843 := n2_; have HB := n3_; clear n0_ n1_ n2_ n3_; (try clear hb); (try clear hb2); (try clear hk); (try clear hi); (try clear ho0)) | ((with_reducible refine gate_dst (N := 7) rfl ?_); refine box_event ?hg (N := 7) ?hd (cs := #[.slice none 0 0, .int .i64 0, .bool false]) (t := 29) ?hr ?_; (case hd => rfl); (case hg => rfl); (case hr => first | (go_simp; done) | (go_simp; rfl)); intro gb849 hg w14 hbox hb; have n0_ := Aside0.mk (Kd.R_below (rp_ HO839.out) hb); have n1_ := Aside0.mk (Kd.R_below (rp_ HO846.out) hb); have n2_ := Aside0.mk (blk_below (g := gb843) (o := .cells #[.slice Ao11 t837.length co11, .int .i64 t840, .bool t841] 29 (0, 0)) (bp_ BK843.out) hb); have n3_ := Aside0.mk (below_step (bel_) hb); have n4_ := Aside0.mk (hbox); have n5_ := Aside0.mk ((by rw [hg]; exact (below_size (bel_)) : w.heap.size ≤ gb849)); have n6_ := Aside0.mk ((by rw [hg]; exact (below_size (bel_)) : w.heap.size ≤ gb849)); have n7_ := Aside0.mk ((by rw [hg]; exact Nat.ne_of_lt (blk_lt (g := gb843) (o := .cells #[.slice Ao11 t837.length co11, .int .i64 t840, .bool t841] 29 (0, 0)) (bp_ BK843.out)) : gb843 ≠ gb849)); have n8_ := Aside0.mk ((by rw [hg]; exact Nat.ne_of_gt (blk_lt (g := gb843) (o := .cells #[.slice Ao11 t837.length co11, .int .i64 t840, .bool t841] 29 (0, 0)) (bp_ BK843.out)) : gb849 ≠ gb843)); clear HO839; clear HO846; clear BK843; clear HB; have HO839 := n0_; have HO846 := n1_; have BK843 := n2_; have HB := n3_; have BK849 := n4_; have GW849 := n5_; have GE849 := n6_; have NB843_849 := n7_; have NB849_843 := n8_; clear n0_ n1_ n2_ n3_ n4_ n5_ n6_ n7_ n8_; clear hb hbox hg; obtain ⟨Ao15, co15, eo15⟩ := Kd.R_slice HO846.out; subst eo15; have hnb16 := NB849_843.out; have hnc16 := NB843_849.out; have hcz17_0 : w14.cell? ⟨gb849, 0, none⟩ = some (.slice none 0 0) := (blk_cell BK849.out 0).trans rfl; have hcz17_1 : w14.cell? ⟨gb849, 1, none⟩ = some (.int .i64 0) := (blk_cell BK849.out 1).trans rfl; have hcz17_2 : w14.cell? ⟨gb849, 2, none⟩ = some (.bool false) := (blk_cell BK849.out 2).trans rfl; have hfz17_0 := blk_frozen BK849.out 0; have hfz17_1 := blk_frozen BK849.out 1; have hfz17_2 := blk_frozen BK849.out 2))
    (try simp only [Act.put, List.setIfInBounds_toArray, List.set_cons_zero, List.set_cons_succ])
    go_cut [43] (fun v43 wc => ∃ (kq : Nat) (x43_7 : Bool), v43 = .bool x43_7 ∧ Aside0 (laws_FnFallNews.j1 kq l1 t842 x43_7 t837 t840 t841 t844 t847 t848 = some r) ∧ Aside0 (kq ≤ kj2) ∧ Aside0 (Kd.R k56 56 wc w.heap.size (fun k_ => some k_ ≠ ((.slice Ao15 t844.length co15) : Value).ownBlock) (.slice Ao11 t837.length co11) t837) ∧ Aside0 (Kd.R k56 56 wc w.heap.size (fun k_ => some k_ ≠ ((.slice Ao11 t837.length co11) : Value).ownBlock) (.slice Ao15 t844.length co15) t844) ∧ Aside0 (wc.heap[gb843]? = some (.cells #[(.slice Ao11 t837.length co11), .int .i64 t840, .bool t841] 29 (0, 0))) ∧ Aside0 (wc.heap[gb849]? = some (.cells #[(.slice Ao15 t844.length co15), .int .i64 t847, .bool t848] 29 (0, 0))) ∧ Aside0 (Below w.heap.size w wc))
    case first =>
     have H := HC8.out
     clear HC8
     replace H := Option.bind_eq_some_iff.mp H
     obtain ⟨⟨t850, t853, t854⟩, A180, H⟩ := H
     replace H : ((laws_lpServer.f kj2 t844 t847 t848 t850 t853 t854).bind fun t855 => (if t855 = true then ((spec_ServerOk.f kj2 t837 t840 t841).bind fun t856 => (if t856 = true then (if t842 < 0 then (laws_FnFallNews.j1 kj2 l1 t842 true t837 t840 t841 t844 t847 t848) else (laws_FnFallNews.j1 kj2 l1 t842 (decide (t842 > 40)) t837 t840 t841 t844 t847 t848)) else (laws_FnFallNews.j1 kj2 l1 t842 true t837 t840 t841 t844 t847 t848))) else (none))) = some r := H
     have A18 := Aside0.mk A180
     clear A180
     replace H := Option.bind_eq_some_iff.mp H
     obtain ⟨t855, A190, H⟩ := H
     replace H : (if t855 = true then ((spec_ServerOk.f kj2 t837 t840 t841).bind fun t856 => (if t856 = true then (if t842 < 0 then (laws_FnFallNews.j1 kj2 l1 t842 true t837 t840 t841 t844 t847 t848) else (laws_FnFallNews.j1 kj2 l1 t842 (decide (t842 > 40)) t837 t840 t841 t844 t847 t848)) else (laws_FnFallNews.j1 kj2 l1 t842 true t837 t840 t841 t844 t847 t848))) else (none)) = some r := H
     have A19 := Aside0.mk A190
     clear A190
     by_cases c20 : t855 = true
     ·subst c20
      have H1 : ((spec_ServerOk.f kj2 t837 t840 t841).bind fun t856 => (if t856 = true then (if t842 < 0 then (laws_FnFallNews.j1 kj2 l1 t842 true t837 t840 t841 t844 t847 t848) else (laws_FnFallNews.j1 kj2 l1 t842 (decide (t842 > 40)) t837 t840 t841 t844 t847 t848)) else (laws_FnFallNews.j1 kj2 l1 t842 true t837 t840 t841 t844 t847 t848))) = some r := by rw [if_pos rfl] at H; exact H
      clear H
      have H := H1
      clear H1
      replace H := Option.bind_eq_some_iff.mp H
      obtain ⟨t856, A210, H⟩ := H
      replace H : (if t856 = true then (if t842 < 0 then (laws_FnFallNews.j1 kj2 l1 t842 true t837 t840 t841 t844 t847 t848) else (laws_FnFallNews.j1 kj2 l1 t842 (decide (t842 > 40)) t837 t840 t841 t844 t847 t848)) else (laws_FnFallNews.j1 kj2 l1 t842 true t837 t840 t841 t844 t847 t848)) = some r := H
      have A21 := Aside0.mk A210
      clear A210
      by_cases c22 : t856 = true
      ·subst c22
       have H1 : (if t842 < 0 then (laws_FnFallNews.j1 kj2 l1 t842 true t837 t840 t841 t844 t847 t848) else (laws_FnFallNews.j1 kj2 l1 t842 (decide (t842 > 40)) t837 t840 t841 t844 t847 t848)) = some r := by rw [if_pos rfl] at H; exact H
       clear H
       have H := H1
       clear H1
       by_cases c23 : t842 < 0
       ·rw [if_pos c23] at H
        have c23b0 : decide (t842 < 0) = true := decide_eq_true c23
        clear c23
        (first | rw [c23b0] | (simp only [i64_w, i32_w]; rw [c23b0]) | skip)
        have H' := Aside0.mk H
        clear H
        try go_wp2
        have n0_ : Aside0 (Kd.R k56 56 (((w14.setCell ⟨gb849, 0, none⟩ (.slice Ao15 t844.length co15)).setCell ⟨gb849, 1, none⟩ (.int .i64 t847)).setCell ⟨gb849, 2, none⟩ (.bool t848)) w.heap.size (fun k_ => some k_ ≠ (.slice Ao15 t844.length co15 : Value).ownBlock) (.slice Ao11 t837.length co11) t837) := ⟨by (with_reducible repeat (first | apply Kd.R_alloc | apply Kd.R_drewN | apply Kd.R_drew)); exact Kd.R_mono (Kd.R_far (p := ⟨gb849, 2, none⟩) (Kd.R_far (p := ⟨gb849, 1, none⟩) (Kd.R_far (p := ⟨gb849, 0, none⟩) (Kd.R_types HO839.out BK849.out (by decide)) (fun _ hk => hk.2) (.slice Ao15 t844.length co15)) (fun _ hk => hk.2) (.int .i64 t847)) (fun _ hk => hk.2) (.bool t848)) (fun _ hk => hk.1.2)⟩
        have n1_ : Aside0 (Kd.R k56 56 (((w14.setCell ⟨gb849, 0, none⟩ (.slice Ao15 t844.length co15)).setCell ⟨gb849, 1, none⟩ (.int .i64 t847)).setCell ⟨gb849, 2, none⟩ (.bool t848)) w.heap.size (fun k_ => some k_ ≠ (.slice Ao11 t837.length co11 : Value).ownBlock) (.slice Ao15 t844.length co15) t844) := ⟨by (with_reducible repeat (first | apply Kd.R_alloc | apply Kd.R_drewN | apply Kd.R_drew)); exact Kd.R_mono (Kd.R_far (p := ⟨gb849, 2, none⟩) (Kd.R_far (p := ⟨gb849, 1, none⟩) (Kd.R_far (p := ⟨gb849, 0, none⟩) (Kd.R_types HO846.out BK849.out (by decide)) (fun _ hk => hk.2) (.slice Ao15 t844.length co15)) (fun _ hk => hk.2) (.int .i64 t847)) (fun _ hk => hk.2) (.bool t848)) (fun _ hk => hk.1.2)⟩
        have n2_ : Aside0 ((((w14.setCell ⟨gb849, 0, none⟩ (.slice Ao15 t844.length co15)).setCell ⟨gb849, 1, none⟩ (.int .i64 t847)).setCell ⟨gb849, 2, none⟩ (.bool t848)).heap[gb843]? = some (.cells #[.slice Ao11 t837.length co11, .int .i64 t840, .bool t841] 29 (0, 0))) := ⟨by (with_reducible repeat (first | refine blk_drewN ?_ _ | refine blk_drew ?_ | refine blk_alloc ?_ _)); refine blk_far ?_ NB843_849.out _; (with_reducible repeat (first | refine blk_drewN ?_ _ | refine blk_drew ?_ | refine blk_alloc ?_ _)); refine blk_far ?_ NB843_849.out _; (with_reducible repeat (first | refine blk_drewN ?_ _ | refine blk_drew ?_ | refine blk_alloc ?_ _)); refine blk_far ?_ NB843_849.out _; (with_reducible repeat (first | refine blk_drewN ?_ _ | refine blk_drew ?_ | refine blk_alloc ?_ _)); exact BK843.out⟩
        have n3_ : Aside0 ((((w14.setCell ⟨gb849, 0, none⟩ (.slice Ao15 t844.length co15)).setCell ⟨gb849, 1, none⟩ (.int .i64 t847)).setCell ⟨gb849, 2, none⟩ (.bool t848)).heap[gb849]? = some (.cells #[.slice Ao15 t844.length co15, .int .i64 t847, .bool t848] 29 (0, 0))) := ⟨by (with_reducible repeat (first | refine blk_drewN ?_ _ | refine blk_drew ?_ | refine blk_alloc ?_ _)); refine blk_put (cs := #[.slice Ao15 t844.length co15, .int .i64 t847, .bool false]) ?_ 2 _ rfl; (with_reducible repeat (first | refine blk_drewN ?_ _ | refine blk_drew ?_ | refine blk_alloc ?_ _)); refine blk_put (cs := #[.slice Ao15 t844.length co15, .int .i64 0, .bool false]) ?_ 1 _ rfl; (with_reducible repeat (first | refine blk_drewN ?_ _ | refine blk_drew ?_ | refine blk_alloc ?_ _)); refine blk_put (cs := #[.slice none 0 0, .int .i64 0, .bool false]) ?_ 0 _ rfl; (with_reducible repeat (first | refine blk_drewN ?_ _ | refine blk_drew ?_ | refine blk_alloc ?_ _)); exact BK849.out⟩
        have n4_ : Aside0 (Below w.heap.size w (((w14.setCell ⟨gb849, 0, none⟩ (.slice Ao15 t844.length co15)).setCell ⟨gb849, 1, none⟩ (.int .i64 t847)).setCell ⟨gb849, 2, none⟩ (.bool t848))) := ⟨bel_⟩
        (try clear HO839)
        (try clear HO846)
        (try clear BK843)
        (try clear BK849)
        (try clear HB)
        generalize (((w14.setCell ⟨gb849, 0, none⟩ (.slice Ao15 t844.length co15)).setCell ⟨gb849, 1, none⟩ (.int .i64 t847)).setCell ⟨gb849, 2, none⟩ (.bool t848)) = w24 at n0_ n1_ n2_ n3_ n4_ ⊢
        have HO839 := n0_
        have HO846 := n1_
        have BK843 := n2_
        have BK849 := n3_
        have HB := n4_
        clear n0_ n1_ n2_ n3_ n4_
        have n0_ := Aside0.mk (Kd.R_drew HO839.out)
        have n1_ := Aside0.mk (Kd.R_drew HO846.out)
        have n2_ := Aside0.mk (blk_drew BK843.out)
        have n3_ := Aside0.mk (blk_drew BK849.out)
        have n4_ := Aside0.mk (below_drew1 HB.out)
        clear HO839
        clear HO846
        clear BK843
        clear BK849
        clear HB
        have HO839 := n0_
        have HO846 := n1_
        have BK843 := n2_
        have BK849 := n3_
        have HB := n4_
        clear n0_ n1_ n2_ n3_ n4_
        refine start_ (n := 19) (S := fun w' => w'.cell? ⟨gb849, 0, none⟩ = some (.slice Ao15 t844.length co15) ∧ w'.cell? ⟨gb849, 1, none⟩ = some (.int .i64 t847) ∧ w'.cell? ⟨gb849, 2, none⟩ = some (.bool t848) ∧ w'.cell? ⟨gb843, 0, none⟩ = some (.slice Ao11 t837.length co11) ∧ w'.cell? ⟨gb843, 1, none⟩ = some (.int .i64 t840) ∧ w'.cell? ⟨gb843, 2, none⟩ = some (.bool t841)) (ds := []) #[false, false, false, false, false, false, false, false, false, false, false, false, false, false, false, false, false, false, false] (by kernel_rfl) rfl rfl ⟨(blk_cell BK849.out 0).trans rfl, (blk_cell BK849.out 1).trans rfl, (blk_cell BK849.out 2).trans rfl, (blk_cell BK843.out 0).trans rfl, (blk_cell BK843.out 1).trans rfl, (blk_cell BK843.out 2).trans rfl⟩ (fun hHeld => ?_); refine with_tabW laws_FnFallNews.tab5 laws_FnFallNews.bits5 (fun HT_ HW_ => ?_)
        generalize w24.drew = w25 at HO839 HO846 BK843 BK849 HB hHeld ⊢
        refine pa_ 2 27 ?_
        refine ta6_ 0 25 hHeld ?_
        refine ta6_ 1 26 hHeld ?_
        refine on_ 3 28 (fun K hK => ?_)
        refine goes_ Tryd.func29 (by kernel_rfl) rfl #[.agg #[.slice Ao11 t837.length co11, .int .i64 t840, .bool t841], .int .i64 t842] (by rfl) rfl rfl ar_ ?_
        with_reducible refine (spec_ServerFall.calls kj2 _ _ t837 t840 t841 t842 t850 t853 t854 _ ?side1 ?side2 A18.out).mono ?_
        (case side1 => repeat (first | exact (Kd.R_reads' HO839.out).2.2 | (with_reducible refine Kd.C_alloc ?_ _) | (with_reducible refine Kd.C_drewN ?_ _) | (with_reducible refine Kd.C_drew ?_)))
        (case side2 => exact (Kd.R_reads' HO839.out).2.1)
        rintro e w26 ⟨v851, rfl, ho0, hb⟩
        refine ⟨_, rfl, ?_⟩
        have n0_ := Aside0.mk (Kd.R_elder' (rp_ HO839.out) (Kd.R_base ho0) hb)
        have n1_ := Aside0.mk (Kd.R_elder' (rp_ HO846.out) (Kd.R_base ho0) hb)
        have n2_ := Aside0.mk (Kd.R_lower (Kd.R_new' (Kd.R_new' ho0 (Kd.R_lt (rp_ HO839.out))) (Kd.R_lt (rp_ HO846.out))) (below_size (bel_)))
        have n3_ := Aside0.mk (blk_below (g := gb843) (o := .cells #[.slice Ao11 t837.length co11, .int .i64 t840, .bool t841] 29 (0, 0)) (bp_ BK843.out) hb)
        have n4_ := Aside0.mk (blk_below (g := gb849) (o := .cells #[.slice Ao15 t844.length co15, .int .i64 t847, .bool t848] 29 (0, 0)) (bp_ BK849.out) hb)
        have n5_ := Aside0.mk (below_step (bel_) hb)
        clear HO839
        clear HO846
        clear BK843
        clear BK849
        clear HB
        have HO839 := n0_
        have HO846 := n1_
        have HO852 := n2_
        have BK843 := n3_
        have BK849 := n4_
        have HB := n5_
        clear n0_ n1_ n2_ n3_ n4_ n5_
        (try clear hb)
        (try clear hb2)
        (try clear hk)
        (try clear hi)
        (try clear ho0)
        obtain ⟨Ao27, co27, eo27⟩ := Kd.R_slice HO852.out
        (first | subst eo27 | (injection eo27 with f1_ f2_ f3_; have f4_ := f1_.symm; have f5_ := f3_.symm; clear f1_ f2_ f3_; subst f4_; subst f5_))
        refine hK.out _ _ ⟨(blk_cell BK849.out 0).trans rfl, (blk_cell BK849.out 1).trans rfl, (blk_cell BK849.out 2).trans rfl, (blk_cell BK843.out 0).trans rfl, (blk_cell BK843.out 1).trans rfl, (blk_cell BK843.out 2).trans rfl⟩ (fun hHeld => ?_)
        clear hK K
        refine no_ ?_
        refine on_ 4 29 (fun K hK => ?_)
        refine goes_ Tryd.func37 (by kernel_rfl) rfl #[.agg #[.slice Ao15 t844.length co15, .int .i64 t847, .bool t848], .agg #[.slice Ao27 t850.length co27, .int .i64 t853, .bool t854]] (by rfl) rfl rfl ar_ ?_
        with_reducible refine (laws_lpServer.calls kj2 _ _ t844 t847 t848 _ _ t850 t853 t854 true _ ?side1 ?side2 ?side3 ?side4 A19.out).mono ?_
        (case side1 => repeat (first | exact (Kd.R_reads' HO846.out).2.2 | (with_reducible refine Kd.C_alloc ?_ _) | (with_reducible refine Kd.C_drewN ?_ _) | (with_reducible refine Kd.C_drew ?_)))
        (case side2 => exact (Kd.R_reads' HO846.out).2.1)
        (case side3 => repeat (first | exact (Kd.R_reads' HO852.out).2.2 | (with_reducible refine Kd.C_alloc ?_ _) | (with_reducible refine Kd.C_drewN ?_ _) | (with_reducible refine Kd.C_drew ?_)))
        (case side4 => exact (Kd.R_reads' HO852.out).2.1)
        rintro e w28 ⟨rfl, hb⟩
        refine ⟨_, rfl, ?_⟩
        have n0_ := Aside0.mk (Kd.R_below (rp_ HO839.out) hb)
        have n1_ := Aside0.mk (Kd.R_below (rp_ HO846.out) hb)
        have n2_ := Aside0.mk (Kd.R_below (rp_ HO852.out) hb)
        have n3_ := Aside0.mk (blk_below (g := gb843) (o := .cells #[.slice Ao11 t837.length co11, .int .i64 t840, .bool t841] 29 (0, 0)) (bp_ BK843.out) hb)
        have n4_ := Aside0.mk (blk_below (g := gb849) (o := .cells #[.slice Ao15 t844.length co15, .int .i64 t847, .bool t848] 29 (0, 0)) (bp_ BK849.out) hb)
        have n5_ := Aside0.mk (below_step (bel_) hb)
        clear HO839
        clear HO846
        clear HO852
        clear BK843
        clear BK849
        clear HB
        have HO839 := n0_
        have HO846 := n1_
        have HO852 := n2_
        have BK843 := n3_
        have BK849 := n4_
        have HB := n5_
        clear n0_ n1_ n2_ n3_ n4_ n5_
        (try clear hb)
        (try clear hb2)
        (try clear hk)
        (try clear hi)
        refine hK.out _ _ ⟨(blk_cell BK849.out 0).trans rfl, (blk_cell BK849.out 1).trans rfl, (blk_cell BK849.out 2).trans rfl, (blk_cell BK843.out 0).trans rfl, (blk_cell BK843.out 1).trans rfl, (blk_cell BK843.out 2).trans rfl⟩ (fun hHeld => ?_)
        clear hK K
        refine no_ ?_
        refine pa_ 5 30 ?_
        refine pa_ 6 31 ?_
        refine ta6_ 7 32 hHeld ?_
        refine on_ 8 33 (fun K hK => ?_)
        refine goes_ Tryd.func27 (by kernel_rfl) rfl #[.agg #[.slice Ao11 t837.length co11, .int .i64 t840, .bool t841]] (by rfl) rfl rfl ar_ ?_
        with_reducible refine (spec_ServerOk.calls kj2 _ _ t837 t840 t841 true _ ?side1 ?side2 A21.out).mono ?_
        (case side1 => repeat (first | exact (Kd.R_reads' HO839.out).2.2 | (with_reducible refine Kd.C_alloc ?_ _) | (with_reducible refine Kd.C_drewN ?_ _) | (with_reducible refine Kd.C_drew ?_)))
        (case side2 => exact (Kd.R_reads' HO839.out).2.1)
        rintro e w29 ⟨rfl, hb⟩
        refine ⟨_, rfl, ?_⟩
        have n0_ := Aside0.mk (Kd.R_below (rp_ HO839.out) hb)
        have n1_ := Aside0.mk (Kd.R_below (rp_ HO846.out) hb)
        have n2_ := Aside0.mk (Kd.R_below (rp_ HO852.out) hb)
        have n3_ := Aside0.mk (blk_below (g := gb843) (o := .cells #[.slice Ao11 t837.length co11, .int .i64 t840, .bool t841] 29 (0, 0)) (bp_ BK843.out) hb)
        have n4_ := Aside0.mk (blk_below (g := gb849) (o := .cells #[.slice Ao15 t844.length co15, .int .i64 t847, .bool t848] 29 (0, 0)) (bp_ BK849.out) hb)
        have n5_ := Aside0.mk (below_step (bel_) hb)
        clear HO839
        clear HO846
        clear HO852
        clear BK843
        clear BK849
        clear HB
        have HO839 := n0_
        have HO846 := n1_
        have HO852 := n2_
        have BK843 := n3_
        have BK849 := n4_
        have HB := n5_
        clear n0_ n1_ n2_ n3_ n4_ n5_
        (try clear hb)
        (try clear hb2)
        (try clear hk)
        (try clear hi)
        refine hK.out _ _ ⟨(blk_cell BK849.out 0).trans rfl, (blk_cell BK849.out 1).trans rfl, (blk_cell BK849.out 2).trans rfl, (blk_cell BK843.out 0).trans rfl, (blk_cell BK843.out 1).trans rfl, (blk_cell BK843.out 2).trans rfl⟩ (fun hHeld => ?_)
        clear hK K
        refine no_ ?_
        refine pa_ 9 34 ?_
        refine pa_ 10 35 ?_
        refine pa_ 11 36 ?_
        refine pa_ 12 37 ?_
        refine pa_ 13 38 ?_
        refine pa_ 14 39 ?_
        refine pa_ 15 40 ?_
        refine po_ 16 41 ?_
        refine po_ 17 42 ?_
        refine pa_ 18 43 ?_
        refine done_ (done_of HT_.out (by kernel_rfl)) ?_
        try go_wp2
        go_meet
        case rel => exact ⟨_, (true), (si_), H', ⟨by have := HJ2.out; first | omega | exact Nat.le_refl _⟩, ⟨by (with_reducible repeat (first | apply Kd.R_alloc | apply Kd.R_drewN | apply Kd.R_drew)); exact Kd.R_mono HO839.out (fun _ hk => hk.1)⟩, ⟨by (with_reducible repeat (first | apply Kd.R_alloc | apply Kd.R_drewN | apply Kd.R_drew)); exact Kd.R_mono HO846.out (fun _ hk => hk.1)⟩, ⟨by (with_reducible repeat (first | refine blk_drewN ?_ _ | refine blk_drew ?_ | refine blk_alloc ?_ _)); exact BK843.out⟩, ⟨by (with_reducible repeat (first | refine blk_drewN ?_ _ | refine blk_drew ?_ | refine blk_alloc ?_ _)); exact BK849.out⟩, ⟨bel_⟩⟩
       ·rw [if_neg c23] at H
        have c23b0 : decide (t842 < 0) = false := decide_eq_false c23
        clear c23
        (first | rw [c23b0] | (simp only [i64_w, i32_w]; rw [c23b0]) | skip)
        have H' := Aside0.mk H
        clear H
        try go_wp2
        have n0_ : Aside0 (Kd.R k56 56 (((w14.setCell ⟨gb849, 0, none⟩ (.slice Ao15 t844.length co15)).setCell ⟨gb849, 1, none⟩ (.int .i64 t847)).setCell ⟨gb849, 2, none⟩ (.bool t848)) w.heap.size (fun k_ => some k_ ≠ (.slice Ao15 t844.length co15 : Value).ownBlock) (.slice Ao11 t837.length co11) t837) := ⟨by (with_reducible repeat (first | apply Kd.R_alloc | apply Kd.R_drewN | apply Kd.R_drew)); exact Kd.R_mono (Kd.R_far (p := ⟨gb849, 2, none⟩) (Kd.R_far (p := ⟨gb849, 1, none⟩) (Kd.R_far (p := ⟨gb849, 0, none⟩) (Kd.R_types HO839.out BK849.out (by decide)) (fun _ hk => hk.2) (.slice Ao15 t844.length co15)) (fun _ hk => hk.2) (.int .i64 t847)) (fun _ hk => hk.2) (.bool t848)) (fun _ hk => hk.1.2)⟩
        have n1_ : Aside0 (Kd.R k56 56 (((w14.setCell ⟨gb849, 0, none⟩ (.slice Ao15 t844.length co15)).setCell ⟨gb849, 1, none⟩ (.int .i64 t847)).setCell ⟨gb849, 2, none⟩ (.bool t848)) w.heap.size (fun k_ => some k_ ≠ (.slice Ao11 t837.length co11 : Value).ownBlock) (.slice Ao15 t844.length co15) t844) := ⟨by (with_reducible repeat (first | apply Kd.R_alloc | apply Kd.R_drewN | apply Kd.R_drew)); exact Kd.R_mono (Kd.R_far (p := ⟨gb849, 2, none⟩) (Kd.R_far (p := ⟨gb849, 1, none⟩) (Kd.R_far (p := ⟨gb849, 0, none⟩) (Kd.R_types HO846.out BK849.out (by decide)) (fun _ hk => hk.2) (.slice Ao15 t844.length co15)) (fun _ hk => hk.2) (.int .i64 t847)) (fun _ hk => hk.2) (.bool t848)) (fun _ hk => hk.1.2)⟩
        have n2_ : Aside0 ((((w14.setCell ⟨gb849, 0, none⟩ (.slice Ao15 t844.length co15)).setCell ⟨gb849, 1, none⟩ (.int .i64 t847)).setCell ⟨gb849, 2, none⟩ (.bool t848)).heap[gb843]? = some (.cells #[.slice Ao11 t837.length co11, .int .i64 t840, .bool t841] 29 (0, 0))) := ⟨by (with_reducible repeat (first | refine blk_drewN ?_ _ | refine blk_drew ?_ | refine blk_alloc ?_ _)); refine blk_far ?_ NB843_849.out _; (with_reducible repeat (first | refine blk_drewN ?_ _ | refine blk_drew ?_ | refine blk_alloc ?_ _)); refine blk_far ?_ NB843_849.out _; (with_reducible repeat (first | refine blk_drewN ?_ _ | refine blk_drew ?_ | refine blk_alloc ?_ _)); refine blk_far ?_ NB843_849.out _; (with_reducible repeat (first | refine blk_drewN ?_ _ | refine blk_drew ?_ | refine blk_alloc ?_ _)); exact BK843.out⟩
        have n3_ : Aside0 ((((w14.setCell ⟨gb849, 0, none⟩ (.slice Ao15 t844.length co15)).setCell ⟨gb849, 1, none⟩ (.int .i64 t847)).setCell ⟨gb849, 2, none⟩ (.bool t848)).heap[gb849]? = some (.cells #[.slice Ao15 t844.length co15, .int .i64 t847, .bool t848] 29 (0, 0))) := ⟨by (with_reducible repeat (first | refine blk_drewN ?_ _ | refine blk_drew ?_ | refine blk_alloc ?_ _)); refine blk_put (cs := #[.slice Ao15 t844.length co15, .int .i64 t847, .bool false]) ?_ 2 _ rfl; (with_reducible repeat (first | refine blk_drewN ?_ _ | refine blk_drew ?_ | refine blk_alloc ?_ _)); refine blk_put (cs := #[.slice Ao15 t844.length co15, .int .i64 0, .bool false]) ?_ 1 _ rfl; (with_reducible repeat (first | refine blk_drewN ?_ _ | refine blk_drew ?_ | refine blk_alloc ?_ _)); refine blk_put (cs := #[.slice none 0 0, .int .i64 0, .bool false]) ?_ 0 _ rfl; (with_reducible repeat (first | refine blk_drewN ?_ _ | refine blk_drew ?_ | refine blk_alloc ?_ _)); exact BK849.out⟩
        have n4_ : Aside0 (Below w.heap.size w (((w14.setCell ⟨gb849, 0, none⟩ (.slice Ao15 t844.length co15)).setCell ⟨gb849, 1, none⟩ (.int .i64 t847)).setCell ⟨gb849, 2, none⟩ (.bool t848))) := ⟨bel_⟩
        (try clear HO839)
        (try clear HO846)
        (try clear BK843)
        (try clear BK849)
        (try clear HB)
        generalize (((w14.setCell ⟨gb849, 0, none⟩ (.slice Ao15 t844.length co15)).setCell ⟨gb849, 1, none⟩ (.int .i64 t847)).setCell ⟨gb849, 2, none⟩ (.bool t848)) = w30 at n0_ n1_ n2_ n3_ n4_ ⊢
        have HO839 := n0_
        have HO846 := n1_
        have BK843 := n2_
        have BK849 := n3_
        have HB := n4_
        clear n0_ n1_ n2_ n3_ n4_
        have n0_ := Aside0.mk (Kd.R_drew HO839.out)
        have n1_ := Aside0.mk (Kd.R_drew HO846.out)
        have n2_ := Aside0.mk (blk_drew BK843.out)
        have n3_ := Aside0.mk (blk_drew BK849.out)
        have n4_ := Aside0.mk (below_drew1 HB.out)
        clear HO839
        clear HO846
        clear BK843
        clear BK849
        clear HB
        have HO839 := n0_
        have HO846 := n1_
        have BK843 := n2_
        have BK849 := n3_
        have HB := n4_
        clear n0_ n1_ n2_ n3_ n4_
        refine start_ (n := 19) (S := fun w' => w'.cell? ⟨gb849, 0, none⟩ = some (.slice Ao15 t844.length co15) ∧ w'.cell? ⟨gb849, 1, none⟩ = some (.int .i64 t847) ∧ w'.cell? ⟨gb849, 2, none⟩ = some (.bool t848) ∧ w'.cell? ⟨gb843, 0, none⟩ = some (.slice Ao11 t837.length co11) ∧ w'.cell? ⟨gb843, 1, none⟩ = some (.int .i64 t840) ∧ w'.cell? ⟨gb843, 2, none⟩ = some (.bool t841)) (ds := []) #[false, false, false, false, false, false, false, false, false, false, false, false, false, false, false, false, false, false, false] (by kernel_rfl) rfl rfl ⟨(blk_cell BK849.out 0).trans rfl, (blk_cell BK849.out 1).trans rfl, (blk_cell BK849.out 2).trans rfl, (blk_cell BK843.out 0).trans rfl, (blk_cell BK843.out 1).trans rfl, (blk_cell BK843.out 2).trans rfl⟩ (fun hHeld => ?_); refine with_tabW laws_FnFallNews.tab5 laws_FnFallNews.bits5 (fun HT_ HW_ => ?_)
        generalize w30.drew = w31 at HO839 HO846 BK843 BK849 HB hHeld ⊢
        refine pa_ 2 27 ?_
        refine ta6_ 0 25 hHeld ?_
        refine ta6_ 1 26 hHeld ?_
        refine on_ 3 28 (fun K hK => ?_)
        refine goes_ Tryd.func29 (by kernel_rfl) rfl #[.agg #[.slice Ao11 t837.length co11, .int .i64 t840, .bool t841], .int .i64 t842] (by rfl) rfl rfl ar_ ?_
        with_reducible refine (spec_ServerFall.calls kj2 _ _ t837 t840 t841 t842 t850 t853 t854 _ ?side1 ?side2 A18.out).mono ?_
        (case side1 => repeat (first | exact (Kd.R_reads' HO839.out).2.2 | (with_reducible refine Kd.C_alloc ?_ _) | (with_reducible refine Kd.C_drewN ?_ _) | (with_reducible refine Kd.C_drew ?_)))
        (case side2 => exact (Kd.R_reads' HO839.out).2.1)
        rintro e w32 ⟨v851, rfl, ho0, hb⟩
        refine ⟨_, rfl, ?_⟩
        have n0_ := Aside0.mk (Kd.R_elder' (rp_ HO839.out) (Kd.R_base ho0) hb)
        have n1_ := Aside0.mk (Kd.R_elder' (rp_ HO846.out) (Kd.R_base ho0) hb)
        have n2_ := Aside0.mk (Kd.R_lower (Kd.R_new' (Kd.R_new' ho0 (Kd.R_lt (rp_ HO839.out))) (Kd.R_lt (rp_ HO846.out))) (below_size (bel_)))
        have n3_ := Aside0.mk (blk_below (g := gb843) (o := .cells #[.slice Ao11 t837.length co11, .int .i64 t840, .bool t841] 29 (0, 0)) (bp_ BK843.out) hb)
        have n4_ := Aside0.mk (blk_below (g := gb849) (o := .cells #[.slice Ao15 t844.length co15, .int .i64 t847, .bool t848] 29 (0, 0)) (bp_ BK849.out) hb)
        have n5_ := Aside0.mk (below_step (bel_) hb)
        clear HO839
        clear HO846
        clear BK843
        clear BK849
        clear HB
        have HO839 := n0_
        have HO846 := n1_
        have HO852 := n2_
        have BK843 := n3_
        have BK849 := n4_
        have HB := n5_
        clear n0_ n1_ n2_ n3_ n4_ n5_
        (try clear hb)
        (try clear hb2)
        (try clear hk)
        (try clear hi)
        (try clear ho0)
        obtain ⟨Ao33, co33, eo33⟩ := Kd.R_slice HO852.out
        (first | subst eo33 | (injection eo33 with f1_ f2_ f3_; have f4_ := f1_.symm; have f5_ := f3_.symm; clear f1_ f2_ f3_; subst f4_; subst f5_))
        refine hK.out _ _ ⟨(blk_cell BK849.out 0).trans rfl, (blk_cell BK849.out 1).trans rfl, (blk_cell BK849.out 2).trans rfl, (blk_cell BK843.out 0).trans rfl, (blk_cell BK843.out 1).trans rfl, (blk_cell BK843.out 2).trans rfl⟩ (fun hHeld => ?_)
        clear hK K
        refine no_ ?_
        refine on_ 4 29 (fun K hK => ?_)
        refine goes_ Tryd.func37 (by kernel_rfl) rfl #[.agg #[.slice Ao15 t844.length co15, .int .i64 t847, .bool t848], .agg #[.slice Ao33 t850.length co33, .int .i64 t853, .bool t854]] (by rfl) rfl rfl ar_ ?_
        with_reducible refine (laws_lpServer.calls kj2 _ _ t844 t847 t848 _ _ t850 t853 t854 true _ ?side1 ?side2 ?side3 ?side4 A19.out).mono ?_
        (case side1 => repeat (first | exact (Kd.R_reads' HO846.out).2.2 | (with_reducible refine Kd.C_alloc ?_ _) | (with_reducible refine Kd.C_drewN ?_ _) | (with_reducible refine Kd.C_drew ?_)))
        (case side2 => exact (Kd.R_reads' HO846.out).2.1)
        (case side3 => repeat (first | exact (Kd.R_reads' HO852.out).2.2 | (with_reducible refine Kd.C_alloc ?_ _) | (with_reducible refine Kd.C_drewN ?_ _) | (with_reducible refine Kd.C_drew ?_)))
        (case side4 => exact (Kd.R_reads' HO852.out).2.1)
        rintro e w34 ⟨rfl, hb⟩
        refine ⟨_, rfl, ?_⟩
        have n0_ := Aside0.mk (Kd.R_below (rp_ HO839.out) hb)
        have n1_ := Aside0.mk (Kd.R_below (rp_ HO846.out) hb)
        have n2_ := Aside0.mk (Kd.R_below (rp_ HO852.out) hb)
        have n3_ := Aside0.mk (blk_below (g := gb843) (o := .cells #[.slice Ao11 t837.length co11, .int .i64 t840, .bool t841] 29 (0, 0)) (bp_ BK843.out) hb)
        have n4_ := Aside0.mk (blk_below (g := gb849) (o := .cells #[.slice Ao15 t844.length co15, .int .i64 t847, .bool t848] 29 (0, 0)) (bp_ BK849.out) hb)
        have n5_ := Aside0.mk (below_step (bel_) hb)
        clear HO839
        clear HO846
        clear HO852
        clear BK843
        clear BK849
        clear HB
        have HO839 := n0_
        have HO846 := n1_
        have HO852 := n2_
        have BK843 := n3_
        have BK849 := n4_
        have HB := n5_
        clear n0_ n1_ n2_ n3_ n4_ n5_
        (try clear hb)
        (try clear hb2)
        (try clear hk)
        (try clear hi)
        refine hK.out _ _ ⟨(blk_cell BK849.out 0).trans rfl, (blk_cell BK849.out 1).trans rfl, (blk_cell BK849.out 2).trans rfl, (blk_cell BK843.out 0).trans rfl, (blk_cell BK843.out 1).trans rfl, (blk_cell BK843.out 2).trans rfl⟩ (fun hHeld => ?_)
        clear hK K
        refine no_ ?_
        refine pa_ 5 30 ?_
        refine pa_ 6 31 ?_
        refine ta6_ 7 32 hHeld ?_
        refine on_ 8 33 (fun K hK => ?_)
        refine goes_ Tryd.func27 (by kernel_rfl) rfl #[.agg #[.slice Ao11 t837.length co11, .int .i64 t840, .bool t841]] (by rfl) rfl rfl ar_ ?_
        with_reducible refine (spec_ServerOk.calls kj2 _ _ t837 t840 t841 true _ ?side1 ?side2 A21.out).mono ?_
        (case side1 => repeat (first | exact (Kd.R_reads' HO839.out).2.2 | (with_reducible refine Kd.C_alloc ?_ _) | (with_reducible refine Kd.C_drewN ?_ _) | (with_reducible refine Kd.C_drew ?_)))
        (case side2 => exact (Kd.R_reads' HO839.out).2.1)
        rintro e w35 ⟨rfl, hb⟩
        refine ⟨_, rfl, ?_⟩
        have n0_ := Aside0.mk (Kd.R_below (rp_ HO839.out) hb)
        have n1_ := Aside0.mk (Kd.R_below (rp_ HO846.out) hb)
        have n2_ := Aside0.mk (Kd.R_below (rp_ HO852.out) hb)
        have n3_ := Aside0.mk (blk_below (g := gb843) (o := .cells #[.slice Ao11 t837.length co11, .int .i64 t840, .bool t841] 29 (0, 0)) (bp_ BK843.out) hb)
        have n4_ := Aside0.mk (blk_below (g := gb849) (o := .cells #[.slice Ao15 t844.length co15, .int .i64 t847, .bool t848] 29 (0, 0)) (bp_ BK849.out) hb)
        have n5_ := Aside0.mk (below_step (bel_) hb)
        clear HO839
        clear HO846
        clear HO852
        clear BK843
        clear BK849
        clear HB
        have HO839 := n0_
        have HO846 := n1_
        have HO852 := n2_
        have BK843 := n3_
        have BK849 := n4_
        have HB := n5_
        clear n0_ n1_ n2_ n3_ n4_ n5_
        (try clear hb)
        (try clear hb2)
        (try clear hk)
        (try clear hi)
        refine hK.out _ _ ⟨(blk_cell BK849.out 0).trans rfl, (blk_cell BK849.out 1).trans rfl, (blk_cell BK849.out 2).trans rfl, (blk_cell BK843.out 0).trans rfl, (blk_cell BK843.out 1).trans rfl, (blk_cell BK843.out 2).trans rfl⟩ (fun hHeld => ?_)
        clear hK K
        refine no_ ?_
        refine pa_ 9 34 ?_
        refine pa_ 10 35 ?_
        refine pa_ 11 36 ?_
        refine pa_ 12 37 ?_
        refine pa_ 13 38 ?_
        refine pa_ 14 39 ?_
        refine pa_ 15 40 ?_
        refine pa_ 16 41 ?_
        refine pa_ 17 42 ?_
        refine pa_ 18 43 ?_
        refine done_ (done_of HT_.out (by kernel_rfl)) ?_
        try go_wp2
        go_meet
        case rel => exact ⟨_, (decide (t842 > 40)), (si_), H', ⟨by have := HJ2.out; first | omega | exact Nat.le_refl _⟩, ⟨by (with_reducible repeat (first | apply Kd.R_alloc | apply Kd.R_drewN | apply Kd.R_drew)); exact Kd.R_mono HO839.out (fun _ hk => hk.1)⟩, ⟨by (with_reducible repeat (first | apply Kd.R_alloc | apply Kd.R_drewN | apply Kd.R_drew)); exact Kd.R_mono HO846.out (fun _ hk => hk.1)⟩, ⟨by (with_reducible repeat (first | refine blk_drewN ?_ _ | refine blk_drew ?_ | refine blk_alloc ?_ _)); exact BK843.out⟩, ⟨by (with_reducible repeat (first | refine blk_drewN ?_ _ | refine blk_drew ?_ | refine blk_alloc ?_ _)); exact BK849.out⟩, ⟨bel_⟩⟩
      ·replace c22 := Bool.eq_false_iff.mpr c22
       subst c22
       have H1 : (laws_FnFallNews.j1 kj2 l1 t842 true t837 t840 t841 t844 t847 t848) = some r := by rw [if_neg (show ¬ (false = true) by decide)] at H; exact H
       clear H
       have H := H1
       clear H1
       have H' := Aside0.mk H
       clear H
       try go_wp2
       have n0_ : Aside0 (Kd.R k56 56 (((w14.setCell ⟨gb849, 0, none⟩ (.slice Ao15 t844.length co15)).setCell ⟨gb849, 1, none⟩ (.int .i64 t847)).setCell ⟨gb849, 2, none⟩ (.bool t848)) w.heap.size (fun k_ => some k_ ≠ (.slice Ao15 t844.length co15 : Value).ownBlock) (.slice Ao11 t837.length co11) t837) := ⟨by (with_reducible repeat (first | apply Kd.R_alloc | apply Kd.R_drewN | apply Kd.R_drew)); exact Kd.R_mono (Kd.R_far (p := ⟨gb849, 2, none⟩) (Kd.R_far (p := ⟨gb849, 1, none⟩) (Kd.R_far (p := ⟨gb849, 0, none⟩) (Kd.R_types HO839.out BK849.out (by decide)) (fun _ hk => hk.2) (.slice Ao15 t844.length co15)) (fun _ hk => hk.2) (.int .i64 t847)) (fun _ hk => hk.2) (.bool t848)) (fun _ hk => hk.1.2)⟩
       have n1_ : Aside0 (Kd.R k56 56 (((w14.setCell ⟨gb849, 0, none⟩ (.slice Ao15 t844.length co15)).setCell ⟨gb849, 1, none⟩ (.int .i64 t847)).setCell ⟨gb849, 2, none⟩ (.bool t848)) w.heap.size (fun k_ => some k_ ≠ (.slice Ao11 t837.length co11 : Value).ownBlock) (.slice Ao15 t844.length co15) t844) := ⟨by (with_reducible repeat (first | apply Kd.R_alloc | apply Kd.R_drewN | apply Kd.R_drew)); exact Kd.R_mono (Kd.R_far (p := ⟨gb849, 2, none⟩) (Kd.R_far (p := ⟨gb849, 1, none⟩) (Kd.R_far (p := ⟨gb849, 0, none⟩) (Kd.R_types HO846.out BK849.out (by decide)) (fun _ hk => hk.2) (.slice Ao15 t844.length co15)) (fun _ hk => hk.2) (.int .i64 t847)) (fun _ hk => hk.2) (.bool t848)) (fun _ hk => hk.1.2)⟩
       have n2_ : Aside0 ((((w14.setCell ⟨gb849, 0, none⟩ (.slice Ao15 t844.length co15)).setCell ⟨gb849, 1, none⟩ (.int .i64 t847)).setCell ⟨gb849, 2, none⟩ (.bool t848)).heap[gb843]? = some (.cells #[.slice Ao11 t837.length co11, .int .i64 t840, .bool t841] 29 (0, 0))) := ⟨by (with_reducible repeat (first | refine blk_drewN ?_ _ | refine blk_drew ?_ | refine blk_alloc ?_ _)); refine blk_far ?_ NB843_849.out _; (with_reducible repeat (first | refine blk_drewN ?_ _ | refine blk_drew ?_ | refine blk_alloc ?_ _)); refine blk_far ?_ NB843_849.out _; (with_reducible repeat (first | refine blk_drewN ?_ _ | refine blk_drew ?_ | refine blk_alloc ?_ _)); refine blk_far ?_ NB843_849.out _; (with_reducible repeat (first | refine blk_drewN ?_ _ | refine blk_drew ?_ | refine blk_alloc ?_ _)); exact BK843.out⟩
       have n3_ : Aside0 ((((w14.setCell ⟨gb849, 0, none⟩ (.slice Ao15 t844.length co15)).setCell ⟨gb849, 1, none⟩ (.int .i64 t847)).setCell ⟨gb849, 2, none⟩ (.bool t848)).heap[gb849]? = some (.cells #[.slice Ao15 t844.length co15, .int .i64 t847, .bool t848] 29 (0, 0))) := ⟨by (with_reducible repeat (first | refine blk_drewN ?_ _ | refine blk_drew ?_ | refine blk_alloc ?_ _)); refine blk_put (cs := #[.slice Ao15 t844.length co15, .int .i64 t847, .bool false]) ?_ 2 _ rfl; (with_reducible repeat (first | refine blk_drewN ?_ _ | refine blk_drew ?_ | refine blk_alloc ?_ _)); refine blk_put (cs := #[.slice Ao15 t844.length co15, .int .i64 0, .bool false]) ?_ 1 _ rfl; (with_reducible repeat (first | refine blk_drewN ?_ _ | refine blk_drew ?_ | refine blk_alloc ?_ _)); refine blk_put (cs := #[.slice none 0 0, .int .i64 0, .bool false]) ?_ 0 _ rfl; (with_reducible repeat (first | refine blk_drewN ?_ _ | refine blk_drew ?_ | refine blk_alloc ?_ _)); exact BK849.out⟩
       have n4_ : Aside0 (Below w.heap.size w (((w14.setCell ⟨gb849, 0, none⟩ (.slice Ao15 t844.length co15)).setCell ⟨gb849, 1, none⟩ (.int .i64 t847)).setCell ⟨gb849, 2, none⟩ (.bool t848))) := ⟨bel_⟩
       (try clear HO839)
       (try clear HO846)
       (try clear BK843)
       (try clear BK849)
       (try clear HB)
       generalize (((w14.setCell ⟨gb849, 0, none⟩ (.slice Ao15 t844.length co15)).setCell ⟨gb849, 1, none⟩ (.int .i64 t847)).setCell ⟨gb849, 2, none⟩ (.bool t848)) = w36 at n0_ n1_ n2_ n3_ n4_ ⊢
       have HO839 := n0_
       have HO846 := n1_
       have BK843 := n2_
       have BK849 := n3_
       have HB := n4_
       clear n0_ n1_ n2_ n3_ n4_
       have n0_ := Aside0.mk (Kd.R_drew HO839.out)
       have n1_ := Aside0.mk (Kd.R_drew HO846.out)
       have n2_ := Aside0.mk (blk_drew BK843.out)
       have n3_ := Aside0.mk (blk_drew BK849.out)
       have n4_ := Aside0.mk (below_drew1 HB.out)
       clear HO839
       clear HO846
       clear BK843
       clear BK849
       clear HB
       have HO839 := n0_
       have HO846 := n1_
       have BK843 := n2_
       have BK849 := n3_
       have HB := n4_
       clear n0_ n1_ n2_ n3_ n4_
       refine start_ (n := 19) (S := fun w' => w'.cell? ⟨gb849, 0, none⟩ = some (.slice Ao15 t844.length co15) ∧ w'.cell? ⟨gb849, 1, none⟩ = some (.int .i64 t847) ∧ w'.cell? ⟨gb849, 2, none⟩ = some (.bool t848) ∧ w'.cell? ⟨gb843, 0, none⟩ = some (.slice Ao11 t837.length co11) ∧ w'.cell? ⟨gb843, 1, none⟩ = some (.int .i64 t840) ∧ w'.cell? ⟨gb843, 2, none⟩ = some (.bool t841)) (ds := []) #[false, false, false, false, false, false, false, false, false, false, false, false, false, false, false, false, false, false, false] (by kernel_rfl) rfl rfl ⟨(blk_cell BK849.out 0).trans rfl, (blk_cell BK849.out 1).trans rfl, (blk_cell BK849.out 2).trans rfl, (blk_cell BK843.out 0).trans rfl, (blk_cell BK843.out 1).trans rfl, (blk_cell BK843.out 2).trans rfl⟩ (fun hHeld => ?_); refine with_tabW laws_FnFallNews.tab5 laws_FnFallNews.bits5 (fun HT_ HW_ => ?_)
       generalize w36.drew = w37 at HO839 HO846 BK843 BK849 HB hHeld ⊢
       refine pa_ 2 27 ?_
       refine ta6_ 0 25 hHeld ?_
       refine ta6_ 1 26 hHeld ?_
       refine on_ 3 28 (fun K hK => ?_)
       refine goes_ Tryd.func29 (by kernel_rfl) rfl #[.agg #[.slice Ao11 t837.length co11, .int .i64 t840, .bool t841], .int .i64 t842] (by rfl) rfl rfl ar_ ?_
       with_reducible refine (spec_ServerFall.calls kj2 _ _ t837 t840 t841 t842 t850 t853 t854 _ ?side1 ?side2 A18.out).mono ?_
       (case side1 => repeat (first | exact (Kd.R_reads' HO839.out).2.2 | (with_reducible refine Kd.C_alloc ?_ _) | (with_reducible refine Kd.C_drewN ?_ _) | (with_reducible refine Kd.C_drew ?_)))
       (case side2 => exact (Kd.R_reads' HO839.out).2.1)
       rintro e w38 ⟨v851, rfl, ho0, hb⟩
       refine ⟨_, rfl, ?_⟩
       have n0_ := Aside0.mk (Kd.R_elder' (rp_ HO839.out) (Kd.R_base ho0) hb)
       have n1_ := Aside0.mk (Kd.R_elder' (rp_ HO846.out) (Kd.R_base ho0) hb)
       have n2_ := Aside0.mk (Kd.R_lower (Kd.R_new' (Kd.R_new' ho0 (Kd.R_lt (rp_ HO839.out))) (Kd.R_lt (rp_ HO846.out))) (below_size (bel_)))
       have n3_ := Aside0.mk (blk_below (g := gb843) (o := .cells #[.slice Ao11 t837.length co11, .int .i64 t840, .bool t841] 29 (0, 0)) (bp_ BK843.out) hb)
       have n4_ := Aside0.mk (blk_below (g := gb849) (o := .cells #[.slice Ao15 t844.length co15, .int .i64 t847, .bool t848] 29 (0, 0)) (bp_ BK849.out) hb)
       have n5_ := Aside0.mk (below_step (bel_) hb)
       clear HO839
       clear HO846
       clear BK843
       clear BK849
       clear HB
       have HO839 := n0_
       have HO846 := n1_
       have HO852 := n2_
       have BK843 := n3_
       have BK849 := n4_
       have HB := n5_
       clear n0_ n1_ n2_ n3_ n4_ n5_
       (try clear hb)
       (try clear hb2)
       (try clear hk)
       (try clear hi)
       (try clear ho0)
       obtain ⟨Ao39, co39, eo39⟩ := Kd.R_slice HO852.out
       (first | subst eo39 | (injection eo39 with f1_ f2_ f3_; have f4_ := f1_.symm; have f5_ := f3_.symm; clear f1_ f2_ f3_; subst f4_; subst f5_))
       refine hK.out _ _ ⟨(blk_cell BK849.out 0).trans rfl, (blk_cell BK849.out 1).trans rfl, (blk_cell BK849.out 2).trans rfl, (blk_cell BK843.out 0).trans rfl, (blk_cell BK843.out 1).trans rfl, (blk_cell BK843.out 2).trans rfl⟩ (fun hHeld => ?_)
       clear hK K
       refine no_ ?_
       refine on_ 4 29 (fun K hK => ?_)
       refine goes_ Tryd.func37 (by kernel_rfl) rfl #[.agg #[.slice Ao15 t844.length co15, .int .i64 t847, .bool t848], .agg #[.slice Ao39 t850.length co39, .int .i64 t853, .bool t854]] (by rfl) rfl rfl ar_ ?_
       with_reducible refine (laws_lpServer.calls kj2 _ _ t844 t847 t848 _ _ t850 t853 t854 true _ ?side1 ?side2 ?side3 ?side4 A19.out).mono ?_
       (case side1 => repeat (first | exact (Kd.R_reads' HO846.out).2.2 | (with_reducible refine Kd.C_alloc ?_ _) | (with_reducible refine Kd.C_drewN ?_ _) | (with_reducible refine Kd.C_drew ?_)))
       (case side2 => exact (Kd.R_reads' HO846.out).2.1)
       (case side3 => repeat (first | exact (Kd.R_reads' HO852.out).2.2 | (with_reducible refine Kd.C_alloc ?_ _) | (with_reducible refine Kd.C_drewN ?_ _) | (with_reducible refine Kd.C_drew ?_)))
       (case side4 => exact (Kd.R_reads' HO852.out).2.1)
       rintro e w40 ⟨rfl, hb⟩
       refine ⟨_, rfl, ?_⟩
       have n0_ := Aside0.mk (Kd.R_below (rp_ HO839.out) hb)
       have n1_ := Aside0.mk (Kd.R_below (rp_ HO846.out) hb)
       have n2_ := Aside0.mk (Kd.R_below (rp_ HO852.out) hb)
       have n3_ := Aside0.mk (blk_below (g := gb843) (o := .cells #[.slice Ao11 t837.length co11, .int .i64 t840, .bool t841] 29 (0, 0)) (bp_ BK843.out) hb)
       have n4_ := Aside0.mk (blk_below (g := gb849) (o := .cells #[.slice Ao15 t844.length co15, .int .i64 t847, .bool t848] 29 (0, 0)) (bp_ BK849.out) hb)
       have n5_ := Aside0.mk (below_step (bel_) hb)
       clear HO839
       clear HO846
       clear HO852
       clear BK843
       clear BK849
       clear HB
       have HO839 := n0_
       have HO846 := n1_
       have HO852 := n2_
       have BK843 := n3_
       have BK849 := n4_
       have HB := n5_
       clear n0_ n1_ n2_ n3_ n4_ n5_
       (try clear hb)
       (try clear hb2)
       (try clear hk)
       (try clear hi)
       refine hK.out _ _ ⟨(blk_cell BK849.out 0).trans rfl, (blk_cell BK849.out 1).trans rfl, (blk_cell BK849.out 2).trans rfl, (blk_cell BK843.out 0).trans rfl, (blk_cell BK843.out 1).trans rfl, (blk_cell BK843.out 2).trans rfl⟩ (fun hHeld => ?_)
       clear hK K
       refine no_ ?_
       refine pa_ 5 30 ?_
       refine pa_ 6 31 ?_
       refine ta6_ 7 32 hHeld ?_
       refine on_ 8 33 (fun K hK => ?_)
       refine goes_ Tryd.func27 (by kernel_rfl) rfl #[.agg #[.slice Ao11 t837.length co11, .int .i64 t840, .bool t841]] (by rfl) rfl rfl ar_ ?_
       with_reducible refine (spec_ServerOk.calls kj2 _ _ t837 t840 t841 false _ ?side1 ?side2 A21.out).mono ?_
       (case side1 => repeat (first | exact (Kd.R_reads' HO839.out).2.2 | (with_reducible refine Kd.C_alloc ?_ _) | (with_reducible refine Kd.C_drewN ?_ _) | (with_reducible refine Kd.C_drew ?_)))
       (case side2 => exact (Kd.R_reads' HO839.out).2.1)
       rintro e w41 ⟨rfl, hb⟩
       refine ⟨_, rfl, ?_⟩
       have n0_ := Aside0.mk (Kd.R_below (rp_ HO839.out) hb)
       have n1_ := Aside0.mk (Kd.R_below (rp_ HO846.out) hb)
       have n2_ := Aside0.mk (Kd.R_below (rp_ HO852.out) hb)
       have n3_ := Aside0.mk (blk_below (g := gb843) (o := .cells #[.slice Ao11 t837.length co11, .int .i64 t840, .bool t841] 29 (0, 0)) (bp_ BK843.out) hb)
       have n4_ := Aside0.mk (blk_below (g := gb849) (o := .cells #[.slice Ao15 t844.length co15, .int .i64 t847, .bool t848] 29 (0, 0)) (bp_ BK849.out) hb)
       have n5_ := Aside0.mk (below_step (bel_) hb)
       clear HO839
       clear HO846
       clear HO852
       clear BK843
       clear BK849
       clear HB
       have HO839 := n0_
       have HO846 := n1_
       have HO852 := n2_
       have BK843 := n3_
       have BK849 := n4_
       have HB := n5_
       clear n0_ n1_ n2_ n3_ n4_ n5_
       (try clear hb)
       (try clear hb2)
       (try clear hk)
       (try clear hi)
       refine hK.out _ _ ⟨(blk_cell BK849.out 0).trans rfl, (blk_cell BK849.out 1).trans rfl, (blk_cell BK849.out 2).trans rfl, (blk_cell BK843.out 0).trans rfl, (blk_cell BK843.out 1).trans rfl, (blk_cell BK843.out 2).trans rfl⟩ (fun hHeld => ?_)
       clear hK K
       refine no_ ?_
       refine pa_ 9 34 ?_
       refine pa_ 10 35 ?_
       refine pa_ 11 36 ?_
       refine po_ 12 37 ?_
       refine po_ 13 38 ?_
       refine pa_ 14 39 ?_
       refine pa_ 15 40 ?_
       refine po_ 16 41 ?_
       refine po_ 17 42 ?_
       refine pa_ 18 43 ?_
       refine done_ (done_of HT_.out (by kernel_rfl)) ?_
       try go_wp2
       go_meet
       case rel => exact ⟨_, (true), (si_), H', ⟨by have := HJ2.out; first | omega | exact Nat.le_refl _⟩, ⟨by (with_reducible repeat (first | apply Kd.R_alloc | apply Kd.R_drewN | apply Kd.R_drew)); exact Kd.R_mono HO839.out (fun _ hk => hk.1)⟩, ⟨by (with_reducible repeat (first | apply Kd.R_alloc | apply Kd.R_drewN | apply Kd.R_drew)); exact Kd.R_mono HO846.out (fun _ hk => hk.1)⟩, ⟨by (with_reducible repeat (first | refine blk_drewN ?_ _ | refine blk_drew ?_ | refine blk_alloc ?_ _)); exact BK843.out⟩, ⟨by (with_reducible repeat (first | refine blk_drewN ?_ _ | refine blk_drew ?_ | refine blk_alloc ?_ _)); exact BK849.out⟩, ⟨bel_⟩⟩
     ·replace c20 := Bool.eq_false_iff.mpr c20
      subst c20
      have H1 : (none) = some r := by rw [if_neg (show ¬ (false = true) by decide)] at H; exact H
      clear H
      have H := H1
      clear H1
      exact absurd H (by simp)
    case rest =>
     clear HC8
     try clear c2
     try clear p2
     try clear c3
     try clear c20
     try clear c22
     try clear c23
     try clear c23b0
     try clear c27
     try clear c29
     try clear c37
     obtain ⟨kq, x43_7, rfl, HA, HJ7, HO_844000, HO_850000, BK843, BK849, HB⟩ := hcut
     cases kq with
     | zero => exact absurd HA.out (by simp [laws_FnFallNews.j1])
     | succ kj7 =>
      have H := HA.out
      clear HA
      simp only [laws_FnFallNews.j1] at H
      by_cases c42 : x43_7 = true
      ·subst c42
       have H1 : ((spec_ServerFall.f kj7 t837 t840 t841 t842).bind fun bt857 => ((laws_lpServer.f kj7 t844 t847 t848 bt857.1 bt857.2.1 bt857.2.2).bind fun t862 => (some t862))) = some r := by rw [if_pos rfl] at H; exact H
       clear H
       have H := H1
       clear H1
       replace H := Option.bind_eq_some_iff.mp H
       obtain ⟨⟨t857, t860, t861⟩, A430, H⟩ := H
       replace H : ((laws_lpServer.f kj7 t844 t847 t848 t857 t860 t861).bind fun t862 => (some t862)) = some r := H
       have A43 := Aside0.mk A430
       clear A430
       replace H := Option.bind_eq_some_iff.mp H
       obtain ⟨t862, A440, H⟩ := H
       replace H : (some t862) = some r := H
       have A44 := Aside0.mk A440
       clear A440
       obtain rfl := Option.some.inj H
       try go_wp2
       have n0_ := Aside0.mk (Kd.R_drew HO_844000.out)
       have n1_ := Aside0.mk (Kd.R_drew HO_850000.out)
       have n2_ := Aside0.mk (blk_drew BK843.out)
       have n3_ := Aside0.mk (blk_drew BK849.out)
       have n4_ := Aside0.mk (below_drew1 HB.out)
       clear HO_844000
       clear HO_850000
       clear BK843
       clear BK849
       clear HB
       have HO_844000 := n0_
       have HO_850000 := n1_
       have BK843 := n2_
       have BK849 := n3_
       have HB := n4_
       clear n0_ n1_ n2_ n3_ n4_
       refine start_ (n := 6) (S := fun w' => w'.cell? ⟨gb849, 0, none⟩ = some (.slice Ao15 t844.length co15) ∧ w'.cell? ⟨gb849, 1, none⟩ = some (.int .i64 t847) ∧ w'.cell? ⟨gb849, 2, none⟩ = some (.bool t848) ∧ w'.cell? ⟨gb843, 0, none⟩ = some (.slice Ao11 t837.length co11) ∧ w'.cell? ⟨gb843, 1, none⟩ = some (.int .i64 t840) ∧ w'.cell? ⟨gb843, 2, none⟩ = some (.bool t841)) (ds := []) #[false, false, false, false, false, false] (by kernel_rfl) rfl rfl ⟨(blk_cell BK849.out 0).trans rfl, (blk_cell BK849.out 1).trans rfl, (blk_cell BK849.out 2).trans rfl, (blk_cell BK843.out 0).trans rfl, (blk_cell BK843.out 1).trans rfl, (blk_cell BK843.out 2).trans rfl⟩ (fun hHeld => ?_)
       generalize wc.drew = w45 at HO_844000 HO_850000 BK843 BK849 HB hHeld ⊢
       refine pure_ (i := 2) (N := some 46) (v := ?_) (a' := ?_) #[false, false, true, false, false, false] rfl rfl (by kernel_rfl) (fun _ _ _ h => h) (Or.inl ⟨by rfl, ?_⟩) ?_ ?_
       rotate_left
       ·intro w'
        go_simp
        with_reducible rfl
       rotate_left
       ·simp only [Act.put, List.setIfInBounds_toArray, List.set_cons_zero, List.set_cons_succ, i64_w, i32_w]
        rfl
       refine take_ (i := 0) (N := some 44) (v := ?_) (a' := ?_) #[true, false, true, false, false, false] rfl rfl (by kernel_rfl) (fun _ _ _ h => h) (Or.inl ⟨by rfl, ?_⟩) hHeld ?_ ?_
       rotate_left
       ·rintro w' ⟨s0, s1, s2, s3, s4, s5⟩
        go_simp
        with_reducible rfl
       rotate_left
       ·simp only [Act.put, List.setIfInBounds_toArray, List.set_cons_zero, List.set_cons_succ, i64_w, i32_w]
        rfl
       refine take_ (i := 1) (N := some 45) (v := ?_) (a' := ?_) #[true, true, true, false, false, false] rfl rfl (by kernel_rfl) (fun _ _ _ h => h) (Or.inl ⟨by rfl, ?_⟩) hHeld ?_ ?_
       rotate_left
       ·rintro w' ⟨s0, s1, s2, s3, s4, s5⟩
        go_simp
        with_reducible rfl
       rotate_left
       ·simp only [Act.put, List.setIfInBounds_toArray, List.set_cons_zero, List.set_cons_succ, i64_w, i32_w]
        rfl
       refine one_ (i := 3) (N := some 47) #[true, true, true, true, false, false] rfl rfl (by kernel_rfl) (by decide) (fun K hK => ?_)
       refine goes_ Tryd.func29 (by kernel_rfl) rfl #[.agg #[.slice Ao11 t837.length co11, .int .i64 t840, .bool t841], .int .i64 t842] (by rfl) rfl rfl ar_ ?_
       with_reducible refine (spec_ServerFall.calls kj7 _ _ t837 t840 t841 t842 t857 t860 t861 _ ?side1 ?side2 A43.out).mono ?_
       (case side1 => repeat (first | exact (Kd.R_reads' HO_844000.out).2.2 | (with_reducible refine Kd.C_alloc ?_ _) | (with_reducible refine Kd.C_drewN ?_ _) | (with_reducible refine Kd.C_drew ?_)))
       (case side2 => exact (Kd.R_reads' HO_844000.out).2.1)
       rintro e w46 ⟨v858, rfl, ho0, hb⟩
       refine ⟨_, rfl, ?_⟩
       have n0_ := Aside0.mk (Kd.R_elder' (rp_ HO_844000.out) (Kd.R_base ho0) hb)
       have n1_ := Aside0.mk (Kd.R_elder' (rp_ HO_850000.out) (Kd.R_base ho0) hb)
       have n2_ := Aside0.mk (Kd.R_lower (Kd.R_new' (Kd.R_new' ho0 (Kd.R_lt (rp_ HO_844000.out))) (Kd.R_lt (rp_ HO_850000.out))) (below_size (bel_)))
       have n3_ := Aside0.mk (blk_below (g := gb843) (o := .cells #[.slice Ao11 t837.length co11, .int .i64 t840, .bool t841] 29 (0, 0)) (bp_ BK843.out) hb)
       have n4_ := Aside0.mk (blk_below (g := gb849) (o := .cells #[.slice Ao15 t844.length co15, .int .i64 t847, .bool t848] 29 (0, 0)) (bp_ BK849.out) hb)
       have n5_ := Aside0.mk (below_step (bel_) hb)
       clear HO_844000
       clear HO_850000
       clear BK843
       clear BK849
       clear HB
       have HO_844000 := n0_
       have HO_850000 := n1_
       have HO859 := n2_
       have BK843 := n3_
       have BK849 := n4_
       have HB := n5_
       clear n0_ n1_ n2_ n3_ n4_ n5_
       (try clear hb)
       (try clear hb2)
       (try clear hk)
       (try clear hi)
       (try clear ho0)
       obtain ⟨Ao47, co47, eo47⟩ := Kd.R_slice HO859.out
       (first | subst eo47 | (injection eo47 with f1_ f2_ f3_; have f4_ := f1_.symm; have f5_ := f3_.symm; clear f1_ f2_ f3_; subst f4_; subst f5_))
       refine hK.out _ _ ⟨(blk_cell BK849.out 0).trans rfl, (blk_cell BK849.out 1).trans rfl, (blk_cell BK849.out 2).trans rfl, (blk_cell BK843.out 0).trans rfl, (blk_cell BK843.out 1).trans rfl, (blk_cell BK843.out 2).trans rfl⟩ (fun hHeld => ?_)
       clear hK K
       refine no_ ?_
       refine one_ (i := 4) (N := some 48) #[true, true, true, true, true, false] rfl rfl (by kernel_rfl) (by decide) (fun K hK => ?_)
       refine goes_ Tryd.func37 (by kernel_rfl) rfl #[.agg #[.slice Ao15 t844.length co15, .int .i64 t847, .bool t848], .agg #[.slice Ao47 t857.length co47, .int .i64 t860, .bool t861]] (by rfl) rfl rfl ar_ ?_
       with_reducible refine (laws_lpServer.calls kj7 _ _ t844 t847 t848 _ _ t857 t860 t861 t862 _ ?side1 ?side2 ?side3 ?side4 A44.out).mono ?_
       (case side1 => repeat (first | exact (Kd.R_reads' HO_850000.out).2.2 | (with_reducible refine Kd.C_alloc ?_ _) | (with_reducible refine Kd.C_drewN ?_ _) | (with_reducible refine Kd.C_drew ?_)))
       (case side2 => exact (Kd.R_reads' HO_850000.out).2.1)
       (case side3 => repeat (first | exact (Kd.R_reads' HO859.out).2.2 | (with_reducible refine Kd.C_alloc ?_ _) | (with_reducible refine Kd.C_drewN ?_ _) | (with_reducible refine Kd.C_drew ?_)))
       (case side4 => exact (Kd.R_reads' HO859.out).2.1)
       rintro e w48 ⟨rfl, hb⟩
       refine ⟨_, rfl, ?_⟩
       have n0_ := Aside0.mk (Kd.R_below (rp_ HO_844000.out) hb)
       have n1_ := Aside0.mk (Kd.R_below (rp_ HO_850000.out) hb)
       have n2_ := Aside0.mk (Kd.R_below (rp_ HO859.out) hb)
       have n3_ := Aside0.mk (blk_below (g := gb843) (o := .cells #[.slice Ao11 t837.length co11, .int .i64 t840, .bool t841] 29 (0, 0)) (bp_ BK843.out) hb)
       have n4_ := Aside0.mk (blk_below (g := gb849) (o := .cells #[.slice Ao15 t844.length co15, .int .i64 t847, .bool t848] 29 (0, 0)) (bp_ BK849.out) hb)
       have n5_ := Aside0.mk (below_step (bel_) hb)
       clear HO_844000
       clear HO_850000
       clear HO859
       clear BK843
       clear BK849
       clear HB
       have HO_844000 := n0_
       have HO_850000 := n1_
       have HO859 := n2_
       have BK843 := n3_
       have BK849 := n4_
       have HB := n5_
       clear n0_ n1_ n2_ n3_ n4_ n5_
       (try clear hb)
       (try clear hb2)
       (try clear hk)
       (try clear hi)
       refine hK.out _ _ ⟨(blk_cell BK849.out 0).trans rfl, (blk_cell BK849.out 1).trans rfl, (blk_cell BK849.out 2).trans rfl, (blk_cell BK843.out 0).trans rfl, (blk_cell BK843.out 1).trans rfl, (blk_cell BK843.out 2).trans rfl⟩ (fun hHeld => ?_)
       clear hK K
       refine no_ ?_
       refine pure_ (i := 5) (N := some 4) (v := ?_) (a' := ?_) #[true, true, true, true, true, true] rfl rfl (by kernel_rfl) (fun _ _ _ h => h) (Or.inl ⟨by rfl, ?_⟩) ?_ ?_
       rotate_left
       ·intro w'
        go_simp
        with_reducible rfl
       rotate_left
       ·simp only [Act.put, List.setIfInBounds_toArray, List.set_cons_zero, List.set_cons_succ, i64_w, i32_w]
        rfl
       refine done_ (by kernel_rfl) ?_
       try go_wp2
       go_ret
       exact ⟨fi_, bel_⟩
      ·replace c42 := Bool.eq_false_iff.mpr c42
       subst c42
       have H1 : (if (wrap64 (t840 + 1)) = 0 then (none) else ((impl_ServerNews.f kj7 t844 t847 t848 ((l1.length : Int) % (wrap64 (t840 + 1)))).bind fun t863 => ((impl_ServerNews.f kj7 t837 t840 t841 ((l1.length : Int) % (wrap64 (t840 + 1)))).bind fun t866 => ((laws_lpLog.f kj7 t863 t866).bind fun t869 => (if t869 = true then (some (t848 == t841)) else (none)))))) = some r := by rw [if_neg (show ¬ (false = true) by decide)] at H; exact H
       clear H
       have H := H1
       clear H1
       by_cases c49 : (wrap64 (t840 + 1)) = 0
       ·rw [if_pos c49] at H
        exact absurd H (by simp)
       ·rw [if_neg c49] at H
        have c49b0 : ((wrap64 (t840 + 1)) == 0) = false := beq_eq_false_iff_ne.mpr c49
        have c49b1 : ((wrap64 (t840 + 1)) != 0) = true := bne_iff_ne.mpr c49
        replace H := Option.bind_eq_some_iff.mp H
        obtain ⟨t863, A500, H⟩ := H
        replace H : ((impl_ServerNews.f kj7 t837 t840 t841 ((l1.length : Int) % (wrap64 (t840 + 1)))).bind fun t866 => ((laws_lpLog.f kj7 t863 t866).bind fun t869 => (if t869 = true then (some (t848 == t841)) else (none)))) = some r := H
        have A50 := Aside0.mk A500
        clear A500
        replace H := Option.bind_eq_some_iff.mp H
        obtain ⟨t866, A510, H⟩ := H
        replace H : ((laws_lpLog.f kj7 t863 t866).bind fun t869 => (if t869 = true then (some (t848 == t841)) else (none))) = some r := H
        have A51 := Aside0.mk A510
        clear A510
        replace H := Option.bind_eq_some_iff.mp H
        obtain ⟨t869, A520, H⟩ := H
        replace H : (if t869 = true then (some (t848 == t841)) else (none)) = some r := H
        have A52 := Aside0.mk A520
        clear A520
        by_cases c53 : t869 = true
        ·subst c53
         have H1 : (some (t848 == t841)) = some r := by rw [if_pos rfl] at H; exact H
         clear H
         have H := H1
         clear H1
         obtain rfl := Option.some.inj H
         have hnb54 := NB843_849.out
         have hnc54 := NB849_843.out
         have hcz55_0 : wc.cell? ⟨gb843, 0, none⟩ = some (.slice Ao11 t837.length co11) := (blk_cell BK843.out 0).trans rfl
         have hcz55_1 : wc.cell? ⟨gb843, 1, none⟩ = some (.int .i64 t840) := (blk_cell BK843.out 1).trans rfl
         have hcz55_2 : wc.cell? ⟨gb843, 2, none⟩ = some (.bool t841) := (blk_cell BK843.out 2).trans rfl
         have hfz55_0 := blk_frozen BK843.out 0
         have hfz55_1 := blk_frozen BK843.out 1
         have hfz55_2 := blk_frozen BK843.out 2
         try go_wp2
         have n0_ := Aside0.mk (Kd.R_drew HO_844000.out)
         have n1_ := Aside0.mk (Kd.R_drew HO_850000.out)
         have n2_ := Aside0.mk (blk_drew BK843.out)
         have n3_ := Aside0.mk (blk_drew BK849.out)
         have n4_ := Aside0.mk (below_drew1 HB.out)
         clear HO_844000
         clear HO_850000
         clear BK843
         clear BK849
         clear HB
         have HO_844000 := n0_
         have HO_850000 := n1_
         have BK843 := n2_
         have BK849 := n3_
         have HB := n4_
         clear n0_ n1_ n2_ n3_ n4_
         refine start_ (n := 15) (S := fun w' => w'.cell? ⟨gb849, 0, none⟩ = some (.slice Ao15 t844.length co15) ∧ w'.cell? ⟨gb849, 1, none⟩ = some (.int .i64 t847) ∧ w'.cell? ⟨gb849, 2, none⟩ = some (.bool t848) ∧ w'.cell? ⟨gb843, 0, none⟩ = some (.slice Ao11 t837.length co11) ∧ w'.cell? ⟨gb843, 1, none⟩ = some (.int .i64 t840) ∧ w'.cell? ⟨gb843, 2, none⟩ = some (.bool t841)) (ds := []) #[false, false, false, false, false, false, false, false, false, false, false, false, false, false, false] (by kernel_rfl) rfl rfl ⟨(blk_cell BK849.out 0).trans rfl, (blk_cell BK849.out 1).trans rfl, (blk_cell BK849.out 2).trans rfl, (blk_cell BK843.out 0).trans rfl, (blk_cell BK843.out 1).trans rfl, (blk_cell BK843.out 2).trans rfl⟩ (fun hHeld => ?_); refine with_tabW laws_FnFallNews.tab8 laws_FnFallNews.bits8 (fun HT_ HW_ => ?_)
         generalize wc.drew = w56 at HO_844000 HO_850000 BK843 BK849 HB hHeld ⊢
         refine pa_ 1 56 ?_
         refine pa_ 4 59 ?_
         refine ta6_ 0 55 hHeld ?_
         refine ta6_ 3 58 hHeld ?_
         refine on_ 2 57 (fun K hK => ?_)
         refine goes_ Tryd.func19 (by kernel_rfl) rfl #[.agg #[.slice Ao15 t844.length co15, .int .i64 t847, .bool t848], .int .i64 ((l1.length : Int) % (wrap64 (t840 + 1)))] (by rfl) rfl rfl ar_ ?_
         with_reducible refine (impl_ServerNews.calls kj7 _ _ t844 t847 t848 ((l1.length : Int) % (wrap64 (t840 + 1))) t863 _ ?side1 ?side2 A50.out ?side3).mono ?_
         (case side1 => repeat (first | exact (Kd.R_reads' HO_850000.out).2.2 | (with_reducible refine Kd.C_alloc ?_ _) | (with_reducible refine Kd.C_drewN ?_ _) | (with_reducible refine Kd.C_drew ?_)))
         (case side2 => exact (Kd.R_reads' HO_850000.out).2.1)
         (case side3 => exact Glob.below HG.out (bel_))
         rintro e w57 ⟨v864, rfl, ho0, hb⟩
         refine ⟨_, rfl, ?_⟩
         have n0_ := Aside0.mk (Kd.R_elder' (rp_ HO_844000.out) (Kd.R_base ho0) hb)
         have n1_ := Aside0.mk (Kd.R_elder' (rp_ HO_850000.out) (Kd.R_base ho0) hb)
         have n2_ := Aside0.mk (Kd.R_lower (Kd.R_new' (Kd.R_new' ho0 (Kd.R_lt (rp_ HO_844000.out))) (Kd.R_lt (rp_ HO_850000.out))) (below_size (bel_)))
         have n3_ := Aside0.mk (blk_below (g := gb843) (o := .cells #[.slice Ao11 t837.length co11, .int .i64 t840, .bool t841] 29 (0, 0)) (bp_ BK843.out) hb)
         have n4_ := Aside0.mk (blk_below (g := gb849) (o := .cells #[.slice Ao15 t844.length co15, .int .i64 t847, .bool t848] 29 (0, 0)) (bp_ BK849.out) hb)
         have n5_ := Aside0.mk (below_step (bel_) hb)
         clear HO_844000
         clear HO_850000
         clear BK843
         clear BK849
         clear HB
         have HO_844000 := n0_
         have HO_850000 := n1_
         have HO865 := n2_
         have BK843 := n3_
         have BK849 := n4_
         have HB := n5_
         clear n0_ n1_ n2_ n3_ n4_ n5_
         (try clear hb)
         (try clear hb2)
         (try clear hk)
         (try clear hi)
         (try clear ho0)
         refine hK.out _ _ ⟨(blk_cell BK849.out 0).trans rfl, (blk_cell BK849.out 1).trans rfl, (blk_cell BK849.out 2).trans rfl, (blk_cell BK843.out 0).trans rfl, (blk_cell BK843.out 1).trans rfl, (blk_cell BK843.out 2).trans rfl⟩ (fun hHeld => ?_)
         clear hK K
         refine no_ ?_
         refine on_ 5 60 (fun K hK => ?_)
         refine goes_ Tryd.func19 (by kernel_rfl) rfl #[.agg #[.slice Ao11 t837.length co11, .int .i64 t840, .bool t841], .int .i64 ((l1.length : Int) % (wrap64 (t840 + 1)))] (by rfl) rfl rfl ar_ ?_
         with_reducible refine (impl_ServerNews.calls kj7 _ _ t837 t840 t841 ((l1.length : Int) % (wrap64 (t840 + 1))) t866 _ ?side1 ?side2 A51.out ?side3).mono ?_
         (case side1 => repeat (first | exact (Kd.R_reads' HO_844000.out).2.2 | (with_reducible refine Kd.C_alloc ?_ _) | (with_reducible refine Kd.C_drewN ?_ _) | (with_reducible refine Kd.C_drew ?_)))
         (case side2 => exact (Kd.R_reads' HO_844000.out).2.1)
         (case side3 => exact Glob.below HG.out (bel_))
         rintro e w58 ⟨v867, rfl, ho0, hb⟩
         refine ⟨_, rfl, ?_⟩
         have n0_ := Aside0.mk (Kd.R_elder' (rp_ HO_844000.out) (Kd.R_base ho0) hb)
         have n1_ := Aside0.mk (Kd.R_elder' (rp_ HO_850000.out) (Kd.R_base ho0) hb)
         have n2_ := Aside0.mk (Kd.R_elder' (rp_ HO865.out) (Kd.R_base ho0) hb)
         have n3_ := Aside0.mk (Kd.R_lower (Kd.R_new' (Kd.R_new' (Kd.R_new' ho0 (Kd.R_lt (rp_ HO_844000.out))) (Kd.R_lt (rp_ HO_850000.out))) (Kd.R_lt (rp_ HO865.out))) (below_size (bel_)))
         have n4_ := Aside0.mk (blk_below (g := gb843) (o := .cells #[.slice Ao11 t837.length co11, .int .i64 t840, .bool t841] 29 (0, 0)) (bp_ BK843.out) hb)
         have n5_ := Aside0.mk (blk_below (g := gb849) (o := .cells #[.slice Ao15 t844.length co15, .int .i64 t847, .bool t848] 29 (0, 0)) (bp_ BK849.out) hb)
         have n6_ := Aside0.mk (below_step (bel_) hb)
         clear HO_844000
         clear HO_850000
         clear HO865
         clear BK843
         clear BK849
         clear HB
         have HO_844000 := n0_
         have HO_850000 := n1_
         have HO865 := n2_
         have HO868 := n3_
         have BK843 := n4_
         have BK849 := n5_
         have HB := n6_
         clear n0_ n1_ n2_ n3_ n4_ n5_ n6_
         (try clear hb)
         (try clear hb2)
         (try clear hk)
         (try clear hi)
         (try clear ho0)
         obtain ⟨Ao59, co59, eo59⟩ := Kd.R_slice HO865.out
         (first | subst eo59 | (injection eo59 with f1_ f2_ f3_; have f4_ := f1_.symm; have f5_ := f3_.symm; clear f1_ f2_ f3_; subst f4_; subst f5_))
         obtain ⟨Ao60, co60, eo60⟩ := Kd.R_slice HO868.out
         (first | subst eo60 | (injection eo60 with f1_ f2_ f3_; have f4_ := f1_.symm; have f5_ := f3_.symm; clear f1_ f2_ f3_; subst f4_; subst f5_))
         refine hK.out _ _ ⟨(blk_cell BK849.out 0).trans rfl, (blk_cell BK849.out 1).trans rfl, (blk_cell BK849.out 2).trans rfl, (blk_cell BK843.out 0).trans rfl, (blk_cell BK843.out 1).trans rfl, (blk_cell BK843.out 2).trans rfl⟩ (fun hHeld => ?_)
         clear hK K
         refine no_ ?_
         refine on_ 6 61 (fun K hK => ?_)
         refine goes_ Tryd.func35 (by kernel_rfl) rfl #[.slice Ao59 t863.length co59, .slice Ao60 t866.length co60] (by rfl) rfl rfl ar_ ?_
         with_reducible refine (laws_lpLog.calls kj7 _ _ t863 _ _ t866 true _ ?side1 ?side2 ?side3 ?side4 A52.out).mono ?_
         (case side1 => repeat (first | exact (Kd.R_reads' HO865.out).2.2 | (with_reducible refine Kd.C_alloc ?_ _) | (with_reducible refine Kd.C_drewN ?_ _) | (with_reducible refine Kd.C_drew ?_)))
         (case side2 => exact (Kd.R_reads' HO865.out).2.1)
         (case side3 => repeat (first | exact (Kd.R_reads' HO868.out).2.2 | (with_reducible refine Kd.C_alloc ?_ _) | (with_reducible refine Kd.C_drewN ?_ _) | (with_reducible refine Kd.C_drew ?_)))
         (case side4 => exact (Kd.R_reads' HO868.out).2.1)
         rintro e w' ⟨rfl, ⟨nd, rfl⟩⟩
         refine ⟨_, rfl, ?_⟩
         refine hK.out _ _ ⟨(blk_cell BK849.out 0).trans rfl, (blk_cell BK849.out 1).trans rfl, (blk_cell BK849.out 2).trans rfl, (blk_cell BK843.out 0).trans rfl, (blk_cell BK843.out 1).trans rfl, (blk_cell BK843.out 2).trans rfl⟩ (fun hHeld => ?_)
         clear hK K
         refine no_ ?_
         refine pa_ 7 62 ?_
         refine pa_ 8 63 ?_
         refine pa_ 10 65 ?_
         refine ta6_ 9 64 hHeld ?_
         refine ta6_ 11 66 hHeld ?_
         refine pa_ 12 67 ?_
         refine pa_ 13 68 ?_
         refine pa_ 14 4 ?_
         refine done_ (done_of HT_.out (by kernel_rfl)) ?_
         try go_wp2
         go_ret
         exact ⟨fi_, bel_⟩
        ·replace c53 := Bool.eq_false_iff.mpr c53
         subst c53
         have H1 : (none) = some r := by rw [if_neg (show ¬ (false = true) by decide)] at H; exact H
         clear H
         have H := H1
         clear H1
         exact absurd H (by simp)

/-- THE ONE PURE STATEMENT of laws_FnFallNews: yours. -/
def laws_FnFallNews.Pure : Prop := ∀ (l0 : List Int) (l1 : List Int), l0.length ≤ maxLen → l0.length * 1 ≤ 140737488351232 → (∀ x ∈ l0, (Lit.int .u8 x).wf = true) → l1.length ≤ maxLen → l1.length * 1 ≤ 140737488351232 → (∀ x ∈ l1, (Lit.int .u8 x).wf = true) → ∃ k, laws_FnFallNews.f k l0 l1 = some true
theorem laws_FnFallNews.walk (P : laws_FnFallNews.Pure) (a0 : Option Addr) (len0 cap0 : Nat) (z0 : List Int) (a1 : Option Addr) (len1 cap1 : Nat) (z1 : List Int) (w : World) (w0 : (a0 = none ∧ len0 = 0 ∧ cap0 = 0 ∧ z0 = []) ∨ ∃ x, a0 = some x ∧ len0 ≤ cap0 ∧ cap0 ≤ maxLen ∧ z0.length = cap0 ∧ (∀ i, i < z0.length → w.cell? (x.add i) = some (.int .u8 (z0.getD i 0))) ∧ ∀ n ∈ z0, (Lit.int .u8 n).wf = true) (y0 : len0 * 1 ≤ 140737488351232) (w1 : (a1 = none ∧ len1 = 0 ∧ cap1 = 0 ∧ z1 = []) ∨ ∃ x, a1 = some x ∧ len1 ≤ cap1 ∧ cap1 ≤ maxLen ∧ z1.length = cap1 ∧ (∀ i, i < z1.length → w.cell? (x.add i) = some (.int .u8 (z1.getD i 0))) ∧ ∀ n ∈ z1, (Lit.int .u8 n).wf = true) (y1 : len1 * 1 ≤ 140737488351232) (hG : Glob w) :
  Calls Tryd.prog 9 #[.slice a0 len0 cap0, .slice a1 len1 cap1] w fun e w' => e = .returned (.bool true) ∧ Below w.heap.size w w' := by
 obtain ⟨l0, rfl, hr0, hm0, hw0, hc0⟩ := ReadsInt.ofRowC w0
 obtain ⟨l1, rfl, hr1, hm1, hw1, hc1⟩ := ReadsInt.ofRowC w1
 obtain ⟨k, h⟩ := P l0 l1 hm0 y0 hw0 hm1 y1 hw1
 refine (laws_FnFallNews.calls k _ _ l0 _ _ l1 true w (Kd.C_of_reads (d := (0 : Int)) (h1 := fun _ => rfl) hr0) hc0 (Kd.C_of_reads (d := (0 : Int)) (h1 := fun _ => rfl) hr1) hc1 h hG).mono ?_
 rintro e w' ⟨rfl, hd⟩
 exact ⟨rfl, hd⟩

end Go.Proofs.YtnclcbjagleoeaaDoor.P
set_option linter.unusedVariables false
set_option linter.unusedSimpArgs false
namespace Go.Proofs.YtnclcbjagleoeaaDoor.PL
open Go.RowKit Go.Proofs.YtnclcbjagleoeaaDoor.P Go.Proofs.YtnclcbjagleoeaaDoorW.PrintWords Go.Proofs.YtnclcbjagleoeaaDoorW.PrintLast
theorem evnow {α : Type} (a : α) : Ev (fun _ => some a) a := ⟨0, fun _ _ => rfl⟩
theorem ev_neg {α : Type} {c : Prop} [Decidable c] {f g : Nat → Option α} {r : α} (h : ¬ c) (k : Ev g r) : Ev (fun n => if c then f n else g n) r := Ev.congr (fun _ => if_neg h) k
theorem ev_pos {α : Type} {c : Prop} [Decidable c] {f g : Nat → Option α} {r : α} (h : c) (k : Ev f r) : Ev (fun n => if c then f n else g n) r := Ev.congr (fun _ => if_pos h) k
theorem wrapS (i : Int) (h0 : 0 ≤ i) (h : i ≤ 4611686018427387904) : wrap64 (i + 1) = i + 1 := by unfold wrap64; omega
theorem wrapT (i : Int) (h0 : 0 ≤ i) (h : i + 1 ≤ 9223372036854775807) : wrap64 (i + 1) = i + 1 := by unfold wrap64; omega
/-- A number of 64 bits. -/
def I64 (a : Int) : Prop := -9223372036854775808 ≤ a ∧ a ≤ 9223372036854775807
/-- An entry whose numbers are of 64 bits, its text below 2^63 bytes. -/
def wfE (e : S56) : Prop := I64 e.f0 ∧ I64 e.f1 ∧ I64 e.f2.f0 ∧ I64 e.f2.f1 ∧ I64 e.f2.f2 ∧ I64 e.f2.f3 ∧ e.f2.f4.size ≤ 9223372036854775807

def madeB (a : Int) : Bool := decide (ownI a ≠ 0) && decide (ownI a ≠ 1)
def rootB (a : Int) : Bool := decide (1 ≤ a) && decide (a ≤ 3)
theorem in_f (a b c : Int) : spec_l6In.f a b c = some (decide (b ≤ a) && decide (a ≤ c)) := by
  unfold spec_l6In.f
  by_cases h : a ≥ b
  · rw [if_pos h]; simp [h]
  · rw [if_neg h]; simp [show ¬ b ≤ a from h]
theorem ownI_out (a : Int) (h : a < 0 ∨ 37 ≤ a) : ownI a = 0 := by
  unfold ownI
  rw [if_neg (by omega)]
theorem small_made : ∀ n : Nat, n < 37 → (decide (1 ≤ Int.tdiv (n : Int) 10) && decide (Int.tdiv (n : Int) 10 ≤ 3)) = true → (decide (1 ≤ Int.tmod (n : Int) 10) && decide (Int.tmod (n : Int) 10 ≤ 6)) = madeB n := by decide
theorem small_unmade : ∀ n : Nat, n < 37 → (decide (1 ≤ Int.tdiv (n : Int) 10) && decide (Int.tdiv (n : Int) 10 ≤ 3)) = false → madeB n = false := by decide
theorem small_who : ∀ n : Nat, n < 37 → madeB n = true → ownI n - 1 = Int.tdiv (n : Int) 10 := by decide
theorem small_root : ∀ n : Nat, n < 37 → (decide (ownI n ≠ 0) && decide (ownI n - 1 = 0)) = rootB n := by decide
theorem tdiv_wrap (a : Int) (h : I64 a) : wrap64 (Int.tdiv a 10) = Int.tdiv a 10 := by
  obtain ⟨h1, h2⟩ := h
  have : Int.tdiv a 10 ≤ 9223372036854775807 ∧ -9223372036854775808 ≤ Int.tdiv a 10 := by
    rcases Int.le_total 0 a with h0 | h0
    · rw [Int.tdiv_eq_ediv_of_nonneg h0]; omega
    · have e : Int.tdiv a 10 = -(Int.tdiv (-a) 10) := by rw [Int.neg_tdiv, Int.neg_neg]
      rw [e, Int.tdiv_eq_ediv_of_nonneg (by omega)]; omega
  unfold wrap64; omega
theorem made_f (a : Int) (h : I64 a) : spec_l1Made.f a = some (madeB a) := by
  unfold spec_l1Made.f
  rw [in_f, in_f, tdiv_wrap a h]
  simp only [Option.bind_some]
  by_cases hs : 0 ≤ a ∧ a < 37
  · obtain ⟨n, rfl⟩ : ∃ n : Nat, a = n := ⟨a.toNat, by omega⟩
    have hn : n < 37 := by omega
    cases hd : (decide (1 ≤ Int.tdiv (n : Int) 10) && decide (Int.tdiv (n : Int) 10 ≤ 3)) with
    | true => rw [if_pos rfl, small_made n hn hd]
    | false => rw [if_neg (by decide), small_unmade n hn hd]
  · have ho : madeB a = false := by unfold madeB; rw [ownI_out a (by omega)]; rfl
    rw [ho]
    rcases Int.lt_or_le a 0 with h0 | h0
    · have e : Int.tdiv a 10 = -(Int.tdiv (-a) 10) := by rw [Int.neg_tdiv, Int.neg_neg]
      have h1 : Int.tdiv a 10 ≤ 0 := by rw [e, Int.tdiv_eq_ediv_of_nonneg (by omega)]; omega
      have h2 : decide (1 ≤ Int.tdiv a 10) = false := decide_eq_false (by omega)
      rw [h2]
      simp
    · have e1 := Int.tdiv_eq_ediv_of_nonneg (b := 10) h0
      have e2 : Int.tmod a 10 = a % 10 := Int.tmod_eq_emod_of_nonneg h0
      rw [e1, e2]
      by_cases h3 : a / 10 ≤ 3
      · have h4 : decide (a % 10 ≤ 6) = false := decide_eq_false (by omega)
        rw [h4]
        simp
      · have h4 : decide (a / 10 ≤ 3) = false := decide_eq_false h3
        rw [h4]
        simp
theorem isMade_f (a : Int) : impl_isMade.f a = some (madeB a) := by
  unfold impl_isMade.f impl_RowWho.f madeB
  simp only [Option.bind_some]
  by_cases h0 : ownI a = 0
  · rw [if_pos h0]; simp [h0]
  · rw [if_neg h0]
    by_cases h1 : ownI a = 1
    · simp [h1]
    · simp [h0, h1]
      omega
theorem isRoot_f (a : Int) : impl_isRoot.f a = some (rootB a) := by
  unfold impl_isRoot.f impl_RowWho.f
  simp only [Option.bind_some]
  by_cases hs : 0 ≤ a ∧ a < 37
  · obtain ⟨n, rfl⟩ : ∃ n : Nat, a = n := ⟨a.toNat, by omega⟩
    have := small_root n (by omega)
    rw [← this]
    by_cases h0 : ownI (n : Int) = 0
    · rw [if_pos h0]; simp [h0]
    · rw [if_neg h0]
      by_cases h1 : ownI (n : Int) - 1 = 0 <;> simp [h0, h1]
  · rw [if_pos (ownI_out a (by omega))]
    have : rootB a = false := by unfold rootB; simp; omega
    rw [this]
    simp
theorem root_f (a : Int) : spec_l1Root.f a = some (rootB a) := by
  unfold spec_l1Root.f
  rw [in_f]
  rfl
def idB (a : Int) : Bool := rootB a || madeB a
theorem id_f (a : Int) (h : I64 a) : spec_l3Id.f a = some (idB a) := by
  unfold spec_l3Id.f idB
  rw [root_f, made_f a h]
  simp only [Option.bind_some]
  cases rootB a <;> simp
def placeB (u a : Int) : Bool := idB u && (decide (a = 0) || madeB a)
theorem place_f (u a : Int) : impl_placeOk.f u a = some (placeB u a) := by
  unfold impl_placeOk.f placeB idB
  rw [isMade_f, isMade_f, isRoot_f]
  simp only [Option.bind_some]
  by_cases h : a = 0
  · simp only [h, if_true]
    cases madeB u <;> cases rootB u <;> simp
  · simp only [h, if_false]
    cases madeB u <;> cases rootB u <;> simp
def textFrom (s : ByteArray) (i : Nat) : Nat → Bool
  | 0 => true
  | n + 1 => decide (97 ≤ bt s i) && decide (bt s i ≤ 100) && textFrom s (i + 1) n
def textB (s : ByteArray) : Bool := textFrom s 0 s.size && decide (s.size ≤ 4)
theorem bt_range (s : ByteArray) (i : Int) : 0 ≤ bt s i ∧ bt s i ≤ 255 := by
  unfold bt
  split
  · rename_i h
    have := (s[i.toNat]'h).toNat_lt
    omega
  · omega
theorem text_l0 (s : ByteArray) (hs : s.size ≤ 9223372036854775807) : ∀ (n : Nat) (i : Nat), i + n = s.size → Ev (fun k => spec_l1Text.l0 k s i) (textFrom s i n && decide (s.size ≤ 4))
  | 0, i, h => by
    refine Ev.step (f := fun _ => some (decide ((s.size : Int) ≤ 4))) (fun k => ?_) ?_
    · simp only [spec_l1Text.l0]; rw [if_neg (by omega)]
    · have : decide ((s.size : Int) ≤ 4) = (textFrom s i 0 && decide (s.size ≤ 4)) := by simp [textFrom]; omega
      rw [this]; exact evnow _
  | n + 1, i, h => by
    have hw : wrap64 (bt s i) = bt s i := by have := bt_range s i; unfold wrap64; omega
    unfold textFrom
    cases ht : (decide (97 ≤ bt s i) && decide (bt s i ≤ 100)) with
    | true =>
      rw [Bool.true_and]
      refine Ev.step (fun k => ?_) (text_l0 s hs n (i + 1) (by omega))
      simp only [spec_l1Text.l0]
      rw [if_pos (by omega), if_pos (by omega), hw, in_f, ht, Option.bind_some, if_pos rfl, wrapT i (by omega) (by omega)]
      rfl
    | false =>
      rw [Bool.false_and, Bool.false_and]
      refine Ev.step (f := fun _ => some false) (fun k => ?_) (evnow _)
      simp only [spec_l1Text.l0]
      rw [if_pos (by omega), if_pos (by omega), hw, in_f, ht, Option.bind_some, if_neg (by decide)]
theorem text_f (s : ByteArray) (hs : s.size ≤ 9223372036854775807) : Ev (fun k => spec_l1Text.f k s) (textB s) := text_l0 s hs s.size 0 (by omega)
theorem itext_l0 (s : ByteArray) (hs : s.size ≤ 9223372036854775807) : ∀ (n : Nat) (i : Nat), i + n = s.size → Ev (fun k => impl_textOk.l0 k s i) (textFrom s i n)
  | 0, i, h => by
    refine Ev.step (f := fun _ => some true) (fun k => ?_) (evnow _)
    simp only [impl_textOk.l0]; rw [if_neg (by omega)]
  | n + 1, i, h => by
    unfold textFrom
    by_cases h1 : bt s i < 97
    · have : decide (97 ≤ bt s i) = false := decide_eq_false (by omega)
      rw [this, Bool.false_and, Bool.false_and]
      refine Ev.step (f := fun _ => some false) (fun k => ?_) (evnow _)
      simp only [impl_textOk.l0]
      rw [if_pos (by omega), if_pos (by omega), if_pos h1]
    · by_cases h2 : bt s i > 100
      · have : decide (bt s i ≤ 100) = false := decide_eq_false (by omega)
        rw [this, Bool.and_false, Bool.false_and]
        refine Ev.step (f := fun _ => some false) (fun k => ?_) (evnow _)
        simp only [impl_textOk.l0]
        rw [if_pos (by omega), if_pos (by omega), if_neg h1, if_pos h2]
      · have e1 : decide (97 ≤ bt s i) = true := decide_eq_true (by omega)
        have e2 : decide (bt s i ≤ 100) = true := decide_eq_true (by omega)
        rw [e1, e2, Bool.true_and, Bool.true_and]
        refine Ev.step (fun k => ?_) (itext_l0 s hs n (i + 1) (by omega))
        simp only [impl_textOk.l0]
        rw [if_pos (by omega), if_pos (by omega), if_neg h1, if_neg h2, wrapT i (by omega) (by omega)]
        rfl
theorem itext_f (s : ByteArray) (hs : s.size ≤ 9223372036854775807) : Ev (fun k => impl_textOk.f k s) (textB s) := by
  unfold impl_textOk.f textB
  by_cases h : (s.size : Int) > 4
  · refine ev_pos h ?_
    have : decide (s.size ≤ 4) = false := decide_eq_false (by omega)
    rw [this, Bool.and_false]
    exact evnow _
  · refine ev_neg h ?_
    have : decide (s.size ≤ 4) = true := decide_eq_true (by omega)
    rw [this, Bool.and_true]
    exact itext_l0 s hs s.size 0 (by omega)
theorem text_nil (s : ByteArray) (h : s.toList.isEmpty = true) : textB s = true := by
  have : s.size = 0 := by
    have h2 := List.isEmpty_iff.1 h
    have h3 : s.toList.length = s.size := by rw [Go.ByteArray.toList_eq]; exact Array.length_toList
    rw [← h3, h2]; rfl
  unfold textB
  rw [this]
  rfl
def opB (k i u a : Int) (s : ByteArray) : Bool :=
  madeB i && (if k = 1 then placeB u a && textB s else if k = 2 then decide (u = 0) && decide (a = 0) && textB s else if k = 3 then placeB u a && s.toList.isEmpty else false)
theorem opOk_f (k i u a : Int) (s : ByteArray) (hs : s.size ≤ 9223372036854775807) : Ev (fun n => impl_OpOk.f n k i u a s) (opB k i u a s) := by
  unfold impl_OpOk.f impl_changeOf.f opB
  rw [isMade_f]
  simp only [Option.bind_some]
  cases madeB i with
  | false => simp only [Bool.false_eq_true, if_false, Bool.false_and]; exact evnow _
  | true =>
    simp only [if_true, Bool.true_and, place_f, Option.bind_some]
    by_cases h1 : k = 1
    · simp only [h1, if_true]
      cases placeB u a with
      | true => simp only [if_true, Bool.true_and]; exact itext_f s hs
      | false => simp only [Bool.false_eq_true, if_false, Bool.false_and]; exact evnow _
    · simp only [h1, if_false]
      by_cases h2 : k = 2
      · simp only [h2, if_true]
        by_cases h3 : u = 0
        · by_cases h4 : a = 0
          · simp only [h3, h4, if_true, decide_true, Bool.true_and]; exact itext_f s hs
          · simp only [h3, h4, if_true, if_false, decide_true, decide_false, Bool.true_and, Bool.false_and]; exact evnow _
        · simp only [h3, if_false, decide_false, Bool.false_and]; exact evnow _
      · simp only [h2, if_false]
        by_cases h3 : k = 3
        · simp only [h3, if_true]
          cases placeB u a with
          | true => simp only [if_true, Bool.true_and]; exact evnow _
          | false => simp only [Bool.false_eq_true, if_false, Bool.false_and]; exact evnow _
        · simp only [h3, if_false]; exact evnow _
theorem sop_f (k i u a : Int) (s : ByteArray) (hi : I64 i) (hu : I64 u) (ha : I64 a) (hs : s.size ≤ 9223372036854775807) : Ev (fun n => spec_OpOk.f n k i u a s) (opB k i u a s) := by
  unfold spec_OpOk.f opB
  rw [made_f i hi]
  simp only [Option.bind_some]
  cases madeB i with
  | false =>
    simp only [Bool.false_eq_true, if_false, Bool.false_and]
    refine Ev.step (f := fun _ => some false) (fun n => ?_) (evnow _)
    simp only [spec_OpOk.j0, if_true]
  | true =>
    simp only [if_true, Bool.true_and]
    refine Ev.bind (text_f s hs) ?_
    have hp : (idB u && (decide (a = 0) || madeB a)) = placeB u a := rfl
    cases ht : textB s with
    | false =>
      have hne : s.toList.isEmpty = false := by
        cases he : s.toList.isEmpty with
        | false => rfl
        | true => rw [text_nil s he] at ht; cases ht
      refine Ev.step (f := fun _ => some false) (fun n => ?_) ?_
      · simp only [spec_OpOk.j0, Bool.not_false, if_true]
      · simp only [hne, Bool.and_false, ite_self]
        exact evnow _
    | true =>
      refine Ev.step (f := fun _ => some (if k = 1 then placeB u a && true else if k = 2 then decide (u = 0) && decide (a = 0) && true else if k = 3 then placeB u a && s.toList.isEmpty else false)) (fun n => ?_) (evnow _)
      simp only [spec_OpOk.j0, Bool.not_true, Bool.false_eq_true, if_false]
      rw [id_f u hu, made_f a ha]
      simp only [Option.bind_some, Bool.and_true]
      rw [← hp]
      have hnil : (s.toList == ([] : List UInt8)) = s.toList.isEmpty := by cases s.toList <;> rfl
      rw [hnil]
      by_cases h1 : k = 1
      · simp only [h1, if_true]
        by_cases h4 : a = 0
        · simp only [h4, if_true, decide_true, Bool.true_or, Bool.and_true]; cases idB u <;> simp
        · simp only [h4, if_false, decide_false, Bool.false_or]; cases idB u <;> simp
      · simp only [h1, if_false]
        by_cases h2 : k = 2
        · simp only [h2, if_true]
          by_cases h3 : u = 0
          · simp [h3]; by_cases h4 : a = 0 <;> simp [h4]
          · simp [h3]
        · simp only [h2, if_false]
          by_cases h3 : k = 3
          · simp only [h3, if_true]
            by_cases h4 : a = 0
            · simp only [h4, if_true, decide_true, Bool.true_or, Bool.and_true]; cases idB u <;> simp
            · simp only [h4, if_false, decide_false, Bool.false_or]; cases idB u <;> cases madeB a <;> simp
          · simp only [h3, if_false]
def entB (e : S56) : Bool :=
  decide (1 ≤ e.f0) && decide (e.f0 ≤ 3) && (decide (1 ≤ e.f1) && decide (e.f1 ≤ 40)) && opB e.f2.f0 e.f2.f1 e.f2.f2 e.f2.f3 e.f2.f4 && (decide (e.f2.f0 ≠ 1) || decide (ownI e.f2.f1 - 1 = e.f0))
theorem made_small (a : Int) (h : madeB a = true) : 0 ≤ a ∧ a < 37 := by
  rcases Int.lt_or_le a 0 with h0 | h0
  · unfold madeB at h; rw [ownI_out a (by omega)] at h; simp at h
  · rcases Int.lt_or_le a 37 with h1 | h1
    · exact ⟨h0, h1⟩
    · unfold madeB at h; rw [ownI_out a (by omega)] at h; simp at h
theorem opB_made (k i u a : Int) (s : ByteArray) (h : opB k i u a s = true) : madeB i = true := by
  unfold opB at h
  simp only [Bool.and_eq_true] at h
  exact h.1
theorem who_made (i : Int) (h : madeB i = true) : ownI i - 1 = wrap64 (Int.tdiv i 10) := by
  obtain ⟨h0, h1⟩ := made_small i h
  obtain ⟨n, rfl⟩ : ∃ n : Nat, i = n := ⟨i.toNat, by omega⟩
  rw [tdiv_wrap _ ⟨by omega, by omega⟩]
  exact small_who n (by omega) h
theorem ent_f (e : S56) (h : wfE e) : Ev (fun n => impl_EntryOk.f n e.f0 e.f1 e.f2.f0 e.f2.f1 e.f2.f2 e.f2.f3 e.f2.f4) (entB e) := by
  obtain ⟨h0, h1, h2, h3, h4, h5, h6⟩ := h
  unfold impl_EntryOk.f impl_whoOk.f entB
  by_cases a1 : e.f0 ≥ 1
  · simp only [a1, if_true, Option.bind_some, ge_iff_le, decide_true, Bool.true_and]
    cases a2 : decide (e.f0 ≤ 3) with
    | false => simp only [Bool.false_eq_true, if_false, Bool.false_and]; exact evnow _
    | true =>
      simp only [if_true, Bool.true_and]
      by_cases a3 : e.f1 < 1
      · have : decide (1 ≤ e.f1) = false := decide_eq_false (by omega)
        simp only [a3, if_true, this, Bool.false_and]; exact evnow _
      · have e3 : decide (1 ≤ e.f1) = true := decide_eq_true (by omega)
        by_cases a4 : e.f1 > 40
        · have : decide (e.f1 ≤ 40) = false := decide_eq_false (by omega)
          simp only [a3, if_false, a4, if_true, this, Bool.and_false, Bool.false_and]; exact evnow _
        · have e4 : decide (e.f1 ≤ 40) = true := decide_eq_true (by omega)
          simp only [a3, if_false, a4, e3, e4, Bool.true_and]
          refine Ev.bind (opOk_f _ _ _ _ _ h6) ?_
          cases ho : opB e.f2.f0 e.f2.f1 e.f2.f2 e.f2.f3 e.f2.f4 with
          | false => simp only [Bool.false_eq_true, if_false, Bool.false_and]; exact evnow _
          | true =>
            simp only [if_true, Bool.true_and]
            have hm := opB_made _ _ _ _ _ ho
            unfold impl_RowWho.f
            have hn : ownI e.f2.f1 ≠ 0 := by
              intro hz
              unfold madeB at hm
              rw [hz] at hm
              simp at hm
            rw [if_neg hn]
            simp only [Option.bind_some]
            by_cases a5 : e.f2.f0 = 1
            · simp only [a5, if_true, ne_eq, not_true, decide_false, Bool.false_or]
              have : (ownI e.f2.f1 - 1 == e.f0) = decide (ownI e.f2.f1 - 1 = e.f0) := by by_cases hq : ownI e.f2.f1 - 1 = e.f0 <;> simp [hq]
              rw [this]; exact evnow _
            · simp only [a5, if_false, ne_eq, not_false_eq_true, decide_true, Bool.true_or]; exact evnow _
  · have : decide (1 ≤ e.f0) = false := decide_eq_false (by omega)
    simp only [a1, if_false, Option.bind_some, Bool.false_eq_true, this, Bool.false_and]; exact evnow _
theorem sent_f (e : S56) (h : wfE e) : Ev (fun n => spec_EntryOk.f n e.f0 e.f1 e.f2.f0 e.f2.f1 e.f2.f2 e.f2.f3 e.f2.f4) (entB e) := by
  obtain ⟨h0, h1, h2, h3, h4, h5, h6⟩ := h
  unfold spec_EntryOk.f entB
  rw [in_f, in_f]
  simp only [Option.bind_some]
  cases (decide (1 ≤ e.f0) && decide (e.f0 ≤ 3)) with
  | false => simp only [Bool.false_eq_true, if_false, Bool.false_and]; exact evnow _
  | true =>
    cases (decide (1 ≤ e.f1) && decide (e.f1 ≤ 40)) with
    | false => simp only [Bool.false_eq_true, if_true, if_false, Bool.true_and, Bool.false_and]; exact evnow _
    | true =>
      simp only [if_true, Bool.true_and]
      refine Ev.bind (sop_f _ _ _ _ _ h3 h4 h5 h6) ?_
      cases ho : opB e.f2.f0 e.f2.f1 e.f2.f2 e.f2.f3 e.f2.f4 with
      | false => simp only [Bool.false_eq_true, if_false, Bool.false_and]; exact evnow _
      | true =>
        simp only [if_true, Bool.true_and]
        have hm := who_made _ (opB_made _ _ _ _ _ ho)
        by_cases a5 : e.f2.f0 = 1
        · simp only [a5, if_true, ne_eq, not_true, decide_false, Bool.false_or]
          have : (wrap64 (Int.tdiv e.f2.f1 10) == e.f0) = decide (ownI e.f2.f1 - 1 = e.f0) := by rw [hm]; by_cases hq : wrap64 (Int.tdiv e.f2.f1 10) = e.f0 <;> simp [hq]
          rw [this]; exact evnow _
        · simp only [a5, if_false, ne_eq, not_false_eq_true, decide_true, Bool.true_or]; exact evnow _
def goB : List S56 → List S56 → Bool
  | _, [] => true
  | pre, e :: rest => entB e && decide (cntE pre e.f0 + 1 = e.f1) && goB (pre ++ [e]) rest
def logB (l : List S56) : Bool := decide (l.length ≤ 40) && goB [] l
def wfL (l : List S56) : Prop := ∀ e ∈ l, wfE e
theorem log_go : ∀ (rest pre : List S56), wfL rest → Ev (fun n => impl_LogOk.go n pre rest) (goB pre rest)
  | [], _, _ => Ev.congr (f := fun _ => some true) (fun n => by unfold impl_LogOk.go; rfl) (evnow _)
  | e :: rest, pre, h => by
    unfold goB
    refine Ev.congr (f := fun k => (impl_EntryOk.f k e.f0 e.f1 e.f2.f0 e.f2.f1 e.f2.f2 e.f2.f3 e.f2.f4).bind fun t => if t = true then (if cntE pre e.f0 + 1 = e.f1 then impl_LogOk.go k (pre ++ [e]) rest else some false) else some false) (fun n => by rw [impl_LogOk.go]) ?_
    refine Ev.bind (ent_f e (h e (List.mem_cons_self))) ?_
    cases entB e with
    | false => simp only [Bool.false_eq_true, if_false, Bool.false_and]; exact evnow _
    | true =>
      simp only [if_true, Bool.true_and]
      by_cases hq : cntE pre e.f0 + 1 = e.f1
      · simp only [hq, if_true, decide_true, Bool.true_and]; exact log_go rest _ (fun x hx => h x (List.mem_cons_of_mem _ hx))
      · simp only [hq, if_false, decide_false, Bool.false_and]; exact evnow _
theorem log_f (l : List S56) (h : wfL l) : Ev (fun n => impl_LogOk.f n l) (logB l) := by
  unfold impl_LogOk.f logB
  by_cases h40 : (l.length : Int) > 40
  · refine ev_pos h40 ?_
    have : decide (l.length ≤ 40) = false := decide_eq_false (by omega)
    rw [this, Bool.false_and]; exact evnow _
  · refine ev_neg h40 ?_
    have : decide (l.length ≤ 40) = true := decide_eq_true (by omega)
    rw [this, Bool.true_and]; exact log_go l [] h
theorem rdE_get (l : List S56) (i : Nat) (h : i < l.length) : rd_T56 l i = l[i] := by
  unfold rd_T56
  rw [List.getD_eq_getElem?_getD, show ((i : Int)).toNat = i from rfl, List.getElem?_eq_getElem h]
  rfl
theorem seq_l0 (l : List S56) (who : Int) (hl : l.length ≤ 281474976710656) : ∀ (n : Nat) (i : Nat) (c : Int), i + n = l.length → 0 ≤ c → c ≤ i → Ev (fun k => spec_l12Seq.l0 k l who c i) (c + cntE (l.drop i) who)
  | 0, i, c, h, h0, h1 => by
    refine Ev.step (f := fun _ => some c) (fun k => ?_) ?_
    · simp only [spec_l12Seq.l0]; rw [if_neg (by omega)]
    · have : c + cntE (l.drop i) who = c := by rw [List.drop_eq_nil_of_le (by omega)]; unfold cntE; simp
      rw [this]; exact evnow _
  | n + 1, i, c, h, h0, h1 => by
    have hi : i < l.length := by omega
    have hd := List.drop_eq_getElem_cons hi
    have hc : cntE (l.drop i) who = cntE (l.drop (i + 1)) who + (if l[i].f0 = who then 1 else 0) := by
      rw [hd]
      unfold cntE
      rw [List.countP_cons]
      by_cases hq : l[i].f0 = who <;> simp [hq]
    rw [hc]
    by_cases hq : l[i].f0 = who
    · rw [if_pos hq, show c + (cntE (l.drop (i + 1)) who + 1) = (c + 1) + cntE (l.drop (i + 1)) who by omega]
      refine Ev.step (fun k => ?_) (seq_l0 l who hl n (i + 1) (c + 1) (by omega) (by omega) (by omega))
      simp only [spec_l12Seq.l0]
      rw [if_pos (by omega), if_pos (by omega), rdE_get l i hi, if_pos hq, wrapS i (by omega) (by omega), wrapS c (by omega) (by omega)]
      rfl
    · rw [if_neg hq, Int.add_zero]
      refine Ev.step (fun k => ?_) (seq_l0 l who hl n (i + 1) c (by omega) (by omega) (by omega))
      simp only [spec_l12Seq.l0]
      rw [if_pos (by omega), if_pos (by omega), rdE_get l i hi, if_neg hq, wrapS i (by omega) (by omega)]
      rfl
theorem seq_f (l : List S56) (who : Int) (hl : l.length ≤ 281474976710656) : Ev (fun k => spec_l12Seq.f k l who) (cntE l who) := by
  have := seq_l0 l who hl l.length 0 0 (by omega) (by omega) (by omega)
  rw [Int.zero_add] at this
  exact this
theorem slog_l0 (l : List S56) (h : wfL l) (hl : l.length ≤ 281474976710656) : ∀ (n : Nat) (i : Nat), i + n = l.length → Ev (fun k => spec_LogOk.l0 k l i) (goB (l.take i) (l.drop i) && decide (l.length ≤ 40))
  | 0, i, hn => by
    rw [List.drop_eq_nil_of_le (by omega)]
    refine Ev.step (f := fun _ => some (decide ((l.length : Int) ≤ 40))) (fun k => ?_) ?_
    · simp only [spec_LogOk.l0]; rw [if_neg (by omega)]
    · have : decide ((l.length : Int) ≤ 40) = (goB (l.take i) [] && decide (l.length ≤ 40)) := by unfold goB; simp; omega
      rw [this]; exact evnow _
  | n + 1, i, hn => by
    have hi : i < l.length := by omega
    rw [List.drop_eq_getElem_cons hi]
    unfold goB
    rw [← List.take_succ_eq_append_getElem hi]
    refine Ev.step (f := fun k => (spec_EntryOk.f k l[i].f0 l[i].f1 l[i].f2.f0 l[i].f2.f1 l[i].f2.f2 l[i].f2.f3 l[i].f2.f4).bind fun t127 => (if t127 = true then ((spec_l12Seq.f k (l.take i) l[i].f0).bind fun t134 => (if l[i].f1 = (wrap64 (t134 + 1)) then (spec_LogOk.l0 k l ((i + 1 : Nat) : Int)) else (some false))) else (some false))) (fun k => ?_) ?_
    · simp only [spec_LogOk.l0]
      rw [if_pos (by omega), if_pos (by omega), rdE_get l i hi, if_pos (by omega), wrapS i (by omega) (by omega)]
      rfl
    · refine Ev.bind (sent_f _ (h _ (List.getElem_mem hi))) ?_
      cases entB l[i] with
      | false => simp only [Bool.false_eq_true, if_false, Bool.false_and]; exact evnow _
      | true =>
        simp only [if_true, Bool.true_and]
        refine Ev.bind (seq_f (l.take i) l[i].f0 (by rw [List.length_take]; omega)) ?_
        have hcn := cntE_le (l.take i) l[i].f0
        have hw : wrap64 (cntE (l.take i) l[i].f0 + 1) = cntE (l.take i) l[i].f0 + 1 := wrapS _ hcn.1 (by have := hcn.2; rw [List.length_take] at this; omega)
        rw [hw]
        by_cases hq : cntE (l.take i) l[i].f0 + 1 = l[i].f1
        · rw [decide_eq_true hq, Bool.true_and]
          refine ev_pos hq.symm ?_
          exact slog_l0 l h hl n (i + 1) (by omega)
        · rw [decide_eq_false hq, Bool.false_and, Bool.false_and]
          refine ev_neg (fun e => hq e.symm) ?_
          exact evnow _
theorem slog_f (l : List S56) (h : wfL l) (hl : l.length ≤ 281474976710656) : Ev (fun k => spec_LogOk.f k l) (logB l) := by
  have := slog_l0 l h hl l.length 0 (by omega)
  unfold logB
  rw [Bool.and_comm]
  exact this
theorem logB_len {l : List S56} (h : logB l = true) : l.length ≤ 40 := by
  unfold logB at h
  simp only [Bool.and_eq_true, decide_eq_true_eq] at h
  exact h.1
end Go.Proofs.YtnclcbjagleoeaaDoor.PL
set_option linter.unusedVariables false
set_option linter.unusedSimpArgs false
namespace Go.Proofs.YtnclcbjagleoeaaDoor.PL
open Go.RowKit Go.Proofs.YtnclcbjagleoeaaDoor.P Go.Proofs.YtnclcbjagleoeaaDoorW.PrintWords Go.Proofs.YtnclcbjagleoeaaDoorW.PrintLast
/-- Bytes. -/
def Bytes (b : List Int) : Prop := b.length ≤ 2000 ∧ ∀ x ∈ b, 0 ≤ x ∧ x ≤ 255
/-- At place p, m more draws may be made. -/
def Rd (p : Int) (m : Nat) : Prop := 0 ≤ p ∧ p + m ≤ 1000000
theorem Rd.less {p : Int} {m n : Nat} (h : Rd p m) (hn : n ≤ m) : Rd p n := ⟨h.1, by have := h.2; omega⟩
theorem wrap_id (x : Int) (h0 : -9223372036854775808 ≤ x) (h1 : x ≤ 9223372036854775807) : wrap64 x = x := by unfold wrap64; omega
theorem wraps_i64 (n : Int) (h0 : 0 ≤ n) (h1 : n < 2 ^ 62) : IntKind.i64.wrap n = n := by rw [IntKind.wrap_i64]; omega
theorem xor_pos (a b : Int) (ha : 0 ≤ a) (hb : 0 ≤ b) (ha' : a < 4611686018427387904) (hb' : b < 4611686018427387904) : 0 ≤ Go.bits .xor .i64 a b := by
  obtain ⟨m, rfl⟩ : ∃ m : Nat, a = m := ⟨a.toNat, by omega⟩
  obtain ⟨n, rfl⟩ : ∃ n : Nat, b = n := ⟨b.toNat, by omega⟩
  have hm : m < 2 ^ 62 := by omega
  have hn : n < 2 ^ 62 := by omega
  have e1 : m % 2 ^ 64 = m := Nat.mod_eq_of_lt (by omega)
  have e2 : n % 2 ^ 64 = n := Nat.mod_eq_of_lt (by omega)
  have hx : m ^^^ n < 2 ^ 62 := Nat.xor_lt_two_pow hm hn
  have hq : (BitVec.ofNat 64 m ^^^ BitVec.ofNat 64 n).toNat = m ^^^ n := by rw [BitVec.toNat_xor, BitVec.toNat_ofNat, BitVec.toNat_ofNat, e1, e2]
  have h2 : Go.bits .xor .i64 (m : Int) (n : Int) = IntKind.i64.wrap (((BitVec.ofNat 64 m ^^^ BitVec.ofNat 64 n).toNat : Nat) : Int) := by simp only [Go.bits, BitVec.ofInt_natCast]; rfl
  rw [h2, hq, wraps_i64 _ (by omega) (by omega)]
  omega
theorem rd_byte {b : List Int} (hb : Bytes b) (i : Int) : 0 ≤ rd b i ∧ rd b i ≤ 255 := by
  unfold rd
  rw [List.getD_eq_getElem?_getD]
  rcases Nat.lt_or_ge i.toNat b.length with h | h
  · rw [List.getElem?_eq_getElem h]
    exact hb.2 _ (List.getElem_mem h)
  · rw [List.getElem?_eq_none h]
    simp
theorem tmod_range (x n : Int) (hx : 0 ≤ x) (hn : 1 ≤ n) : 0 ≤ Int.tmod x n ∧ Int.tmod x n < n := by
  rw [Int.tmod_eq_emod_of_nonneg hx]
  exact ⟨Int.emod_nonneg _ (by omega), Int.emod_lt_of_pos _ (by omega)⟩
theorem pick_f (b : List Int) (p n : Int) (m : Nat) (hb : Bytes b) (hp : Rd p (m + 1)) : ∃ r : Int, Ev (fun k => spec_l6Rd_pick.f k b p n) (r, p + 1) ∧ Rd (p + 1) m ∧ 0 ≤ r ∧ (1 ≤ n → r < n) ∧ (n < 1 → r = 0) := by
  obtain ⟨h0, h1⟩ := hp
  have hR : Rd (p + 1) m := ⟨by omega, by omega⟩
  have w1 : wrap64 (p + 1) = p + 1 := wrap_id _ (by omega) (by omega)
  have w2 : wrap64 (p + 1 - 1) = p := by rw [wrap_id (p + 1 - 1) (by omega) (by omega)]; omega
  unfold spec_l6Rd_pick.f
  rw [w1]
  by_cases hn : n < 1
  · refine ⟨0, ev_pos hn ?_, hR, Int.le_refl _, fun h => by omega, fun _ => rfl⟩
    refine Ev.step (f := fun _ => some (0, p + 1)) (fun k => ?_) (evnow _)
    simp only [spec_l6Rd_pick.j0, if_true]
  · by_cases hl : b.length = 0
    · refine ⟨0, ev_neg hn ?_, hR, Int.le_refl _, fun h => by omega, fun _ => rfl⟩
      refine Ev.step (f := fun _ => some (0, p + 1)) (fun k => ?_) (evnow _)
      have : ((b.length : Int) == 0) = true := by simp [hl]
      simp only [spec_l6Rd_pick.j0, this, if_true]
    · have hf : ((b.length : Int) == 0) = false := beq_eq_false_iff_ne.2 (by omega)
      by_cases hk : p < (b.length : Int)
      · have hx := rd_byte hb p
        have hr := tmod_range (wrap64 (rd b p)) n (by rw [wrap_id (rd b p) (by omega) (by omega)]; omega) (by omega)
        refine ⟨Int.tmod (wrap64 (rd b p)) n, ev_neg hn ?_, hR, hr.1, fun _ => hr.2, fun h => absurd h hn⟩
        refine Ev.step (f := fun _ => some (Int.tmod (wrap64 (rd b p)) n, p + 1)) (fun k => ?_) (evnow _)
        simp only [spec_l6Rd_pick.j0, hf, Bool.false_eq_true, if_false, w2]
        rw [if_pos hk, if_pos h0, if_neg (show ¬ n = 0 by omega)]
      · have hlen : (1 : Int) ≤ b.length := by omega
        have m1 := tmod_range p b.length h0 hlen
        have e7 : wrap64 (p * 7) = p * 7 := wrap_id _ (by omega) (by omega)
        have e73 : wrap64 (p * 7 + 3) = p * 7 + 3 := wrap_id _ (by omega) (by omega)
        have m2 := tmod_range (p * 7 + 3) b.length (by omega) hlen
        have x1 := rd_byte hb (Int.tmod p b.length)
        have x2 := rd_byte hb (Int.tmod (p * 7 + 3) b.length)
        have d1 : 0 ≤ Int.tdiv p b.length ∧ Int.tdiv p b.length ≤ 1000000 := by
          rw [Int.tdiv_eq_ediv_of_nonneg h0]
          exact ⟨Int.ediv_nonneg h0 (by omega), Int.le_trans (Int.ediv_le_self _ h0) (by omega)⟩
        obtain ⟨r, hr⟩ : ∃ r, r = Int.tmod (Go.bits .xor .i64 (wrap64 ((wrap64 ((wrap64 ((wrap64 ((wrap64 (rd b (Int.tmod p (b.length : Int)))) * 131)) + (wrap64 ((wrap64 (rd b (Int.tmod (p * 7 + 3) (b.length : Int)))) * 1117)))) + (wrap64 (p * 29)))) + (wrap64 ((wrap64 (Int.tdiv p (b.length : Int))) * 53)))) (wrap64 (Int.tdiv (wrap64 ((wrap64 ((wrap64 ((wrap64 ((wrap64 (rd b (Int.tmod p (b.length : Int)))) * 131)) + (wrap64 ((wrap64 (rd b (Int.tmod (p * 7 + 3) (b.length : Int)))) * 1117)))) + (wrap64 (p * 29)))) + (wrap64 ((wrap64 (Int.tdiv p (b.length : Int))) * 53)))) 64))) n := ⟨_, rfl⟩
        have hrr : 0 ≤ r ∧ r < n := by
          rw [hr]
          refine tmod_range _ n ?_ (by omega)
          generalize rd b (Int.tmod p (b.length : Int)) = u at x1
          generalize rd b (Int.tmod (p * 7 + 3) (b.length : Int)) = v at x2
          generalize Int.tdiv p (b.length : Int) = d at d1
          rw [wrap_id u (by omega) (by omega), wrap_id v (by omega) (by omega), wrap_id d (by omega) (by omega)]
          rw [wrap_id (u * 131) (by omega) (by omega), wrap_id (v * 1117) (by omega) (by omega), wrap_id (p * 29) (by omega) (by omega), wrap_id (d * 53) (by omega) (by omega)]
          rw [wrap_id (u * 131 + v * 1117) (by omega) (by omega)]
          rw [wrap_id (u * 131 + v * 1117 + p * 29) (by omega) (by omega)]
          rw [wrap_id (u * 131 + v * 1117 + p * 29 + d * 53) (by omega) (by omega)]
          have hs : Int.tdiv (u * 131 + v * 1117 + p * 29 + d * 53) 64 = (u * 131 + v * 1117 + p * 29 + d * 53) / 64 := Int.tdiv_eq_ediv_of_nonneg (by omega)
          rw [hs, wrap_id _ (by omega) (by omega)]
          exact xor_pos _ _ (by omega) (by omega) (by omega) (by omega)
        refine ⟨r, ev_neg hn ?_, hR, hrr.1, fun _ => hrr.2, fun h => absurd h hn⟩
        refine Ev.step (f := fun _ => some (r, p + 1)) (fun k => ?_) (evnow _)
        simp only [spec_l6Rd_pick.j0, hf, Bool.false_eq_true, if_false, w2, e7, e73]
        rw [if_neg hk, if_neg (show ¬ (b.length : Int) = 0 by omega), if_pos m1.1, if_pos m1.2, if_pos m2.1, if_pos m2.2, if_neg (show ¬ n = 0 by omega), hr]
end Go.Proofs.YtnclcbjagleoeaaDoor.PL
set_option linter.unusedVariables false
set_option linter.unusedSimpArgs false
namespace Go.Proofs.YtnclcbjagleoeaaDoor.PL
open Go.RowKit Go.Proofs.YtnclcbjagleoeaaDoor.P Go.Proofs.YtnclcbjagleoeaaDoorW.PrintWords Go.Proofs.YtnclcbjagleoeaaDoorW.PrintLast
theorem rdR_get (t : List S120) (i : Nat) (h : i < t.length) : rd_T120 t i = t[i] := by
  unfold rd_T120
  rw [List.getD_eq_getElem?_getD, show ((i : Int)).toNat = i from rfl, List.getElem?_eq_getElem h]
  rfl
def atFrom (id : Int) : List S120 → Nat → Int
  | [], _ => -1
  | r :: rest, i => if r.f0 = id then (i : Int) else atFrom id rest (i + 1)
def atI (t : List S120) (id : Int) : Int := atFrom id t 0
theorem at_l0 (t : List S120) (id : Int) (hl : t.length ≤ 1099511627776) : ∀ (n i : Nat), i + n = t.length → Ev (fun k => spec_l2At.l0 k t id i) (atFrom id (t.drop i) i)
  | 0, i, h => by
    rw [List.drop_eq_nil_of_le (by omega)]
    refine Ev.step (f := fun _ => some (-1)) (fun k => ?_) (evnow _)
    simp only [spec_l2At.l0]; rw [if_neg (by omega)]
  | n + 1, i, h => by
    have hi : i < t.length := by omega
    rw [List.drop_eq_getElem_cons hi]
    unfold atFrom
    by_cases hq : t[i].f0 = id
    · rw [if_pos hq]
      refine Ev.step (f := fun _ => some (i : Int)) (fun k => ?_) (evnow _)
      simp only [spec_l2At.l0]
      rw [if_pos (by omega), if_pos (by omega), rdR_get t i hi, if_pos hq]
    · rw [if_neg hq]
      refine Ev.step (fun k => ?_) (at_l0 t id hl n (i + 1) (by omega))
      simp only [spec_l2At.l0]
      rw [if_pos (by omega), if_pos (by omega), rdR_get t i hi, if_neg hq, wrapS i (by omega) (by omega)]
      rfl
theorem at_f (t : List S120) (id : Int) (hl : t.length ≤ 1099511627776) : Ev (fun k => spec_l2At.f k t id) (atI t id) := at_l0 t id hl t.length 0 (by omega)
theorem atFrom_spec (id : Int) : ∀ (t : List S120) (i : Nat), (atFrom id t i = -1 ∧ ∀ x ∈ t, x.f0 ≠ id) ∨ ∃ (j : Nat) (h : j < t.length), atFrom id t i = ((i + j : Nat) : Int) ∧ t[j].f0 = id
  | [], i => Or.inl ⟨rfl, fun x hx => by cases hx⟩
  | r :: rest, i => by
    unfold atFrom
    by_cases hq : r.f0 = id
    · rw [if_pos hq]
      exact Or.inr ⟨0, by simp, by simp, hq⟩
    · rw [if_neg hq]
      rcases atFrom_spec id rest (i + 1) with ⟨h1, h2⟩ | ⟨j, h, h1, h2⟩
      · refine Or.inl ⟨h1, fun x hx => ?_⟩
        rcases List.mem_cons.1 hx with rfl | hx
        · exact hq
        · exact h2 x hx
      · exact Or.inr ⟨j + 1, by simp; omega, by rw [h1]; congr 1; omega, by simpa using h2⟩
theorem atI_spec (t : List S120) (id : Int) : (atI t id = -1 ∧ ∀ x ∈ t, x.f0 ≠ id) ∨ ∃ (j : Nat) (h : j < t.length), atI t id = (j : Int) ∧ t[j].f0 = id := by
  rcases atFrom_spec id t 0 with h | ⟨j, h, h1, h2⟩
  · exact Or.inl h
  · exact Or.inr ⟨j, h, by rw [atI, h1]; congr 1; omega, h2⟩
theorem atI_mem {t : List S120} {id : Int} {x : S120} (hx : x ∈ t) (h : x.f0 = id) : ∃ (j : Nat) (hj : j < t.length), atI t id = (j : Int) ∧ t[j].f0 = id := by
  rcases atI_spec t id with ⟨_, h2⟩ | h2
  · exact absurd h (h2 x hx)
  · exact h2
def endFrom (d : Int) : List S120 → Nat → Nat
  | [], e => e
  | r :: rest, e => if r.f1 > d then endFrom d rest (e + 1) else e
def endI (t : List S120) (i : Nat) : Nat := endFrom (t.getD i z120).f1 (t.drop (i + 1)) (i + 1)
theorem getD_get (t : List S120) (i : Nat) (h : i < t.length) : t.getD i z120 = t[i] := by
  rw [List.getD_eq_getElem?_getD, List.getElem?_eq_getElem h]
  rfl
theorem end_l0 (t : List S120) (a : Nat) (ha : a < t.length) (hl : t.length ≤ 1099511627776) : ∀ (n i : Nat), i + n = t.length → Ev (fun k => spec_l2End.l0 k t a i) (endFrom t[a].f1 (t.drop i) i : Int)
  | 0, i, h => by
    rw [List.drop_eq_nil_of_le (by omega)]
    refine Ev.step (f := fun _ => some (i : Int)) (fun k => ?_) (evnow _)
    simp only [spec_l2End.l0]; rw [if_neg (by omega)]
  | n + 1, i, h => by
    have hi : i < t.length := by omega
    rw [List.drop_eq_getElem_cons hi]
    unfold endFrom
    by_cases hq : t[i].f1 > t[a].f1
    · rw [if_pos hq]
      refine Ev.step (fun k => ?_) (end_l0 t a ha hl n (i + 1) (by omega))
      simp only [spec_l2End.l0]
      rw [if_pos (by omega), if_pos (by omega), if_pos (by omega), if_pos (by omega), rdR_get t i hi, rdR_get t a ha, if_pos hq, wrapS i (by omega) (by omega)]
      rfl
    · rw [if_neg hq]
      refine Ev.step (f := fun _ => some (i : Int)) (fun k => ?_) (evnow _)
      simp only [spec_l2End.l0]
      rw [if_pos (by omega), if_pos (by omega), if_pos (by omega), if_pos (by omega), rdR_get t i hi, rdR_get t a ha, if_neg hq]
theorem end_f (t : List S120) (a : Nat) (ha : a < t.length) (hl : t.length ≤ 1099511627776) : Ev (fun k => spec_l2End.f k t a) (endI t a : Int) := by
  have := end_l0 t a ha hl (t.length - (a + 1)) (a + 1) (by omega)
  unfold endI
  rw [getD_get t a ha]
  refine Ev.congr (fun k => ?_) this
  unfold spec_l2End.f
  rw [wrapS a (by omega) (by omega)]
  rfl
theorem endFrom_spec (d : Int) : ∀ (t : List S120) (e : Nat), e ≤ endFrom d t e ∧ endFrom d t e ≤ e + t.length ∧ (∀ (j : Nat) (hj : j < t.length), e + j < endFrom d t e → d < t[j].f1) ∧ (∀ (hj : endFrom d t e - e < t.length), t[endFrom d t e - e].f1 ≤ d)
  | [], e => ⟨Nat.le_refl _, by simp [endFrom], fun j hj => by simp at hj, fun hj => by simp at hj⟩
  | r :: rest, e => by
    by_cases hq : r.f1 > d
    · have he : endFrom d (r :: rest) e = endFrom d rest (e + 1) := if_pos hq
      obtain ⟨h1, h2, h3, h4⟩ := endFrom_spec d rest (e + 1)
      refine ⟨by rw [he]; omega, by rw [he]; simp; omega, fun j hj hlt => ?_, fun hj => ?_⟩
      · rw [he] at hlt
        cases j with
        | zero => exact hq
        | succ j => exact h3 j (by simpa using hj) (by omega)
      · have e1 : endFrom d (r :: rest) e - e = (endFrom d rest (e + 1) - (e + 1)) + 1 := by rw [he]; omega
        have hj' : endFrom d rest (e + 1) - (e + 1) < rest.length := by rw [e1] at hj; simpa using hj
        have := h4 hj'
        simp only [e1, List.getElem_cons_succ]
        exact this
    · have he : endFrom d (r :: rest) e = e := if_neg hq
      refine ⟨by rw [he]; exact Nat.le_refl _, by rw [he]; omega, fun j hj hlt => by rw [he] at hlt; omega, fun hj => ?_⟩
      have e1 : endFrom d (r :: rest) e - e = 0 := by rw [he]; omega
      simp only [e1, List.getElem_cons_zero]
      omega
/-- The end of what is under row a: behind it, at most the end; all between stand deeper; the row there (if any) does not. -/
theorem endI_spec (t : List S120) (a : Nat) (ha : a < t.length) : a < endI t a ∧ endI t a ≤ t.length ∧ (∀ (j : Nat) (hj : j < t.length), a < j → j < endI t a → t[a].f1 < t[j].f1) ∧ (∀ (hj : endI t a < t.length), t[endI t a].f1 ≤ t[a].f1) := by
  unfold endI
  rw [getD_get t a ha]
  obtain ⟨h1, h2, h3, h4⟩ := endFrom_spec t[a].f1 (t.drop (a + 1)) (a + 1)
  rw [List.length_drop] at h2
  refine ⟨by omega, by omega, fun j hj h5 h6 => ?_, fun hj => ?_⟩
  · have := h3 (j - (a + 1)) (by rw [List.length_drop]; omega) (by omega)
    rw [List.getElem_drop] at this
    simpa [show a + 1 + (j - (a + 1)) = j by omega] using this
  · have := h4 (by rw [List.length_drop]; omega)
    rw [List.getElem_drop] at this
    simpa [show a + 1 + (endFrom t[a].f1 (t.drop (a + 1)) (a + 1) - (a + 1)) = endFrom t[a].f1 (t.drop (a + 1)) (a + 1) by omega] using this
def KidOf (t : List S120) (a i : Nat) (x : Int) : Prop := ∃ (ha : a < t.length) (j : Nat) (hj : j < t.length), i ≤ j ∧ j < endI t a ∧ t[j].f0 = x ∧ t[j].f1 = wrap64 (t[a].f1 + 1)
theorem kids_l0 (t : List S120) (a : Nat) (ha : a < t.length) (hl : t.length ≤ 1099511627776) : ∀ (n i : Nat) (acc : List Int), i + n = endI t a → acc.length + n ≤ 1099511627776 →
    ∃ r : List Int, Ev (fun k => spec_l2Kids.l0 k t acc a i) (acc ++ r) ∧ r.length ≤ n ∧ ∀ x ∈ r, KidOf t a i x
  | 0, i, acc, h, hacc => by
    refine ⟨[], ?_, by simp, fun x hx => by cases hx⟩
    rw [List.append_nil]
    refine Ev.step (fun k => by simp only [spec_l2Kids.l0]; rfl) ?_
    refine Ev.bind (end_f t a ha hl) ?_
    refine ev_neg (by omega) ?_
    exact evnow _
  | n + 1, i, acc, h, hacc => by
    obtain ⟨e1, e2, _, _⟩ := endI_spec t a ha
    have hi : i < t.length := by omega
    by_cases hq : t[i].f1 = wrap64 (t[a].f1 + 1)
    · obtain ⟨r, hr, hlen, hk⟩ := kids_l0 t a ha hl n (i + 1) (acc ++ [t[i].f0]) (by omega) (by simp; omega)
      refine ⟨t[i].f0 :: r, ?_, by simp; omega, fun x hx => ?_⟩
      · rw [List.append_assoc] at hr
        refine Ev.step (fun k => by simp only [spec_l2Kids.l0]; rfl) ?_
        refine Ev.bind (end_f t a ha hl) ?_
        refine ev_pos (by omega) (ev_pos (by omega) (ev_pos (by omega) (ev_pos (by omega) (ev_pos (by omega) ?_))))
        rw [rdR_get t i hi, rdR_get t a ha, wrapS i (by omega) (by omega)]
        refine ev_pos hq (ev_pos (by omega) ?_)
        exact hr
      · rcases List.mem_cons.1 hx with rfl | hx
        · exact ⟨ha, i, hi, Nat.le_refl _, by omega, rfl, hq⟩
        · obtain ⟨h1, j, hj, h2, h3, h4, h5⟩ := hk x hx
          exact ⟨h1, j, hj, by omega, h3, h4, h5⟩
    · obtain ⟨r, hr, hlen, hk⟩ := kids_l0 t a ha hl n (i + 1) acc (by omega) (by omega)
      refine ⟨r, ?_, by omega, fun x hx => ?_⟩
      · refine Ev.step (fun k => by simp only [spec_l2Kids.l0]; rfl) ?_
        refine Ev.bind (end_f t a ha hl) ?_
        refine ev_pos (by omega) (ev_pos (by omega) (ev_pos (by omega) (ev_pos (by omega) (ev_pos (by omega) ?_))))
        rw [rdR_get t i hi, rdR_get t a ha, wrapS i (by omega) (by omega)]
        refine ev_neg hq ?_
        exact hr
      · obtain ⟨h1, j, hj, h2, h3, h4, h5⟩ := hk x hx
        exact ⟨h1, j, hj, by omega, h3, h4, h5⟩
/-- The rows right under row id: none, if it isn't there; else each stands under it, one deeper. -/
theorem kids_f (t : List S120) (id : Int) (hl : t.length ≤ 1000000) : ∃ r : List Int, Ev (fun k => spec_l2Kids.f k t id) r ∧ r.length ≤ t.length ∧ ∀ x ∈ r, ∃ a : Nat, atI t id = (a : Int) ∧ KidOf t a (a + 1) x := by
  unfold spec_l2Kids.f
  simp only [Option.bind_some]
  rcases atI_spec t id with ⟨h1, _⟩ | ⟨a, ha, h1, _⟩
  · refine ⟨[], ?_, by simp, fun x hx => by cases hx⟩
    refine Ev.bind (at_f t id (by omega)) ?_
    rw [h1]
    exact ev_pos (by omega) (evnow _)
  · obtain ⟨e1, e2, _, _⟩ := endI_spec t a ha
    obtain ⟨r, hr, hlen, hk⟩ := kids_l0 t a ha (by omega) (endI t a - (a + 1)) (a + 1) [] (by omega) (by simp; omega)
    refine ⟨r, ?_, by omega, fun x hx => ⟨a, h1, hk x hx⟩⟩
    refine Ev.bind (at_f t id (by omega)) ?_
    rw [h1]
    refine ev_neg (by omega) ?_
    rw [wrapS a (by omega) (by omega)]
    exact hr
end Go.Proofs.YtnclcbjagleoeaaDoor.PL
set_option linter.unusedVariables false
set_option linter.unusedSimpArgs false
namespace Go.Proofs.YtnclcbjagleoeaaDoor.PL
open Go.RowKit Go.Proofs.YtnclcbjagleoeaaDoor.P Go.Proofs.YtnclcbjagleoeaaDoorW.PrintWords Go.Proofs.YtnclcbjagleoeaaDoorW.PrintLast
def shift (d : Int) (r : S120) : S120 := ⟨r.f0, wrap64 (r.f1 + d), r.f2⟩
theorem put_l0 (t rows : List S120) (d : Int) (p : Nat) (hp : p ≤ t.length) (hl : t.length ≤ 1000000) (hr : rows.length ≤ 1000000) : ∀ (n i : Nat) (acc : List S120), i + n = rows.length → acc.length + n ≤ 3000000 →
    Ev (fun k => spec_l3Put.l0 k t rows d p acc i) (acc ++ (rows.drop i).map (shift d) ++ t.drop p)
  | 0, i, acc, h, ha => by
    rw [List.drop_eq_nil_of_le (show rows.length ≤ i by omega), List.map_nil, List.append_nil]
    refine Ev.step (fun k => by simp only [spec_l3Put.l0]; rfl) ?_
    refine ev_neg (by omega) (ev_pos (by omega) (ev_pos (by omega) ?_))
    simp only [Option.bind_some]
    refine ev_pos (by rw [List.length_drop]; omega) ?_
    exact evnow _
  | n + 1, i, acc, h, ha => by
    have hi : i < rows.length := by omega
    rw [List.drop_eq_getElem_cons hi, List.map_cons]
    have ih := put_l0 t rows d p hp hl hr n (i + 1) (acc ++ [shift d rows[i]]) (by omega) (by simp; omega)
    rw [List.append_assoc acc] at ih
    refine Ev.step (fun k => by simp only [spec_l3Put.l0]; rfl) ?_
    refine ev_pos (by omega) (ev_pos (by omega) (ev_pos (by omega) ?_))
    rw [rdR_get rows i hi, wrapS i (by omega) (by omega)]
    exact ih
theorem put_f (t rows : List S120) (u a : Int) (hl : t.length ≤ 1000000) (hr : rows.length ≤ 1000000) (h0 : 0 < rows.length) (hu : ∃ x ∈ t, x.f0 = u) (ha : a > 0 → ∃ x ∈ t, x.f0 = a) :
    ∃ (y : S120) (p : Nat), y ∈ t ∧ y.f0 = u ∧ p ≤ t.length ∧ Ev (fun k => spec_l3Put.f k t rows u a) (t.take p ++ rows.map (shift (wrap64 (wrap64 (y.f1 + 1) - rows[0].f1))) ++ t.drop p) := by
  obtain ⟨x, hx, hxu⟩ := hu
  obtain ⟨j, hj, e1, e2⟩ := atI_mem hx hxu
  have fin : ∀ (p : Nat), p ≤ t.length → Ev (fun k => spec_l3Put.j0 k t rows (wrap64 (wrap64 (t[j].f1 + 1) - rows[0].f1)) p) (t.take p ++ rows.map (shift (wrap64 (wrap64 (t[j].f1 + 1) - rows[0].f1))) ++ t.drop p) := fun p hp => by
    refine Ev.step (fun k => by simp only [spec_l3Put.j0]; rfl) ?_
    simp only [Option.bind_some]
    refine ev_pos (by omega) (ev_pos (by omega) ?_)
    refine ev_pos (by simp; omega) ?_
    simp only [List.nil_append, Int.toNat_natCast]
    have := put_l0 t rows (wrap64 (wrap64 (t[j].f1 + 1) - rows[0].f1)) p hp hl hr rows.length 0 (t.take p) (by omega) (by rw [List.length_take]; omega)
    simpa using this
  have r0 : rd_T120 rows 0 = rows[0] := rdR_get rows 0 h0
  by_cases h : a > 0
  · obtain ⟨x2, hx2, hxa⟩ := ha h
    obtain ⟨i, hi, e3, e4⟩ := atI_mem hx2 hxa
    obtain ⟨_, e5, _, _⟩ := endI_spec t i hi
    refine ⟨t[j], endI t i, List.getElem_mem hj, e2, e5, ?_⟩
    unfold spec_l3Put.f
    refine Ev.bind (at_f t u (by omega)) ?_
    rw [e1]
    refine ev_pos (by omega) (ev_pos (by omega) (ev_pos (by omega) (ev_pos h ?_)))
    refine Ev.bind (at_f t a (by omega)) ?_
    rw [e3]
    refine Ev.bind (end_f t i hi (by omega)) ?_
    rw [rdR_get t j hj, r0]
    exact fin _ e5
  · refine ⟨t[j], j + 1, List.getElem_mem hj, e2, by omega, ?_⟩
    unfold spec_l3Put.f
    refine Ev.bind (at_f t u (by omega)) ?_
    rw [e1]
    refine ev_pos (by omega) (ev_pos (by omega) (ev_pos (by omega) (ev_neg h ?_)))
    rw [rdR_get t j hj, r0, wrapS j (by omega) (by omega)]
    exact fin (j + 1) (by omega)
theorem under_f (t : List S120) (u id : Int) (k : Nat) (hk : k < t.length) (hi : atI t id = (k : Int)) (hl : t.length ≤ 1000000) :
    Ev (fun n => spec_l2Under.f n t u id) (decide (0 ≤ atI t u) && (decide ((k : Int) ≤ atI t u) && decide (atI t u ≤ (endI t k : Int) - 1))) := by
  obtain ⟨e1, e2, _, _⟩ := endI_spec t k hk
  unfold spec_l2Under.f
  refine Ev.bind (at_f t u (by omega)) ?_
  refine Ev.bind (at_f t id (by omega)) ?_
  rw [hi]
  by_cases h : atI t u ≥ 0
  · refine ev_pos h (ev_pos (by omega) ?_)
    refine Ev.bind (end_f t k hk (by omega)) ?_
    have hw : wrap64 ((endI t k : Int) - 1) = (endI t k : Int) - 1 := by unfold wrap64; omega
    rw [hw, in_f, decide_eq_true (show 0 ≤ atI t u from h), Bool.true_and]
    simp only [Option.bind_some]
    exact evnow _
  · rw [decide_eq_false (show ¬ 0 ≤ atI t u from h), Bool.false_and]
    exact ev_neg h (evnow _)
theorem where_l0 (u : Int) (ks : List Int) (kd id up at_ : Int) (s : ByteArray) (hl : ks.length ≤ 1000000) : ∀ (n i : Nat) (a : Int), i + n = ks.length → (a > 0 → a ∈ ks ∧ a ≠ id) → ∃ a' : Int, Ev (fun k => spec_l3Where.l0 k u a ks i kd id up at_ s) (u, a', true) ∧ (a' > 0 → a' ∈ ks ∧ a' ≠ id)
  | 0, i, a, h, ha => ⟨a, by
      refine Ev.step (fun k => by simp only [spec_l3Where.l0]; rfl) ?_
      exact ev_neg (by omega) (evnow _), ha⟩
  | n + 1, i, a, h, ha => by
    have hi : i < ks.length := by omega
    have hrd : rd ks i = ks[i] := by
      unfold rd
      rw [List.getD_eq_getElem?_getD, show ((i : Int)).toNat = i from rfl, List.getElem?_eq_getElem hi]
      rfl
    by_cases hq : ks[i] = at_ ∧ at_ ≠ id
    · obtain ⟨a', h1, h2⟩ := where_l0 u ks kd id up at_ s hl n (i + 1) at_ (by omega) (fun _ => ⟨hq.1 ▸ List.getElem_mem hi, hq.2⟩)
      refine ⟨a', ?_, h2⟩
      refine Ev.step (fun k => by simp only [spec_l3Where.l0]; rfl) ?_
      rw [hrd, wrapS i (by omega) (by omega)]
      exact ev_pos (by omega) (ev_pos (by omega) (ev_pos hq.1 (ev_neg hq.2 h1)))
    · obtain ⟨a', h1, h2⟩ := where_l0 u ks kd id up at_ s hl n (i + 1) a (by omega) ha
      refine ⟨a', ?_, h2⟩
      refine Ev.step (fun k => by simp only [spec_l3Where.l0]; rfl) ?_
      rw [hrd, wrapS i (by omega) (by omega)]
      refine ev_pos (by omega) (ev_pos (by omega) ?_)
      by_cases h3 : ks[i] = at_
      · refine ev_pos h3 (ev_pos ?_ h1)
        by_cases h4 : at_ = id
        · exact h4
        · exact absurd ⟨h3, h4⟩ hq
      · exact ev_neg h3 h1
/-- What an outline of the draws is: depths from 0 to B; the row for what lost its place is there, at 0. -/
structure Inv (t : List S120) (B : Int) : Prop where
  deep : ∀ x ∈ t, 0 ≤ x.f1 ∧ x.f1 ≤ B
  root : ∀ x ∈ t, x.f0 = 3 → x.f1 = 0
  found : ∃ x ∈ t, x.f0 = 3
  ids : ∀ x ∈ t, I64 x.f0
/-- A change is put under a row that is there (u, at place p), behind one that is there (a); of a move none of both is moved. -/
def Fits (t : List S120) (kd id : Int) (u a : Int) : Prop :=
  kd ≠ 2 ∧ (kd ≠ 3 → atI t id = -1) ∧ (kd = 3 → ∃ k : Nat, k < t.length ∧ atI t id = (k : Int)) ∧
  ∃ (p : Nat) (hp : p < t.length), t[p].f0 = u ∧ (a > 0 → ∃ (q : Nat) (hq : q < t.length), t[q].f0 = a ∧ ∀ k : Nat, kd = 3 → atI t id = (k : Int) → ¬ (k ≤ q ∧ q < endI t k)) ∧
    ∀ k : Nat, kd = 3 → atI t id = (k : Int) → ¬ (k ≤ p ∧ p < endI t k)
theorem where_f (t : List S120) (B kd id up at_ : Int) (s : ByteArray) (hI : Inv t B) (hB : B ≤ 1099511627776) (hid : id ≠ 3) (hl : t.length ≤ 1000000) :
    ∃ (u a : Int) (ok : Bool), Ev (fun n => spec_l3Where.f n t kd id up at_ s) (u, a, ok) ∧ (ok = true → Fits t kd id u a) := by
  have none_ : ∀ f : Nat → Option (Int × Int × Bool), (∀ n, f n = spec_l3Where.j0 n t true kd id up at_ s) → Ev f (0, 0, false) := fun f hf =>
    Ev.congr hf (Ev.step (f := fun _ => some (0, 0, false)) (fun n => by simp only [spec_l3Where.j0, if_true]) (evnow _))
  unfold spec_l3Where.f
  by_cases h2 : kd = 2
  · exact ⟨0, 0, false, Ev.bind (at_f t id (by omega)) (ev_pos h2 (none_ _ (fun n => rfl))), fun h => by cases h⟩
  · by_cases h3 : ((decide (atI t id ≥ 0)) != (kd == 3)) = true
    · exact ⟨0, 0, false, Ev.bind (at_f t id (by omega)) (ev_neg h2 (ev_pos h3 (none_ _ (fun n => rfl)))), fun h => by cases h⟩
    · have h3' : decide (atI t id ≥ 0) = (kd == 3) := by simpa using h3
      -- the rest: 'up' is there, or it isn't
      have rest : (∀ (p k : Nat), atI t up = (p : Int) → kd = 3 → atI t id = (k : Int) → ¬ (k ≤ p ∧ p < endI t k)) → ∃ (u a : Int), Ev (fun n => spec_l3Where.j0 n t false kd id up at_ s) (u, a, true) ∧ Fits t kd id u a := by
        intro hout
        have c1 : kd ≠ 3 → atI t id = -1 := fun hk => by
          have : (kd == 3) = false := beq_eq_false_iff_ne.2 hk
          rw [this] at h3'
          have h4 := of_decide_eq_false h3'
          rcases atI_spec t id with ⟨h5, _⟩ | ⟨j, hj, h5, _⟩
          · exact h5
          · omega
        have c2 : kd = 3 → ∃ k : Nat, k < t.length ∧ atI t id = (k : Int) := fun hk => by
          have : (kd == 3) = true := beq_iff_eq.2 hk
          rw [this] at h3'
          have h4 := of_decide_eq_true h3'
          rcases atI_spec t id with ⟨h5, _⟩ | ⟨j, hj, h5, _⟩
          · omega
          · exact ⟨j, hj, h5⟩
        rcases atI_spec t up with ⟨h5, _⟩ | ⟨p, hp, h5, h6⟩
        · obtain ⟨x, hx, hx3⟩ := hI.found
          obtain ⟨p, hp, rfl⟩ := List.getElem_of_mem hx
          refine ⟨3, 0, ?_, h2, c1, c2, p, hp, hx3, fun h => by omega, fun k hk hik hin => ?_⟩
          · refine Ev.step (fun n => by simp only [spec_l3Where.j0]; rfl) ?_
            refine ev_neg (by decide) ?_
            refine Ev.bind (at_f t up (by omega)) ?_
            exact ev_pos (by omega) (evnow _)
          · obtain ⟨k', hk', e⟩ := c2 hk
            obtain rfl : k' = k := by omega
            rcases Nat.eq_or_lt_of_le hin.1 with e6 | e6
            · subst e6
              rcases atI_spec t id with ⟨h7, _⟩ | ⟨j, hj, h7, h8⟩
              · omega
              · obtain rfl : j = k' := by omega
                exact hid (h8.symm.trans hx3)
            · have := (endI_spec t k' hk').2.2.1 p hp e6 hin.2
              have d1 := (hI.deep _ (List.getElem_mem hk')).1
              have d2 := hI.root _ hx hx3
              omega
        · obtain ⟨ks, hks, hkl, hkk⟩ := kids_f t up hl
          obtain ⟨a, ha, hak⟩ := where_l0 up ks kd id up at_ s (by omega) ks.length 0 0 (by omega) (fun h => by omega)
          refine ⟨up, a, ?_, h2, c1, c2, p, hp, h6, fun hpos => ?_, fun k hk hik => hout p k h5 hk hik⟩
          · refine Ev.step (fun n => by simp only [spec_l3Where.j0]; rfl) ?_
            refine ev_neg (by decide) ?_
            refine Ev.bind (at_f t up (by omega)) ?_
            refine ev_neg (by omega) ?_
            exact Ev.bind hks ha
          · obtain ⟨hmem, hne⟩ := hak hpos
            obtain ⟨p', hp', hpl, q, hq, hq1, hq2, hq3, hq4⟩ := hkk a hmem
            obtain rfl : p' = p := by omega
            refine ⟨q, hq, hq3, fun k hk hik hin => ?_⟩
            obtain ⟨k', hk', e⟩ := c2 hk
            obtain rfl : k' = k := by omega
            have out := hout p' k' h5 hk hik
            have hkq : k' ≠ q := by
              rintro rfl
              rcases atI_spec t id with ⟨h7, _⟩ | ⟨j, hj, h7, h8⟩
              · omega
              · obtain rfl : j = k' := by omega
                exact hne (hq3.symm.trans h8)
            have dq := (endI_spec t k' hk').2.2.1 q hq (by omega) hin.2
            have dB := hI.deep _ (List.getElem_mem hp)
            have hw : wrap64 (t[p'].f1 + 1) = t[p'].f1 + 1 := wrap_id _ (by omega) (by omega)
            rw [hw] at hq4
            rcases Nat.lt_or_ge p' k' with h9 | h9
            · have := (endI_spec t p' hp).2.2.1 k' hk' h9 (by omega)
              omega
            · exact out ⟨h9, by omega⟩
      by_cases h4 : atI t id ≥ 0
      · have h33 : kd = 3 := by
          rw [decide_eq_true h4] at h3'
          exact beq_iff_eq.1 h3'.symm
        rcases atI_spec t id with ⟨h5, _⟩ | ⟨k, hk, h5, h6⟩
        · omega
        have hu := under_f t up id k hk h5 hl
        cases hd : (decide (0 ≤ atI t up) && (decide ((k : Int) ≤ atI t up) && decide (atI t up ≤ (endI t k : Int) - 1))) with
        | true =>
          rw [hd] at hu
          exact ⟨0, 0, false, Ev.bind (at_f t id (by omega)) (ev_neg h2 (ev_neg h3 (ev_pos h4 (Ev.bind hu (none_ _ (fun n => rfl)))))), fun h => by cases h⟩
        | false =>
          rw [hd] at hu
          obtain ⟨u, a, h7, h8⟩ := rest (fun p k2 hp _ hk2 hin => by
            obtain rfl : k2 = k := by omega
            have : (decide (0 ≤ atI t up) && (decide ((k2 : Int) ≤ atI t up) && decide (atI t up ≤ (endI t k2 : Int) - 1))) = true := by
              simp only [Bool.and_eq_true, decide_eq_true_eq]
              omega
            rw [this] at hd
            cases hd)
          exact ⟨u, a, true, Ev.bind (at_f t id (by omega)) (ev_neg h2 (ev_neg h3 (ev_pos h4 (Ev.bind hu h7)))), fun _ => h8⟩
      · obtain ⟨u, a, h7, h8⟩ := rest (fun p k2 hp _ hk2 hin => by omega)
        exact ⟨u, a, true, Ev.bind (at_f t id (by omega)) (ev_neg h2 (ev_neg h3 (ev_neg h4 h7))), fun _ => h8⟩
theorem mem_rest {t : List S120} {k e j : Nat} (hj : j < t.length) (h : ¬ (k ≤ j ∧ j < e)) (hk : k ≤ e) : t[j] ∈ t.take k ++ t.drop e := by
  rcases Nat.lt_or_ge j k with h1 | h1
  · exact List.mem_append_left _ (List.mem_take_iff_getElem.2 ⟨j, by omega, rfl⟩)
  · exact List.mem_append_right _ (List.mem_drop_iff_getElem.2 ⟨j - e, by omega, by congr 1; omega⟩)
theorem rest_mem {t : List S120} {k e : Nat} {x : S120} (h : x ∈ t.take k ++ t.drop e) : x ∈ t := by
  rcases List.mem_append.1 h with h | h
  · exact List.mem_of_mem_take h
  · exact List.mem_of_mem_drop h
theorem Inv.more {t : List S120} {B C : Int} (h : Inv t B) (hc : B ≤ C) : Inv t C := ⟨fun x hx => ⟨(h.deep x hx).1, Int.le_trans (h.deep x hx).2 hc⟩, h.root, h.found, h.ids⟩
theorem do_f (t : List S120) (B kd id up at_ : Int) (s : ByteArray) (hI : Inv t B) (hB0 : 0 ≤ B) (hB : B ≤ 1099511627776) (hk : kd = 1 ∨ kd = 2 ∨ kd = 3) (hid : id ≠ 3) (hid64 : I64 id) (hl : t.length ≤ 100000) :
    ∃ t' : List S120, Ev (fun n => spec_l3Do.f n t kd id up at_ s) t' ∧ Inv t' (2 * B + 1) ∧ t'.length ≤ t.length + 1 := by
  have same : ∀ y : List S120, y = t → Inv y (2 * B + 1) ∧ y.length ≤ t.length + 1 := fun y hy => by
    subst hy
    exact ⟨hI.more (by omega), by omega⟩
  unfold spec_l3Do.f
  by_cases h2 : kd = 2
  · rcases atI_spec t id with ⟨h5, _⟩ | ⟨k, hk', h5, h6⟩
    · refine ⟨[] ++ t, Ev.bind (at_f t id (by omega)) (ev_pos h2 ?_), same _ (by simp)⟩
      simp only [Option.bind_some]
      refine ev_pos (by simp; omega) ?_
      rw [h5]
      exact ev_neg (by omega) (evnow _)
    · refine ⟨t.set k ⟨t[k].f0, t[k].f1, s⟩, Ev.bind (at_f t id (by omega)) (ev_pos h2 ?_), ?_, by rw [List.length_set]; omega⟩
      · simp only [Option.bind_some]
        refine ev_pos (by simp; omega) ?_
        rw [h5]
        simp only [List.nil_append, Int.toNat_natCast, rdR_get t k hk']
        exact ev_pos (by omega) (ev_pos (by omega) (ev_pos (by omega) (evnow _)))
      · have hm : ∀ x ∈ t.set k ⟨t[k].f0, t[k].f1, s⟩, ∃ y ∈ t, x.f0 = y.f0 ∧ x.f1 = y.f1 := fun x hx => by
          obtain ⟨i, hi, rfl⟩ := List.getElem_of_mem hx
          rw [List.length_set] at hi
          rw [List.getElem_set]
          split
          · exact ⟨t[k], List.getElem_mem hk', rfl, rfl⟩
          · exact ⟨t[i], List.getElem_mem hi, rfl, rfl⟩
        refine ⟨fun x hx => ?_, fun x hx h3 => ?_, ?_, fun x hx => ?_⟩
        · obtain ⟨y, hy, _, e⟩ := hm x hx
          have := hI.deep y hy
          rw [e]; omega
        · obtain ⟨y, hy, e0, e⟩ := hm x hx
          rw [e]
          exact hI.root y hy (e0 ▸ h3)
        · obtain ⟨x, hx, h3⟩ := hI.found
          obtain ⟨i, hi, rfl⟩ := List.getElem_of_mem hx
          refine ⟨(t.set k ⟨t[k].f0, t[k].f1, s⟩)[i]'(by rw [List.length_set]; exact hi), List.getElem_mem _, ?_⟩
          rw [List.getElem_set]
          split
          · rename_i e; subst e; exact h3
          · exact h3
        · obtain ⟨y, hy, e0, _⟩ := hm x hx
          rw [e0]
          exact hI.ids y hy
  · obtain ⟨u, a, ok, hw, hfit⟩ := where_f t B kd id up at_ s hI hB hid (by omega)
    cases ok with
    | false =>
      refine ⟨[] ++ t, Ev.bind (at_f t id (by omega)) (ev_neg h2 (Ev.bind hw (ev_neg (by simp) ?_))), same _ (by simp)⟩
      simp only [Option.bind_some]
      exact ev_pos (by simp; omega) (evnow _)
    | true =>
      obtain ⟨_, c1, c2, p, hp, hpu, hpa, hpo⟩ := hfit rfl
      by_cases h1 : kd = 1
      · obtain ⟨y, q, hy, hyu, hq, hev⟩ := put_f t [⟨id, 0, s⟩] u a (by omega) (by simp) (by simp) ⟨t[p], List.getElem_mem hp, hpu⟩ (fun h => by
          obtain ⟨q, hq, e, _⟩ := hpa h
          exact ⟨t[q], List.getElem_mem hq, e⟩)
        refine ⟨_, Ev.bind (at_f t id (by omega)) (ev_neg h2 (Ev.bind hw (ev_pos rfl (ev_pos h1 (Ev.bind hev (evnow _)))))), ?_, by simp; omega⟩
        have dy := hI.deep y hy
        have hw1 : wrap64 (wrap64 (y.f1 + 1) - 0) = y.f1 + 1 := by rw [wrap_id (y.f1 + 1) (by omega) (by omega), wrap_id _ (by omega) (by omega)]; omega
        have hmem : ∀ x ∈ t.take q ++ [(⟨id, 0, s⟩ : S120)].map (shift (wrap64 (wrap64 (y.f1 + 1) - ([(⟨id, 0, s⟩ : S120)])[0].f1))) ++ t.drop q, x ∈ t ∨ (x.f0 = id ∧ x.f1 = y.f1 + 1) := fun x hx => by
          rcases List.mem_append.1 hx with hx | hx
          · rcases List.mem_append.1 hx with hx | hx
            · exact Or.inl (List.mem_of_mem_take hx)
            · right
              simp only [List.map_cons, List.map_nil, List.mem_singleton] at hx
              subst hx
              refine ⟨rfl, ?_⟩
              show wrap64 (0 + wrap64 (wrap64 (y.f1 + 1) - 0)) = y.f1 + 1
              rw [hw1, wrap_id _ (by omega) (by omega)]
              omega
          · exact Or.inl (List.mem_of_mem_drop hx)
        refine ⟨fun x hx => ?_, fun x hx h3 => ?_, ?_, fun x hx => ?_⟩
        · rcases hmem x hx with h | ⟨_, h⟩
          · have := hI.deep x h
            omega
          · rw [h]; omega
        · rcases hmem x hx with h | ⟨h, _⟩
          · exact hI.root x h h3
          · exact absurd (h.symm.trans h3) hid
        · obtain ⟨x, hx, h3⟩ := hI.found
          rw [← List.take_append_drop q t] at hx
          rcases List.mem_append.1 hx with hx | hx
          · exact ⟨x, List.mem_append_left _ (List.mem_append_left _ hx), h3⟩
          · exact ⟨x, List.mem_append_right _ hx, h3⟩
        · rcases hmem x hx with h | ⟨h, _⟩
          · exact hI.ids x h
          · rw [h]; exact hid64
      · have h33 : kd = 3 := by
          rcases hk with h | h | h
          · exact absurd h h1
          · exact absurd h h2
          · exact h
        obtain ⟨k, hk', h5⟩ := c2 h33
        obtain ⟨e1, e2, e3, _⟩ := endI_spec t k hk'
        have hkid : t[k].f0 = id := by
          rcases atI_spec t id with ⟨h7, _⟩ | ⟨j, hj, h7, h8⟩
          · omega
          · obtain rfl : j = k := by omega
            exact h8
        have hout := hpo k h33 h5
        obtain ⟨rest, hrest⟩ : ∃ r, r = t.take k ++ t.drop (endI t k) := ⟨_, rfl⟩
        obtain ⟨rows, hrows⟩ : ∃ r, r = (t.take (endI t k)).drop k := ⟨_, rfl⟩
        have hrl : rows.length = endI t k - k := by rw [hrows, List.length_drop, List.length_take]; omega
        have hsl : rest.length = k + (t.length - endI t k) := by rw [hrest, List.length_append, List.length_take, List.length_drop]; omega
        have hr0 : rows[0]'(by omega) = t[k] := by
          simp only [hrows, List.getElem_drop, List.getElem_take]
          rfl
        have hrm : ∀ x ∈ rows, ∃ (j : Nat) (hj : j < t.length), k ≤ j ∧ j < endI t k ∧ x = t[j] := fun x hx => by
          rw [hrows] at hx
          obtain ⟨i, hi, rfl⟩ := List.getElem_of_mem hx
          rw [List.length_drop, List.length_take] at hi
          refine ⟨k + i, by omega, by omega, by omega, ?_⟩
          rw [List.getElem_drop, List.getElem_take]
        obtain ⟨y, q, hy, hyu, hq, hev⟩ := put_f rest rows u a (by omega) (by omega) (by omega) ⟨t[p], by rw [hrest]; exact mem_rest hp hout (by omega), hpu⟩ (fun h => by
          obtain ⟨q, hq, e, ho⟩ := hpa h
          exact ⟨t[q], by rw [hrest]; exact mem_rest hq (ho k h33 h5) (by omega), e⟩)
        refine ⟨rest.take q ++ rows.map (shift (wrap64 (wrap64 (y.f1 + 1) - (rows[0]'(by omega)).f1))) ++ rest.drop q, Ev.bind (at_f t id (by omega)) (ev_neg h2 (Ev.bind hw (ev_pos rfl (ev_neg h1 ?_)))), ?_, ?_⟩
        rotate_left
        · have hyt : y ∈ t := rest_mem (hrest ▸ hy)
          have dy := hI.deep y hyt
          have dk := hI.deep _ (List.getElem_mem hk')
          have hw1 : wrap64 (wrap64 (y.f1 + 1) - (rows[0]'(by omega)).f1) = y.f1 + 1 - t[k].f1 := by rw [hr0, wrap_id (y.f1 + 1) (by omega) (by omega), wrap_id _ (by omega) (by omega)]
          rw [hw1]
          have hmem : ∀ x ∈ rest.take q ++ rows.map (shift (y.f1 + 1 - t[k].f1)) ++ rest.drop q, x ∈ t ∨ (x.f0 ≠ 3 ∧ (0 ≤ x.f1 ∧ x.f1 ≤ 2 * B + 1) ∧ I64 x.f0) := fun x hx => by
            rcases List.mem_append.1 hx with hx | hx
            · rcases List.mem_append.1 hx with hx | hx
              · exact Or.inl (rest_mem (hrest ▸ List.mem_of_mem_take hx))
              · right
                obtain ⟨z, hz, rfl⟩ := List.mem_map.1 hx
                obtain ⟨j, hj, hkj, hje, rfl⟩ := hrm z hz
                have dj := hI.deep _ (List.getElem_mem hj)
                have hge : t[k].f1 ≤ t[j].f1 := by
                  rcases Nat.eq_or_lt_of_le hkj with e | e
                  · subst e; exact Int.le_refl _
                  · exact Int.le_of_lt (e3 j hj e hje)
                have hf : (shift (y.f1 + 1 - t[k].f1) t[j]).f1 = t[j].f1 + (y.f1 + 1 - t[k].f1) := wrap_id _ (by omega) (by omega)
                refine ⟨?_, ⟨by rw [hf]; omega, by rw [hf]; omega⟩, hI.ids t[j] (List.getElem_mem hj)⟩
                show t[j].f0 ≠ 3
                intro h3
                rcases Nat.eq_or_lt_of_le hkj with e | e
                · subst e; exact hid (hkid.symm.trans h3)
                · have := e3 j hj e hje
                  have := hI.root _ (List.getElem_mem hj) h3
                  omega
            · exact Or.inl (rest_mem (hrest ▸ List.mem_of_mem_drop hx))
          refine ⟨fun x hx => ?_, fun x hx h3 => ?_, ?_, fun x hx => ?_⟩
          · rcases hmem x hx with h | ⟨_, h, _⟩
            · have := hI.deep x h
              omega
            · exact h
          · rcases hmem x hx with h | ⟨h, _⟩
            · exact hI.root x h h3
            · exact absurd h3 h
          · obtain ⟨x, hx, h3⟩ := hI.found
            obtain ⟨j, hj, rfl⟩ := List.getElem_of_mem hx
            have hj3 : ¬ (k ≤ j ∧ j < endI t k) := by
              rintro ⟨g1, g2⟩
              rcases Nat.eq_or_lt_of_le g1 with e | e
              · subst e; exact hid (hkid.symm.trans h3)
              · have := e3 j hj e g2
                have := hI.root _ (List.getElem_mem hj) h3
                omega
            have hxr : t[j] ∈ rest := by rw [hrest]; exact mem_rest hj hj3 (by omega)
            rw [← List.take_append_drop q rest] at hxr
            rcases List.mem_append.1 hxr with hx | hx
            · exact ⟨_, List.mem_append_left _ (List.mem_append_left _ hx), h3⟩
            · exact ⟨_, List.mem_append_right _ hx, h3⟩
          · rcases hmem x hx with h | ⟨_, _, h⟩
            · exact hI.ids x h
            · exact h
        · rw [List.length_append, List.length_append, List.length_map, List.length_take, List.length_drop]
          omega
        · rw [h5]
          refine Ev.bind (end_f t k hk' (by omega)) ?_
          simp only [Option.bind_some, Int.toNat_natCast]
          refine ev_pos (by omega) (ev_pos (by omega) (ev_pos (by omega) ?_))
          refine ev_pos (by rw [List.length_drop, List.length_take]; simp; omega) ?_
          refine ev_pos (by omega) ?_
          refine ev_pos (by rw [List.length_take]; simp; omega) ?_
          refine ev_pos (by omega) ?_
          refine ev_pos (by rw [List.length_append, List.length_take, List.length_drop]; simp; omega) ?_
          simp only [List.nil_append]
          rw [← hrest, ← hrows]
          exact Ev.bind hev (evnow _)
end Go.Proofs.YtnclcbjagleoeaaDoor.PL
set_option linter.unusedVariables false
set_option linter.unusedSimpArgs false
namespace Go.Proofs.YtnclcbjagleoeaaDoor.PL
open Go.RowKit Go.Proofs.YtnclcbjagleoeaaDoor.P Go.Proofs.YtnclcbjagleoeaaDoorW.PrintWords Go.Proofs.YtnclcbjagleoeaaDoorW.PrintLast
theorem of_f (b : List Int) (p : Int) (m : Nat) (l : List ByteArray) (hb : Bytes b) (hp : Rd p (m + 1)) (h1 : 1 ≤ l.length) (h2 : l.length ≤ 1000) : ∃ (s : ByteArray), Ev (fun k => spec_l6Rd_of.f k b p l) (s, p + 1) ∧ s ∈ l := by
  obtain ⟨r, hr, _, h0, hlt, _⟩ := pick_f b p (l.length : Int) m hb hp
  have hlt := hlt (by omega)
  have hi : r.toNat < l.length := by omega
  refine ⟨l[r.toNat], ?_, List.getElem_mem hi⟩
  unfold spec_l6Rd_of.f
  refine Ev.bind hr ?_
  refine ev_pos h0 (ev_pos hlt ?_)
  have : rdOf ByteArray.empty l r = l[r.toNat] := by
    unfold rdOf
    rw [List.getD_eq_getElem?_getD, List.getElem?_eq_getElem hi]
    rfl
  rw [this]
  exact evnow _
theorem text_l0_f (b : List Int) (hb : Bytes b) : ∀ (n : Nat) (s : ByteArray) (p : Int) (m : Nat), s.size + n ≤ 1000 → Rd p (m + n + 2) → ∃ (s' : ByteArray) (p' : Int), Ev (fun k => spec_l71Text.l0 k s n b p) (s', p') ∧ Rd p' m ∧ s'.size ≤ 1010
  | 0, s, p, m, hs, hp => by
    obtain ⟨r, hr, hR, _, _, _⟩ := pick_f b p 40 (m + 1) hb hp
    by_cases h0 : r = 0
    · obtain ⟨u, hu, hm⟩ := of_f b (p + 1) m [(⟨#[101]⟩ : ByteArray), (⟨#[32]⟩ : ByteArray), (⟨#[97, 97, 97, 97]⟩ : ByteArray), (⟨#[39]⟩ : ByteArray)] hb hR (by simp) (by simp)
      have hz : u.size ≤ 4 := by
        simp only [List.mem_cons, List.not_mem_nil, or_false] at hm
        rcases hm with rfl | rfl | rfl | rfl <;> decide
      refine ⟨s ++ u, p + 1 + 1, ?_, ⟨by have := hR.1; omega, by have := hR.2; omega⟩, by rw [ByteArray.size_append]; omega⟩
      refine Ev.step (fun k => by simp only [spec_l71Text.l0]; rfl) ?_
      refine ev_neg (by omega) (Ev.bind hr (ev_pos h0 (Ev.bind hu (ev_pos (show s.size + u.size ≤ 9223372036854775807 by omega) (evnow _)))))
    · refine ⟨s, p + 1, ?_, hR.less (by omega), by omega⟩
      refine Ev.step (fun k => by simp only [spec_l71Text.l0]; rfl) ?_
      exact ev_neg (by omega) (Ev.bind hr (ev_neg h0 (evnow _)))
  | n + 1, s, p, m, hs, hp => by
    obtain ⟨u, hu, hm⟩ := of_f b p (m + n + 2) [(⟨#[97]⟩ : ByteArray), (⟨#[98]⟩ : ByteArray), (⟨#[99]⟩ : ByteArray), (⟨#[100]⟩ : ByteArray)] hb (hp.less (by omega)) (by simp) (by simp)
    have hz : u.size = 1 := by
      simp only [List.mem_cons, List.not_mem_nil, or_false] at hm
      rcases hm with rfl | rfl | rfl | rfl <;> decide
    obtain ⟨s', p', h1, h2, h3⟩ := text_l0_f b hb n (s ++ u) (p + 1) m (by rw [ByteArray.size_append]; omega) ⟨by have := hp.1; omega, by have := hp.2; omega⟩
    refine ⟨s', p', ?_, h2, h3⟩
    refine Ev.step (fun k => by simp only [spec_l71Text.l0]; rfl) ?_
    refine ev_pos (by omega) (Ev.bind hu (ev_pos (show s.size + u.size ≤ 9223372036854775807 by omega) ?_))
    have hw : wrap64 (((n + 1 : Nat) : Int) - 1) = n := by rw [wrap_id _ (by omega) (by have := hs; omega)]; omega
    rw [hw]
    exact h1
theorem dtext_f (b : List Int) (p : Int) (m : Nat) (hb : Bytes b) (hp : Rd p (m + 6)) : ∃ (s : ByteArray) (p' : Int), Ev (fun k => spec_l71Text.f k b p) (s, p') ∧ Rd p' m ∧ s.size ≤ 1010 := by
  obtain ⟨r, hr, hR, h0, hlt, _⟩ := pick_f b p 4 (m + 5) hb hp
  have hlt := hlt (by omega)
  obtain ⟨n, rfl⟩ : ∃ n : Nat, r = n := ⟨r.toNat, by omega⟩
  obtain ⟨s', p', h1, h2, h3⟩ := text_l0_f b hb n ⟨#[]⟩ (p + 1) m (by show 0 + n ≤ 1000; omega) (hR.less (by omega))
  refine ⟨s', p', ?_, h2, h3⟩
  unfold spec_l71Text.f
  exact Ev.bind hr h1
theorem did_f (b : List Int) (p : Int) (m : Nat) (hb : Bytes b) (hp : Rd p (m + 2)) : ∃ r p' : Int, Ev (fun k => spec_l71Id.f k b p) (r, p') ∧ Rd p' m ∧ 11 ≤ r ∧ r ≤ 44 := by
  obtain ⟨x, hx, hR, x0, x1, _⟩ := pick_f b p 3 (m + 1) hb hp
  obtain ⟨y, hy, hR2, y0, y1, _⟩ := pick_f b (p + 1) 4 m hb hR
  have x1 := x1 (by omega)
  have y1 := y1 (by omega)
  have e : wrap64 (wrap64 (wrap64 (10 * wrap64 (1 + x)) + 1) + y) = 10 * (1 + x) + 1 + y := by
    rw [wrap_id (1 + x) (by omega) (by omega), wrap_id (10 * (1 + x)) (by omega) (by omega), wrap_id (10 * (1 + x) + 1) (by omega) (by omega), wrap_id _ (by omega) (by omega)]
  refine ⟨10 * (1 + x) + 1 + y, p + 1 + 1, ?_, hR2, by omega, by omega⟩
  unfold spec_l71Id.f
  refine Ev.bind hx (Ev.bind hy ?_)
  rw [e]
  exact evnow _
theorem rowMade_f (w n : Int) : ∃ r : Int, spec_RowMade.f w n = some r ∧ (r = 0 ∨ 11 ≤ r ∧ r ≤ 36) := by
  unfold spec_RowMade.f
  simp only [in_f, Option.bind_some]
  cases h1 : (decide (1 ≤ w) && decide (w ≤ 3)) with
  | false => exact ⟨0, by simp, Or.inl rfl⟩
  | true =>
    cases h2 : (decide (1 ≤ n) && decide (n ≤ 6)) with
    | false => exact ⟨0, by simp, Or.inl rfl⟩
    | true =>
      simp only [Bool.and_eq_true, decide_eq_true_eq] at h1 h2
      refine ⟨10 * w + n, ?_, Or.inr ⟨by omega, by omega⟩⟩
      simp only [if_true]
      rw [wrap_id (10 * w) (by omega) (by omega), wrap_id _ (by omega) (by omega)]
/-- A drawn change: of one of the three kinds, of a row that is not the one for what lost its place, of 64 bits. -/
def OpD (k i u a : Int) (s : ByteArray) : Prop := (k = 1 ∨ k = 2 ∨ k = 3) ∧ i ≠ 3 ∧ I64 i ∧ I64 u ∧ I64 a ∧ s.size ≤ 2000
theorem i64_small {x : Int} (h0 : -1000 ≤ x) (h1 : x ≤ 1000) : I64 x := ⟨by omega, by omega⟩
theorem made_ne {i : Int} (h : madeB i = true) : i ≠ 3 := by
  rintro rfl
  exact absurd h (by decide)
theorem op_j4 (b : List Int) (hb : Bytes b) (w md id up at_ : Int) (s : ByteArray) (f : Bool) (p : Int) (m : Nat) (hi : I64 id) (hu : I64 up) (ha : I64 at_) (hs : s.size ≤ 2000) (hp : Rd p (m + 3)) :
    ∃ (k i u a : Int) (s' : ByteArray) (p' : Int), Ev (fun n => spec_l72Op.j4 n w md id up at_ s f b p) (k, i, u, a, s', p') ∧ OpD k i u a s' ∧ Rd p' m := by
  cases f with
  | true =>
    obtain ⟨r, hr, hrr⟩ := rowMade_f w (wrap64 (md + 1))
    refine ⟨1, r, up, at_, s, p, ?_, ⟨Or.inl rfl, by omega, i64_small (by omega) (by omega), hu, ha, hs⟩, hp.less (by omega)⟩
    refine Ev.step (fun n => by simp only [spec_l72Op.j4]; rfl) ?_
    refine ev_pos (by simp) ?_
    rw [hr]
    simp only [Option.bind_some]
    exact evnow _
  | false =>
    cases hm : madeB id with
    | true =>
      obtain ⟨r, hr, hR, _, _, _⟩ := pick_f b p 3 (m + 2) hb hp
      by_cases h0 : r = 0
      · refine ⟨2, id, 0, 0, s, p + 1, ?_, ⟨Or.inr (Or.inl rfl), made_ne hm, hi, i64_small (by omega) (by omega), i64_small (by omega) (by omega), hs⟩, hR.less (by omega)⟩
        refine Ev.step (fun n => by simp only [spec_l72Op.j4]; rfl) ?_
        refine ev_neg (by decide) ?_
        rw [made_f id hi, hm]
        simp only [Option.bind_some]
        exact ev_pos (by simp) (Ev.bind hr (ev_pos h0 (evnow _)))
      · refine ⟨3, id, up, at_, ⟨#[]⟩, p + 1, ?_, ⟨Or.inr (Or.inr rfl), made_ne hm, hi, hu, ha, by decide⟩, hR.less (by omega)⟩
        refine Ev.step (fun n => by simp only [spec_l72Op.j4]; rfl) ?_
        refine ev_neg (by decide) ?_
        rw [made_f id hi, hm]
        simp only [Option.bind_some]
        exact ev_pos (by simp) (Ev.bind hr (ev_neg h0 (evnow _)))
    | false =>
      obtain ⟨x, p1, hx, hR1, x0, x1⟩ := did_f b p (m + 1) hb hp
      obtain ⟨r, hr, hR, _, _, _⟩ := pick_f b p1 3 m hb hR1
      by_cases h0 : r = 0
      · refine ⟨2, x, 0, 0, s, p1 + 1, ?_, ⟨Or.inr (Or.inl rfl), by omega, i64_small (by omega) (by omega), i64_small (by omega) (by omega), i64_small (by omega) (by omega), hs⟩, hR⟩
        refine Ev.step (fun n => by simp only [spec_l72Op.j4]; rfl) ?_
        refine ev_neg (by decide) ?_
        rw [made_f id hi, hm]
        simp only [Option.bind_some]
        exact ev_neg (by decide) (Ev.bind hx (Ev.bind hr (ev_pos h0 (evnow _))))
      · refine ⟨3, x, up, at_, ⟨#[]⟩, p1 + 1, ?_, ⟨Or.inr (Or.inr rfl), by omega, i64_small (by omega) (by omega), hu, ha, by decide⟩, hR⟩
        refine Ev.step (fun n => by simp only [spec_l72Op.j4]; rfl) ?_
        refine ev_neg (by decide) ?_
        rw [made_f id hi, hm]
        simp only [Option.bind_some]
        exact ev_neg (by decide) (Ev.bind hx (Ev.bind hr (ev_neg h0 (evnow _))))
theorem op_j3 (b : List Int) (hb : Bytes b) (w md id up at_ : Int) (s : ByteArray) (p : Int) (m : Nat) (hi : I64 id) (hu : I64 up) (ha : I64 at_) (hs : s.size ≤ 2000) (hp : Rd p (m + 4)) :
    ∃ (k i u a : Int) (s' : ByteArray) (p' : Int), Ev (fun n => spec_l72Op.j3 n w md id up at_ s b p) (k, i, u, a, s', p') ∧ OpD k i u a s' ∧ Rd p' m := by
  by_cases h6 : md < 6
  · obtain ⟨r, hr, hR, _, _, _⟩ := pick_f b p 3 (m + 3) hb hp
    by_cases h0 : r = 0
    · obtain ⟨k, i, u, a, s', p', h1, h2, h3⟩ := op_j4 b hb w md id up at_ s true (p + 1) m hi hu ha hs hR
      refine ⟨k, i, u, a, s', p', ?_, h2, h3⟩
      refine Ev.step (fun n => by simp only [spec_l72Op.j3]; rfl) ?_
      exact ev_pos h6 (Ev.bind hr (ev_pos h0 h1))
    · obtain ⟨k, i, u, a, s', p', h1, h2, h3⟩ := op_j4 b hb w md id up at_ s (!(madeB id)) (p + 1) m hi hu ha hs hR
      refine ⟨k, i, u, a, s', p', ?_, h2, h3⟩
      refine Ev.step (fun n => by simp only [spec_l72Op.j3]; rfl) ?_
      rw [made_f id hi]
      simp only [Option.bind_some]
      exact ev_pos h6 (Ev.bind hr (ev_neg h0 h1))
  · obtain ⟨k, i, u, a, s', p', h1, h2, h3⟩ := op_j4 b hb w md id up at_ s false p m hi hu ha hs (hp.less (by omega))
    refine ⟨k, i, u, a, s', p', ?_, h2, h3⟩
    refine Ev.step (fun n => by simp only [spec_l72Op.j3]; rfl) ?_
    exact ev_neg h6 h1
theorem op_j2 (b : List Int) (hb : Bytes b) (w md id up at_ : Int) (s : ByteArray) (p : Int) (m : Nat) (hi : I64 id) (hu : I64 up) (ha : I64 at_) (hs : s.size ≤ 2000) (hp : Rd p (m + 7)) :
    ∃ (k i u a : Int) (s' : ByteArray) (p' : Int), Ev (fun n => spec_l72Op.j2 n w md id up at_ s b p) (k, i, u, a, s', p') ∧ OpD k i u a s' ∧ Rd p' m := by
  obtain ⟨r, hr, hR, _, _, _⟩ := pick_f b p 6 (m + 6) hb hp
  by_cases h0 : r = 0
  · obtain ⟨x, p1, hx, hR1, x0, x1⟩ := did_f b (p + 1) (m + 4) hb hR
    obtain ⟨k, i, u, a, s', p', h1, h2, h3⟩ := op_j3 b hb w md id x at_ s p1 m hi (i64_small (by omega) (by omega)) ha hs hR1
    refine ⟨k, i, u, a, s', p', ?_, h2, h3⟩
    refine Ev.step (fun n => by simp only [spec_l72Op.j2]; rfl) ?_
    exact Ev.bind hr (ev_pos h0 (Ev.bind hx h1))
  · obtain ⟨k, i, u, a, s', p', h1, h2, h3⟩ := op_j3 b hb w md id up at_ s (p + 1) m hi hu ha hs (hR.less (by omega))
    refine ⟨k, i, u, a, s', p', ?_, h2, h3⟩
    refine Ev.step (fun n => by simp only [spec_l72Op.j2]; rfl) ?_
    exact Ev.bind hr (ev_neg h0 h1)
theorem op_j1 (b : List Int) (hb : Bytes b) (w md id up at_ : Int) (p : Int) (m : Nat) (hi : I64 id) (hu : I64 up) (ha : I64 at_) (hp : Rd p (m + 13)) :
    ∃ (k i u a : Int) (s' : ByteArray) (p' : Int), Ev (fun n => spec_l72Op.j1 n w md id up at_ b p) (k, i, u, a, s', p') ∧ OpD k i u a s' ∧ Rd p' m := by
  obtain ⟨s, p1, hx, hR1, hs⟩ := dtext_f b p (m + 7) hb hp
  have ht := text_f s (by omega)
  cases hB : textB s with
  | true =>
    rw [hB] at ht
    obtain ⟨k, i, u, a, s', p', h1, h2, h3⟩ := op_j2 b hb w md id up at_ s p1 m hi hu ha (by omega) hR1
    refine ⟨k, i, u, a, s', p', ?_, h2, h3⟩
    refine Ev.step (fun n => by simp only [spec_l72Op.j1]; rfl) ?_
    exact Ev.bind hx (Ev.bind ht (ev_pos rfl h1))
  | false =>
    rw [hB] at ht
    obtain ⟨k, i, u, a, s', p', h1, h2, h3⟩ := op_j2 b hb w md id up at_ ⟨#[97]⟩ p1 m hi hu ha (by decide) hR1
    refine ⟨k, i, u, a, s', p', ?_, h2, h3⟩
    refine Ev.step (fun n => by simp only [spec_l72Op.j1]; rfl) ?_
    exact Ev.bind hx (Ev.bind ht (ev_neg (by decide) h1))
theorem op_j0 (b : List Int) (hb : Bytes b) (w md id up at_ : Int) (ks : List Int) (f : Bool) (p : Int) (m : Nat) (hi : I64 id) (hu : I64 up) (ha : I64 at_) (hk : ∀ x ∈ ks, I64 x) (hk0 : f = true → 0 < ks.length) (hp : Rd p (m + 14)) :
    ∃ (k i u a : Int) (s' : ByteArray) (p' : Int), Ev (fun n => spec_l72Op.j0 n w md id up ks at_ f b p) (k, i, u, a, s', p') ∧ OpD k i u a s' ∧ Rd p' m := by
  cases f with
  | true =>
    have h0 := hk0 rfl
    obtain ⟨r, hr, hR, r0, r1, _⟩ := pick_f b p (ks.length : Int) (m + 13) hb hp
    have r1 := r1 (by omega)
    have hi' : r.toNat < ks.length := by omega
    have hrd : rd ks r = ks[r.toNat] := by
      unfold rd
      rw [List.getD_eq_getElem?_getD, List.getElem?_eq_getElem hi']
      rfl
    obtain ⟨k, i, u, a, s', p', h1, h2, h3⟩ := op_j1 b hb w md id up (ks[r.toNat]) (p + 1) m hi hu (hk _ (List.getElem_mem hi')) hR
    refine ⟨k, i, u, a, s', p', ?_, h2, h3⟩
    refine Ev.step (fun n => by simp only [spec_l72Op.j0]; rfl) ?_
    refine ev_pos (by simp) (Ev.bind hr (ev_pos r0 (ev_pos r1 ?_)))
    rw [hrd]
    exact h1
  | false =>
    obtain ⟨k, i, u, a, s', p', h1, h2, h3⟩ := op_j1 b hb w md id up at_ p m hi hu ha (hp.less (by omega))
    refine ⟨k, i, u, a, s', p', ?_, h2, h3⟩
    refine Ev.step (fun n => by simp only [spec_l72Op.j0]; rfl) ?_
    exact ev_neg (by decide) h1
theorem op72_f (b : List Int) (hb : Bytes b) (t : List S120) (B w md p : Int) (m : Nat) (hI : Inv t B) (hl : t.length ≤ 1000000) (hp : Rd p (m + 17)) :
    ∃ (k i u a : Int) (s' : ByteArray) (p' : Int), Ev (fun n => spec_l72Op.f n b p t w md) (k, i, u, a, s', p') ∧ OpD k i u a s' ∧ Rd p' m := by
  obtain ⟨x, hx, _⟩ := hI.found
  have h0 : 0 < t.length := List.length_pos_of_mem hx
  obtain ⟨r, hr, hR, r0, r1, _⟩ := pick_f b p (t.length : Int) (m + 16) hb hp
  have r1 := r1 (by omega)
  obtain ⟨q, hq, hQ, q0, q1, _⟩ := pick_f b (p + 1) (t.length : Int) (m + 15) hb hR
  have q1 := q1 (by omega)
  obtain ⟨rn, rfl⟩ : ∃ n : Nat, r = n := ⟨r.toNat, by omega⟩
  obtain ⟨qn, rfl⟩ : ∃ n : Nat, q = n := ⟨q.toNat, by omega⟩
  have hrn : rn < t.length := by omega
  have hqn : qn < t.length := by omega
  have ir := hI.ids _ (List.getElem_mem hrn)
  have iq := hI.ids _ (List.getElem_mem hqn)
  obtain ⟨ks, hks, hkl, hkk⟩ := kids_f t t[qn].f0 hl
  have hk64 : ∀ x ∈ ks, I64 x := fun x hx => by
    obtain ⟨_, _, _, j, hj, _, _, e, _⟩ := hkk x hx
    rw [← e]
    exact hI.ids _ (List.getElem_mem hj)
  by_cases hz : (ks.length : Int) > 0
  · obtain ⟨z, hz', hZ, _, _, _⟩ := pick_f b (p + 1 + 1) 2 (m + 14) hb hQ
    obtain ⟨k, i, u, a, s', p', h1, h2, h3⟩ := op_j0 b hb w md t[rn].f0 t[qn].f0 0 ks (z == 0) (p + 1 + 1 + 1) m ir iq (i64_small (by omega) (by omega)) hk64 (fun _ => by omega) hZ
    refine ⟨k, i, u, a, s', p', ?_, h2, h3⟩
    unfold spec_l72Op.f
    refine Ev.bind hr (ev_pos r0 (ev_pos r1 (Ev.bind hq (ev_pos q0 (ev_pos q1 ?_)))))
    simp only [rdR_get t rn hrn, rdR_get t qn hqn]
    exact Ev.bind hks (ev_pos hz (Ev.bind hz' h1))
  · obtain ⟨k, i, u, a, s', p', h1, h2, h3⟩ := op_j0 b hb w md t[rn].f0 t[qn].f0 0 ks false (p + 1 + 1) m ir iq (i64_small (by omega) (by omega)) hk64 (fun h => by cases h) (hQ.less (by omega))
    refine ⟨k, i, u, a, s', p', ?_, h2, h3⟩
    unfold spec_l72Op.f
    refine Ev.bind hr (ev_pos r0 (ev_pos r1 (Ev.bind hq (ev_pos q0 (ev_pos q1 ?_)))))
    simp only [rdR_get t rn hrn, rdR_get t qn hqn]
    exact Ev.bind hks (ev_neg hz h1)
end Go.Proofs.YtnclcbjagleoeaaDoor.PL
set_option linter.unusedVariables false
set_option linter.unusedSimpArgs false
namespace Go.Proofs.YtnclcbjagleoeaaDoor.PL
open Go.RowKit Go.Proofs.YtnclcbjagleoeaaDoor.P Go.Proofs.YtnclcbjagleoeaaDoorW.PrintWords Go.Proofs.YtnclcbjagleoeaaDoorW.PrintLast
theorem wrap_I64 (x : Int) : I64 (wrap64 x) := by unfold wrap64; exact ⟨by omega, by omega⟩
def OpX (k i u a : Int) (s : ByteArray) : Prop := I64 k ∧ I64 i ∧ I64 u ∧ I64 a ∧ s.size ≤ 2000
theorem opx_j1 (b : List Int) (hb : Bytes b) (k i u a p : Int) (s : ByteArray) (m : Nat) (h : OpX k i u a s) (hp : Rd p (m + 2)) :
    ∃ (k' i' u' a' : Int) (s' : ByteArray) (p' : Int), Ev (fun n => spec_l71Op.j1 n b p k i u a s) (k', i', u', a', s', p') ∧ OpX k' i' u' a' s' ∧ Rd p' m := by
  obtain ⟨h1, h2, h3, h4, h5⟩ := h
  obtain ⟨r, hr, hR, r0, r1, _⟩ := pick_f b p 30 (m + 1) hb hp
  obtain ⟨x, hx, hX, x0, x1, _⟩ := pick_f b (p + 1) 5 m hb hR
  obtain ⟨y, hy, hY, y0, y1, _⟩ := pick_f b (p + 1) 50 m hb hR
  have x1 := x1 (by omega)
  have y1 := y1 (by omega)
  have ix : I64 x := i64_small (by omega) (by omega)
  have iy : I64 y := i64_small (by omega) (by omega)
  by_cases e0 : r = 0
  · refine ⟨x, i, u, a, s, p + 1 + 1, ?_, ⟨ix, h2, h3, h4, h5⟩, hX⟩
    refine Ev.step (fun n => by simp only [spec_l71Op.j1]; rfl) ?_
    exact Ev.bind hr (ev_pos e0 (Ev.bind hx (evnow _)))
  · by_cases e1 : r = 1
    · refine ⟨k, y, u, a, s, p + 1 + 1, ?_, ⟨h1, iy, h3, h4, h5⟩, hX⟩
      refine Ev.step (fun n => by simp only [spec_l71Op.j1]; rfl) ?_
      exact Ev.bind hr (ev_neg e0 (ev_pos e1 (Ev.bind hy (evnow _))))
    · by_cases e2 : r = 2
      · refine ⟨k, i, y, a, s, p + 1 + 1, ?_, ⟨h1, h2, iy, h4, h5⟩, hX⟩
        refine Ev.step (fun n => by simp only [spec_l71Op.j1]; rfl) ?_
        exact Ev.bind hr (ev_neg e0 (ev_neg e1 (ev_pos e2 (Ev.bind hy (evnow _)))))
      · by_cases e3 : r = 3
        · refine ⟨k, i, u, y, s, p + 1 + 1, ?_, ⟨h1, h2, h3, iy, h5⟩, hX⟩
          refine Ev.step (fun n => by simp only [spec_l71Op.j1]; rfl) ?_
          exact Ev.bind hr (ev_neg e0 (ev_neg e1 (ev_neg e2 (ev_pos e3 (Ev.bind hy (evnow _))))))
        · refine ⟨k, i, u, a, s, p + 1, ?_, ⟨h1, h2, h3, h4, h5⟩, hR.less (by omega)⟩
          refine Ev.step (fun n => by simp only [spec_l71Op.j1]; rfl) ?_
          exact Ev.bind hr (ev_neg e0 (ev_neg e1 (ev_neg e2 (ev_neg e3 (evnow _)))))
theorem opx_j0 (b : List Int) (hb : Bytes b) (up at_ w : Int) (f : Bool) (k i u a p : Int) (s : ByteArray) (m : Nat) (h : OpX k i u a s) (hu : I64 up) (ha : I64 at_) (hp : Rd p (m + 2)) :
    ∃ (k' i' u' a' : Int) (s' : ByteArray) (p' : Int), Ev (fun n => spec_l71Op.j0 n up at_ w f b p k i u a s) (k', i', u', a', s', p') ∧ OpX k' i' u' a' s' ∧ Rd p' m := by
  obtain ⟨h1, h2, h3, h4, h5⟩ := h
  have j1 : I64 1 := i64_small (by omega) (by omega)
  have j3 : I64 3 := i64_small (by omega) (by omega)
  cases f with
  | true =>
    obtain ⟨k', i', u', a', s', p', g1, g2, g3⟩ := opx_j1 b hb 1 i up at_ p s m ⟨j1, h2, hu, ha, h5⟩ hp
    refine ⟨k', i', u', a', s', p', ?_, g2, g3⟩
    refine Ev.step (fun n => by simp only [spec_l71Op.j0]; rfl) ?_
    exact ev_pos (by simp) g1
  | false =>
    obtain ⟨k', i', u', a', s', p', g1, g2, g3⟩ := opx_j1 b hb 3 i up at_ p ⟨#[]⟩ m ⟨j3, h2, hu, ha, by decide⟩ hp
    by_cases w2 : w = 2
    · refine ⟨k', i', u', a', s', p', ?_, g2, g3⟩
      refine Ev.step (fun n => by simp only [spec_l71Op.j0]; rfl) ?_
      exact ev_neg (by decide) (ev_pos w2 g1)
    · by_cases w3 : w = 3
      · refine ⟨k', i', u', a', s', p', ?_, g2, g3⟩
        refine Ev.step (fun n => by simp only [spec_l71Op.j0]; rfl) ?_
        exact ev_neg (by decide) (ev_neg w2 (ev_pos w3 g1))
      · obtain ⟨k', i', u', a', s', p', g1, g2, g3⟩ := opx_j1 b hb k i u a p s m ⟨h1, h2, h3, h4, h5⟩ hp
        refine ⟨k', i', u', a', s', p', ?_, g2, g3⟩
        refine Ev.step (fun n => by simp only [spec_l71Op.j0]; rfl) ?_
        exact ev_neg (by decide) (ev_neg w2 (ev_neg w3 g1))
theorem rd_mem (l : List Int) (r : Int) (h0 : 0 ≤ r) (h1 : r < l.length) : rd l r ∈ l := by
  have hi : r.toNat < l.length := by omega
  unfold rd
  rw [List.getD_eq_getElem?_getD, List.getElem?_eq_getElem hi]
  exact List.getElem_mem hi
theorem op71_f (b : List Int) (hb : Bytes b) (p : Int) (m : Nat) (hp : Rd p (m + 17)) :
    ∃ (k i u a : Int) (s : ByteArray) (p' : Int), Ev (fun n => spec_l71Op.f n b p) (k, i, u, a, s, p') ∧ OpX k i u a s ∧ Rd p' m := by
  obtain ⟨i, p1, hi, R1, i0, i1⟩ := did_f b p (m + 15) hb hp
  obtain ⟨s, p2, hs, R2, s0⟩ := dtext_f b p1 (m + 9) hb R1
  obtain ⟨u, p3, hu, R3, u0, u1⟩ := did_f b p2 (m + 7) hb R2
  obtain ⟨x, hx, R4, x0, x1, _⟩ := pick_f b p3 5 (m + 6) hb R3
  have x1 := x1 (by omega)
  obtain ⟨v, p5, hv, R5, v0, v1⟩ := did_f b (p3 + 1) (m + 4) hb R4
  obtain ⟨y, hy, R6, y0, y1, _⟩ := pick_f b p5 2 (m + 3) hb R5
  have y1 := y1 (by omega)
  obtain ⟨z, hz, R7, z0, z1, _⟩ := pick_f b (p5 + 1) 5 (m + 2) hb R6
  have iu : I64 (rd ([1, 1, u, 2, 3] : List Int) x) := by
    have := rd_mem ([1, 1, u, 2, 3] : List Int) x x0 (by simpa using x1)
    simp only [List.mem_cons, List.not_mem_nil, or_false] at this
    exact i64_small (by omega) (by omega)
  have ia : I64 (rd ([0, v] : List Int) y) := by
    have := rd_mem ([0, v] : List Int) y y0 (by simpa using y1)
    simp only [List.mem_cons, List.not_mem_nil, or_false] at this
    exact i64_small (by omega) (by omega)
  have hX : OpX 2 i 0 0 s := ⟨i64_small (by omega) (by omega), i64_small (by omega) (by omega), i64_small (by omega) (by omega), i64_small (by omega) (by omega), by omega⟩
  unfold spec_l71Op.f
  by_cases e0 : z = 0
  · obtain ⟨k', i', u', a', s', p', g1, g2, g3⟩ := opx_j0 b hb _ _ z (z == 0) 2 i 0 0 (p5 + 1 + 1) s m hX iu ia R7
    refine ⟨k', i', u', a', s', p', ?_, g2, g3⟩
    refine Ev.bind hi (Ev.bind hs (Ev.bind hu ?_))
    simp only [Option.bind_some]
    refine Ev.bind hx (ev_pos x0 (ev_pos (by simpa using x1) (Ev.bind hv ?_)))
    refine Ev.bind hy (ev_pos y0 (ev_pos (by simpa using y1) (Ev.bind hz (ev_pos e0 g1))))
  · obtain ⟨k', i', u', a', s', p', g1, g2, g3⟩ := opx_j0 b hb _ _ z (z == 1) 2 i 0 0 (p5 + 1 + 1) s m hX iu ia R7
    refine ⟨k', i', u', a', s', p', ?_, g2, g3⟩
    refine Ev.bind hi (Ev.bind hs (Ev.bind hu ?_))
    simp only [Option.bind_some]
    refine Ev.bind hx (ev_pos x0 (ev_pos (by simpa using x1) (Ev.bind hv ?_)))
    refine Ev.bind hy (ev_pos y0 (ev_pos (by simpa using y1) (Ev.bind hz (ev_neg e0 g1))))
theorem wfL_snoc {l : List S56} (h : wfL l) {e : S56} (he : wfE e) : wfL (l ++ [e]) := by
  intro x hx
  rcases List.mem_append.1 hx with hx | hx
  · exact h x hx
  · rw [List.mem_singleton.1 hx]; exact he
/-- The end of a drawn log: seldom an entry more, or one spoilt. -/
theorem log_end (b : List Int) (hb : Bytes b) (l : List S56) (t : List S120) (md : List Int) (p : Int) (m : Nat) (hw : wfL l) (hl : l.length ≤ 20) (hp : Rd p (m + 20)) :
    ∃ (l' : List S56) (p' : Int), Ev (fun k => spec_l72Log.l0 k l t md 0 b p) (l', p') ∧ wfL l' ∧ l'.length ≤ 21 ∧ Rd p' m := by
  obtain ⟨r, hr, hR, r0, r1, _⟩ := pick_f b p 24 (m + 19) hb hp
  by_cases e0 : r = 0
  · obtain ⟨x, hx, hX, x0, x1, _⟩ := pick_f b (p + 1) 3 (m + 18) hb hR
    obtain ⟨y, hy, hY, y0, y1, _⟩ := pick_f b (p + 1 + 1) 4 (m + 17) hb hX
    obtain ⟨k, i, u, a, s, p', h1, ⟨g1, g2, g3, g4, g5⟩, h3⟩ := op71_f b hb (p + 1 + 1 + 1) m hY
    refine ⟨l ++ [⟨wrap64 (1 + x), wrap64 (1 + y), ⟨k, i, u, a, s⟩⟩], p', ?_, wfL_snoc hw ⟨wrap_I64 _, wrap_I64 _, g1, g2, g3, g4, by show s.size ≤ _; omega⟩, by simp; omega, h3⟩
    refine Ev.step (fun n => by simp only [spec_l72Log.l0]; rfl) ?_
    exact ev_neg (by omega) (Ev.bind hr (ev_pos e0 (Ev.bind hx (Ev.bind hy (Ev.bind h1 (ev_pos (by omega) (evnow _)))))))
  · by_cases e1 : r = 1
    · by_cases hz : (l.length : Int) > 0
      · obtain ⟨x, hx, hX, x0, x1, _⟩ := pick_f b (p + 1) (l.length : Int) (m + 18) hb hR
        obtain ⟨y, hy, hY, y0, y1, _⟩ := pick_f b (p + 1 + 1) 4 (m + 17) hb hX
        have x1 := x1 (by omega)
        have y1 := y1 (by omega)
        obtain ⟨j, rfl⟩ : ∃ n : Nat, x = n := ⟨x.toNat, by omega⟩
        have hj : j < l.length := by omega
        have hwj := hw _ (List.getElem_mem hj)
        refine ⟨l.set j ⟨l[j].f0, y, ⟨l[j].f2.f0, l[j].f2.f1, l[j].f2.f2, l[j].f2.f3, l[j].f2.f4⟩⟩, p + 1 + 1 + 1, ?_, ?_, by rw [List.length_set]; omega, hY.less (by omega)⟩
        · refine Ev.step (fun n => by simp only [spec_l72Log.l0]; rfl) ?_
          refine ev_neg (by omega) (Ev.bind hr (ev_neg e0 (ev_pos e1 (ev_pos hz (Ev.bind hx (Ev.bind hy (ev_pos x0 (ev_pos x1 ?_))))))))
          simp only [rdE_get l j hj, Int.toNat_natCast]
          exact evnow _
        · intro e he
          rcases List.mem_or_eq_of_mem_set he with he | rfl
          · exact hw e he
          · obtain ⟨q0, q1, q2, q3, q4, q5, q6⟩ := hwj
            have iy : I64 y := i64_small (by omega) (by omega)
            exact ⟨q0, iy, q2, q3, q4, q5, q6⟩
      · refine ⟨l, p + 1, ?_, hw, by omega, hR.less (by omega)⟩
        refine Ev.step (fun n => by simp only [spec_l72Log.l0]; rfl) ?_
        exact ev_neg (by omega) (Ev.bind hr (ev_neg e0 (ev_pos e1 (ev_neg hz (evnow _)))))
    · refine ⟨l, p + 1, ?_, hw, by omega, hR.less (by omega)⟩
      refine Ev.step (fun n => by simp only [spec_l72Log.l0]; rfl) ?_
      exact ev_neg (by omega) (Ev.bind hr (ev_neg e0 (ev_neg e1 (evnow _))))
theorem log_l0 (b : List Int) (hb : Bytes b) : ∀ (n : Nat) (l : List S56) (t : List S120) (B : Nat) (md : List Int) (p : Int) (m : Nat), wfL l → l.length + n ≤ 20 → Inv t B → (B + 1) * 2 ^ n ≤ 16384 → t.length + n ≤ 100 → md.length = 3 → Rd p (m + 18 * n + 20) →
    ∃ (l' : List S56) (p' : Int), Ev (fun k => spec_l72Log.l0 k l t md n b p) (l', p') ∧ wfL l' ∧ l'.length ≤ 21 ∧ Rd p' m
  | 0, l, t, B, md, p, m, hw, hl, hI, hB, ht, hm, hp => log_end b hb l t md p m hw (by omega) (hp.less (by omega))
  | n + 1, l, t, B, md, p, m, hw, hl, hI, hB, ht, hm, hp => by
    obtain ⟨r, hr, hR, r0, r1, _⟩ := pick_f b p 3 (m + 18 * n + 37) hb (hp.less (by omega))
    have r1 := r1 (by omega)
    have w1 : wrap64 (1 + r) = 1 + r := wrap_id _ (by omega) (by omega)
    have w2 : wrap64 (1 + r - 1) = r := by rw [wrap_id _ (by omega) (by omega)]; omega
    obtain ⟨k, i, u, a, s, p', h1, ⟨hk, hi3, g2, g3, g4, g5⟩, h3⟩ := op72_f b hb t B (1 + r) (rd md r) (p + 1) (m + 18 * n + 20) hI (by omega) hR
    have hB2 : B + 1 ≤ 16384 := Nat.le_trans (Nat.le_mul_of_pos_right _ (Nat.two_pow_pos _)) hB
    obtain ⟨t', ht', hI', hlt⟩ := do_f t B k i u a s hI (by omega) (by omega) hk hi3 g2 (by omega)
    have hI2 : Inv t' ((2 * B + 1 : Nat) : Int) := hI'.more (by omega)
    have hB3 : (2 * B + 1 + 1) * 2 ^ n ≤ 16384 := by
      have e : (2 * B + 1 + 1) * 2 ^ n = (B + 1) * 2 ^ (n + 1) := by rw [Nat.pow_succ, show 2 * B + 1 + 1 = (B + 1) * 2 by omega, Nat.mul_assoc, Nat.mul_comm 2]
      rw [e]; exact hB
    have hs := seq_f l (1 + r) (by omega)
    have hkx : I64 k := by rcases hk with rfl | rfl | rfl <;> exact i64_small (by omega) (by omega)
    have ir : I64 (1 + r) := i64_small (by omega) (by omega)
    have hwe : wfE (⟨1 + r, wrap64 (cntE l (1 + r) + 1), ⟨k, i, u, a, s⟩⟩ : S56) := ⟨ir, wrap_I64 _, hkx, g2, g3, g4, by show s.size ≤ _; omega⟩
    have wn : wrap64 (((n + 1 : Nat) : Int) - 1) = n := by rw [wrap_id _ (by omega) (by omega)]; omega
    by_cases e1 : k = 1
    · obtain ⟨l', q, f1, f2, f3, f4⟩ := log_l0 b hb n (l ++ [⟨1 + r, wrap64 (cntE l (1 + r) + 1), ⟨k, i, u, a, s⟩⟩]) t' (2 * B + 1) (md.set r.toNat (wrap64 (rd md r + 1))) p' m (wfL_snoc hw hwe) (by simp; omega) hI2 hB3 (by omega) (by rw [List.length_set]; exact hm) h3
      refine ⟨l', q, ?_, f2, f3, f4⟩
      refine Ev.step (fun n => by simp only [spec_l72Log.l0]; rfl) ?_
      refine ev_pos (by omega) (Ev.bind hr ?_)
      simp only [w1, w2]
      refine ev_pos r0 (ev_pos (by omega) (Ev.bind h1 (ev_pos e1 (Ev.bind hs (ev_pos (by omega) (Ev.bind ht' ?_))))))
      rw [wn]
      exact f1
    · obtain ⟨l', q, f1, f2, f3, f4⟩ := log_l0 b hb n (l ++ [⟨1 + r, wrap64 (cntE l (1 + r) + 1), ⟨k, i, u, a, s⟩⟩]) t' (2 * B + 1) md p' m (wfL_snoc hw hwe) (by simp; omega) hI2 hB3 (by omega) hm h3
      refine ⟨l', q, ?_, f2, f3, f4⟩
      refine Ev.step (fun n => by simp only [spec_l72Log.l0]; rfl) ?_
      refine ev_pos (by omega) (Ev.bind hr ?_)
      simp only [w1, w2]
      refine ev_pos r0 (ev_pos (by omega) (Ev.bind h1 (ev_neg e1 (Ev.bind hs (ev_pos (by omega) (Ev.bind ht' ?_))))))
      rw [wn]
      exact f1
/-- A drawn log. -/
theorem log72_f (b : List Int) (hb : Bytes b) (p : Int) (m : Nat) (hp : Rd p (m + 300)) : ∃ (l : List S56) (p' : Int), Ev (fun k => spec_l72Log.f k b p) (l, p') ∧ wfL l ∧ l.length ≤ 21 ∧ Rd p' m := by
  obtain ⟨r, hr, hR, r0, r1, _⟩ := pick_f b p 14 (m + 299) hb hp
  have r1 := r1 (by omega)
  obtain ⟨n, rfl⟩ : ∃ n : Nat, r = n := ⟨r.toNat, by omega⟩
  have hI : Inv ([⟨1, 0, ⟨#[]⟩⟩, ⟨2, 0, ⟨#[]⟩⟩, ⟨3, 0, ⟨#[]⟩⟩] : List S120) ((0 : Nat) : Int) := by
    refine ⟨fun x hx => ?_, fun x hx h3 => ?_, ⟨⟨3, 0, ⟨#[]⟩⟩, by simp, rfl⟩, fun x hx => ?_⟩
    all_goals simp only [List.mem_cons, List.not_mem_nil, or_false] at hx
    · rcases hx with rfl | rfl | rfl <;> exact ⟨Int.le_refl _, Int.le_refl _⟩
    · rcases hx with rfl | rfl | rfl <;> rfl
    · rcases hx with rfl | rfl | rfl <;> exact i64_small (by decide) (by decide)
  have hpow : (0 + 1) * 2 ^ n ≤ 16384 := by
    have : 2 ^ n ≤ 2 ^ 14 := Nat.pow_le_pow_right (by decide) (by omega)
    omega
  obtain ⟨l, p', h1, h2, h3, h4⟩ := log_l0 b hb n [] _ 0 [0, 0, 0] (p + 1) m (fun e he => by cases he) (by simp; omega) hI hpow (by simp; omega) rfl (hR.less (by omega))
  refine ⟨l, p', ?_, h2, h3, h4⟩
  unfold spec_l72Log.f spec_TreeNew.f
  simp only [Option.bind_some]
  exact Ev.bind hr h1
theorem server72_f (b : List Int) (hb : Bytes b) (p : Int) (m : Nat) (hp : Rd p (m + 303)) : ∃ (l : List S56) (s : Int) (u : Bool) (p' : Int), Ev (fun k => spec_l72Server.f k b p) (l, s, u, p') ∧ wfL l ∧ l.length ≤ 21 ∧ 0 ≤ s ∧ s ≤ 22 ∧ Rd p' m := by
  obtain ⟨l, p1, h1, h2, h3, h4⟩ := log72_f b hb p (m + 3) hp
  obtain ⟨x, hx, hX, x0, x1, _⟩ := pick_f b p1 8 (m + 2) hb h4
  obtain ⟨y, hy, hY, y0, y1, _⟩ := pick_f b (p1 + 1) (wrap64 ((l.length : Int) + 1)) (m + 1) hb hX
  obtain ⟨z, hz, hZ, z0, z1, _⟩ := pick_f b (p1 + 1 + 1) 24 m hb hY
  have wl : wrap64 ((l.length : Int) + 1) = l.length + 1 := wrap_id _ (by omega) (by omega)
  have y1 := y1 (by omega)
  have z1 := z1 (by omega)
  have ez : Int.tdiv z 23 = z / 23 := Int.tdiv_eq_ediv_of_nonneg z0
  have es : wrap64 (y + wrap64 (Int.tdiv z 23)) = y + z / 23 := by rw [ez, wrap_id (z / 23) (by omega) (by omega), wrap_id _ (by omega) (by omega)]
  refine ⟨l, y + z / 23, decide (x > 0), p1 + 1 + 1 + 1, ?_, h2, h3, by omega, by omega, hZ⟩
  unfold spec_l72Server.f
  refine Ev.bind h1 (Ev.bind hx (Ev.bind hy (Ev.bind hz ?_)))
  rw [es]
  exact evnow _
theorem open_f (code : List Int) (h : ∀ x ∈ code, 0 ≤ x ∧ x ≤ 255) : ∃ b : List Int, spec_l6Open.f code = some (b, 0) ∧ Bytes b := by
  unfold spec_l6Open.f
  by_cases hl : (code.length : Int) > 2000
  · refine ⟨code.take 2000, by rw [if_pos hl, if_pos (by omega)], by rw [List.length_take]; omega, fun x hx => h x (List.mem_of_mem_take hx)⟩
  · exact ⟨code, by rw [if_neg hl], by omega, h⟩
end Go.Proofs.YtnclcbjagleoeaaDoor.PL
set_option linter.unusedVariables false
set_option linter.unusedSimpArgs false
namespace Go.Proofs.YtnclcbjagleoeaaDoor.PL
open Go.RowKit Go.Proofs.YtnclcbjagleoeaaDoor.P Go.Proofs.YtnclcbjagleoeaaDoorW.PrintWords Go.Proofs.YtnclcbjagleoeaaDoorW.PrintLast
def srvB (l : List S56) (s : Int) : Bool := logB l && (decide (0 ≤ s) && decide (s ≤ (l.length : Int)))
theorem srv_f (l : List S56) (s : Int) (u : Bool) (h : wfL l) : Ev (fun k => impl_ServerOk.f k l s u) (srvB l s) := by
  unfold impl_ServerOk.f srvB
  refine Ev.bind (log_f l h) ?_
  cases logB l with
  | false => simp only [Bool.false_eq_true, if_false, Bool.false_and]; exact evnow _
  | true =>
    simp only [if_true, Bool.true_and]
    by_cases hs : s ≥ 0
    · have : decide (0 ≤ s) = true := decide_eq_true hs
      rw [if_pos hs, this, Bool.true_and]; exact evnow _
    · have : decide (0 ≤ s) = false := decide_eq_false hs
      rw [if_neg hs, this, Bool.false_and]; exact evnow _
theorem ssrv_f (l : List S56) (s : Int) (u : Bool) (h : wfL l) (hl : l.length ≤ 281474976710656) : Ev (fun k => spec_ServerOk.f k l s u) (srvB l s) := by
  unfold spec_ServerOk.f srvB
  refine Ev.bind (slog_f l h hl) ?_
  cases logB l with
  | false => simp only [Bool.false_eq_true, if_false, Bool.false_and]; exact evnow _
  | true =>
    simp only [if_true, Bool.true_and, in_f, Option.bind_some]
    exact evnow _
theorem srvB_true {l : List S56} {s : Int} (h : srvB l s = true) : l.length ≤ 40 ∧ 0 ≤ s ∧ s ≤ l.length := by
  unfold srvB at h
  simp only [Bool.and_eq_true, decide_eq_true_eq] at h
  exact ⟨logB_len h.1, h.2.1, h.2.2⟩
def newsL (l : List S56) (s : Int) (u : Bool) (a : Int) : List S56 := if srvB l s = true ∧ u = true ∧ 0 ≤ a ∧ a ≤ s then (l.take s.toNat).drop a.toNat else []
theorem news_f (l : List S56) (s : Int) (u : Bool) (a : Int) (h : wfL l) : Ev (fun k => impl_ServerNews.f k l s u a) (newsL l s u a) := by
  unfold impl_ServerNews.f newsL
  refine Ev.bind (srv_f l s u h) ?_
  cases hs : srvB l s with
  | false => simp only [Bool.false_eq_true, if_false, false_and]; exact evnow _
  | true =>
    obtain ⟨hl, h0, h1⟩ := srvB_true hs
    simp only [if_true, true_and]
    cases u with
    | false => simp only [Bool.false_eq_true, if_false, false_and]; exact evnow _
    | true =>
      simp only [if_true, true_and]
      by_cases a1 : a < 0
      · simp only [a1, if_true]; rw [if_neg (by omega)]; exact evnow _
      · by_cases a2 : a > s
        · simp only [a1, if_false, a2, if_true]; rw [if_neg (by omega)]; exact evnow _
        · simp only [a1, if_false, a2]
          rw [if_pos (show 0 ≤ a ∧ a ≤ s by omega), if_pos (show 0 ≤ a by omega), if_pos (show a ≤ s by omega), if_pos h1]
          unfold impl_Entry_51.f
          rw [if_pos (by rw [List.length_drop, List.length_take]; omega)]
          exact evnow _
theorem newsL_len (l : List S56) (s : Int) (u : Bool) (a : Int) : (newsL l s u a).length ≤ 40 := by
  unfold newsL
  split
  · rename_i h
    obtain ⟨hl, _, _⟩ := srvB_true h.1
    rw [List.length_drop, List.length_take]
    omega
  · simp
end Go.Proofs.YtnclcbjagleoeaaDoor.PL
set_option linter.unusedVariables false
set_option linter.unusedSimpArgs false
namespace Go.Proofs.YtnclcbjagleoeaaDoor.PL
open Go.RowKit Go.Proofs.YtnclcbjagleoeaaDoor.P Go.Proofs.YtnclcbjagleoeaaDoorW.PrintWords Go.Proofs.YtnclcbjagleoeaaDoorW.PrintLast
theorem lp_l0 (l : List S56) (hl : l.length ≤ 1099511627776) : ∀ (n i : Nat), i + n = l.length → Ev (fun k => laws_lpLog.l0 k l l i) true
  | 0, i, h => by
    refine Ev.step (f := fun _ => some true) (fun k => ?_) (evnow _)
    simp only [laws_lpLog.l0]; rw [if_neg (by omega)]
  | n + 1, i, h => by
    refine Ev.step (fun k => ?_) (lp_l0 l hl n (i + 1) (by omega))
    simp only [laws_lpLog.l0]
    rw [if_pos (by omega), if_pos (by omega), if_pos (by omega)]
    simp only [BEq.rfl, Bool.not_true, Bool.or_false, Bool.false_eq_true, if_false]
    rw [wrapS i (by omega) (by omega)]
    rfl
theorem lp_f (l : List S56) (hl : l.length ≤ 1099511627776) : Ev (fun k => laws_lpLog.f k l l) true := by
  unfold laws_lpLog.f
  exact ev_pos rfl (lp_l0 l hl l.length 0 (by omega))
theorem byte_of {x : Int} (h : (Lit.int .u8 x).wf = true) : 0 ≤ x ∧ x ≤ 255 := by
  simp only [Lit.wf, Bool.and_eq_true, decide_eq_true_eq] at h
  exact ⟨h.1, h.2⟩
end Go.Proofs.YtnclcbjagleoeaaDoor.PL
set_option linter.unusedVariables false
set_option linter.unusedSimpArgs false
namespace Go.Proofs.YtnclcbjagleoeaaDoor.PL
open Go.RowKit Go.Proofs.YtnclcbjagleoeaaDoor.P Go.Proofs.YtnclcbjagleoeaaDoorW.PrintWords Go.Proofs.YtnclcbjagleoeaaDoorW.PrintLast
theorem copy_f (l : List S56) (s : Int) (u : Bool) (hl : l.length ≤ 40) : spec_l13Copy.f l s u = some (l, s, u) := by
  unfold spec_l13Copy.f
  simp only [Option.bind_some, List.length_nil, List.nil_append]
  rw [if_pos (by omega)]
def fallV (l : List S56) (s : Int) (u : Bool) (a : Int) : List S56 × Int × Bool :=
  if srvB l s = true ∧ 0 ≤ a ∧ a ≤ 40 then (l.take (fallAt l.length s a).toNat, s, u) else ([], 0, false)
theorem fallAt_ok {n : Nat} {s a : Int} (hs : 0 ≤ s) (hn : s ≤ n) (hl : n ≤ 40) (h0 : 0 ≤ a) (h1 : a ≤ 40) : wrap64 (s + a) = s + a ∧ 0 ≤ fallAt n s a := by
  have hw : wrap64 (s + a) = s + a := by unfold wrap64; omega
  refine ⟨hw, ?_⟩
  unfold fallAt
  rw [hw]
  split <;> omega
theorem fall_f (l : List S56) (s : Int) (u : Bool) (a : Int) (h : wfL l) : Ev (fun k => impl_ServerFall.f k l s u a) (fallV l s u a) := by
  unfold impl_ServerFall.f fallV
  refine Ev.bind (srv_f l s u h) ?_
  cases hs : srvB l s with
  | false => simp only [Bool.false_eq_true, if_false, false_and]; exact evnow _
  | true =>
    obtain ⟨hl, h0, h1⟩ := srvB_true hs
    simp only [if_true, true_and]
    by_cases a1 : a < 0
    · rw [if_pos a1, if_neg (by omega)]; exact evnow _
    · by_cases a2 : a > 40
      · rw [if_neg a1, if_pos a2, if_neg (by omega)]; exact evnow _
      · rw [if_neg a1, if_neg a2, if_pos (show l.length < 2199023255552 by omega), if_pos (fallAt_ok h0 h1 hl (by omega) (by omega)).2, if_pos (by omega)]
        exact evnow _
theorem mn_fall (n : Nat) (s a : Int) : mn (n : Int) (wrap64 (s + a)) = fallAt n s a := by
  unfold fallAt mn
  by_cases h : (n : Int) < wrap64 (s + a)
  · rw [if_pos h]; first | (rw [if_pos (by omega)]) | omega
  · rw [if_neg h]; first | (rw [if_neg (by omega)]) | (split <;> omega) | omega
theorem sfall_f (l : List S56) (s : Int) (u : Bool) (a : Int) (h : wfL l) (hl : l.length ≤ 281474976710656) : Ev (fun k => spec_ServerFall.f k l s u a) (fallV l s u a) := by
  unfold spec_ServerFall.f fallV
  refine Ev.bind (ssrv_f l s u h hl) ?_
  cases hs : srvB l s with
  | false =>
    simp only [Bool.false_eq_true, if_false, false_and]
    refine Ev.step (f := fun _ => some ([], 0, false)) (fun k => ?_) (evnow _)
    simp only [spec_ServerFall.j0, if_true]
  | true =>
    obtain ⟨hl, h0, h1⟩ := srvB_true hs
    simp only [if_true, true_and, in_f, Option.bind_some]
    by_cases a1 : 0 ≤ a ∧ a ≤ 40
    · have : (decide (0 ≤ a) && decide (a ≤ 40)) = true := by simp [a1.1, a1.2]
      rw [this, if_pos a1]
      refine Ev.step (f := fun _ => some (l.take (fallAt l.length s a).toNat, s, u)) (fun k => ?_) (evnow _)
      have h3 := (fallAt_ok h0 h1 hl a1.1 a1.2).2
      have h4 := fallAt_le l.length s a
      simp only [spec_ServerFall.j0, Bool.not_true, Bool.false_eq_true, if_false, copy_f l s u hl, Option.bind_some]
      unfold spec_l13Fall.f
      simp only [Option.bind_some, mn_fall]
      rw [if_pos h3, if_pos h4]
      simp only [Option.bind_some, List.length_nil, List.nil_append]
      rw [if_pos (by rw [List.length_take]; omega)]
      rfl
    · have : (decide (0 ≤ a) && decide (a ≤ 40)) = false := by
        cases hq : (decide (0 ≤ a) && decide (a ≤ 40)) with
        | false => rfl
        | true => simp only [Bool.and_eq_true, decide_eq_true_eq] at hq; exact absurd hq a1
      rw [this, if_neg a1]
      refine Ev.step (f := fun _ => some ([], 0, false)) (fun k => ?_) (evnow _)
      simp only [spec_ServerFall.j0, Bool.not_false, if_true]
end Go.Proofs.YtnclcbjagleoeaaDoor.PL
set_option linter.unusedVariables false
set_option linter.unusedSimpArgs false
namespace Go.Proofs.YtnclcbjagleoeaaDoor.PL
open Go.RowKit Go.Proofs.YtnclcbjagleoeaaDoor.P Go.Proofs.YtnclcbjagleoeaaDoorW.PrintWords Go.Proofs.YtnclcbjagleoeaaDoorW.PrintLast
theorem drawFall_f (code : List Int) (h : ∀ x ∈ code, (Lit.int .u8 x).wf = true) : ∃ (l : List S56) (s : Int) (u : Bool) (a : Int), Ev (fun k => spec_DrawServerFall.f k code) (l, s, u, a) ∧ wfL l ∧ l.length ≤ 21 ∧ 0 ≤ s ∧ s ≤ 22 ∧ -7 ≤ a ∧ a ≤ 5 := by
  obtain ⟨b, hb, hB⟩ := open_f code (fun x hx => byte_of (h x hx))
  obtain ⟨l, s, u, p, h1, h2, h3, h4, h5, h6⟩ := server72_f b hB 0 2 ⟨by omega, by omega⟩
  obtain ⟨x, hx, hX, x0, x1, _⟩ := pick_f b p 6 1 hB h6
  obtain ⟨y, hy, hY, y0, y1, _⟩ := pick_f b (p + 1) 24 0 hB hX
  have x1 := x1 (by omega)
  have y1 := y1 (by omega)
  have ey : Int.tdiv y 23 = y / 23 := Int.tdiv_eq_ediv_of_nonneg y0
  have es : wrap64 (x - wrap64 (wrap64 (Int.tdiv y 23) * 7)) = x - y / 23 * 7 := by rw [ey, wrap_id (y / 23) (by omega) (by omega), wrap_id (y / 23 * 7) (by omega) (by omega), wrap_id _ (by omega) (by omega)]
  refine ⟨l, s, u, x - y / 23 * 7, ?_, h2, h3, h4, h5, by omega, by omega⟩
  unfold spec_DrawServerFall.f
  rw [hb]
  simp only [Option.bind_some]
  refine Ev.bind h1 (Ev.bind hx (Ev.bind hy ?_))
  rw [es]
  exact evnow _
theorem lpS_f (l : List S56) (s : Int) (u : Bool) (hl : l.length ≤ 1099511627776) : Ev (fun k => laws_lpServer.f k l s u l s u) true := by
  unfold laws_lpServer.f
  refine Ev.bind (lp_f l hl) (ev_pos rfl (ev_pos rfl ?_))
  simp only [BEq.rfl]
  exact evnow _
/-- The first entries of a valid log are one. -/
theorem goB_take : ∀ (l pre : List S56) (n : Nat), goB pre l = true → goB pre (l.take n) = true
  | [], pre, n, h => by rw [List.take_nil]; exact h
  | e :: rest, pre, 0, h => rfl
  | e :: rest, pre, n + 1, h => by
    rw [List.take_succ_cons]
    unfold goB at h ⊢
    simp only [Bool.and_eq_true] at h ⊢
    exact ⟨h.1, goB_take rest _ n h.2⟩
theorem logB_take {l : List S56} (h : logB l = true) (n : Nat) : logB (l.take n) = true := by
  unfold logB at h ⊢
  simp only [Bool.and_eq_true, decide_eq_true_eq] at h ⊢
  exact ⟨by rw [List.length_take]; omega, goB_take l [] n h.2⟩
/-- Whatever falls is valid, begins as it did, and a second fall takes no more. -/
theorem fall_facts {l : List S56} {s a : Int} (hs : srvB l s = true) (h0 : 0 ≤ a) (h1 : a ≤ 40) (hl : l.length ≤ 40) :
    ∃ n : Nat, fallAt l.length s a = (n : Int) ∧ n ≤ l.length ∧ s ≤ n ∧ fallAt n s a = (n : Int) := by
  obtain ⟨_, s0, s1⟩ := srvB_true hs
  obtain ⟨hw, hp⟩ := fallAt_ok s0 s1 hl h0 h1
  have hle := fallAt_le l.length s a
  refine ⟨(fallAt l.length s a).toNat, by omega, by omega, ?_, ?_⟩
  · unfold fallAt at *
    rw [hw] at *
    split <;> omega
  · unfold fallAt at *
    rw [hw] at *
    split at hp <;> split <;> split <;> omega
end Go.Proofs.YtnclcbjagleoeaaDoor.PL
namespace Go.Proofs.YtnclcbjagleoeaaDoor.P
open Go.RowKit Go.Proofs.YtnclcbjagleoeaaDoorW.PrintWords Go.Proofs.YtnclcbjagleoeaaDoorW.PrintLast
set_option linter.unusedVariables false
set_option linter.unusedSimpArgs false
attribute [local go_sem high] eqA56
end Go.Proofs.YtnclcbjagleoeaaDoor.P
set_option linter.unusedVariables false
set_option linter.unusedSimpArgs false
namespace Go.Proofs.YtnclcbjagleoeaaDoor.PL
open Go.RowKit Go.Proofs.YtnclcbjagleoeaaDoor.P Go.Proofs.YtnclcbjagleoeaaDoorW.PrintWords Go.Proofs.YtnclcbjagleoeaaDoorW.PrintLast
theorem fallnews_j1 (l1 : List Int) (l : List S56) (s : Int) (u : Bool) (a : Int) (f : Bool) (hl1 : l1.length ≤ 1048576) (hw : wfL l) (hl : l.length ≤ 21) (hf : f = false → srvB l s = true ∧ 0 ≤ a ∧ a ≤ 40) :
    Ev (fun k => laws_FnFallNews.j1 k l1 a f l s u (fallV l s u a).1 (fallV l s u a).2.1 (fallV l s u a).2.2) true := by
  have hv : (fallV l s u a).1.length ≤ 40 := by
    unfold fallV
    split
    · show (List.take _ _).length ≤ _
      rw [List.length_take]; omega
    · simp
  cases f with
  | true =>
    refine Ev.step (fun k => by simp only [laws_FnFallNews.j1]; rfl) ?_
    exact ev_pos (by simp) (Ev.bind (sfall_f l s u a hw (by omega)) (Ev.bind (lpS_f _ _ _ (by omega)) (evnow _)))
  | false =>
    obtain ⟨hs, a0, a1⟩ := hf rfl
    obtain ⟨n, e1, e2, e3, e4⟩ := fall_facts hs a0 a1 (by omega)
    obtain ⟨_, s0, s1⟩ := srvB_true hs
    have hV : fallV l s u a = (l.take n, s, u) := by
      unfold fallV
      rw [if_pos ⟨hs, a0, a1⟩, e1]
      rfl
    have hlen : (l.take n).length = n := by rw [List.length_take]; omega
    have hwt : wfL (l.take n) := fun e he => hw e (List.mem_of_mem_take he)
    have hst : srvB (l.take n) s = true := by
      unfold srvB at hs ⊢
      simp only [Bool.and_eq_true, decide_eq_true_eq] at hs ⊢
      exact ⟨logB_take hs.1 n, s0, by omega⟩
    have hsame : ∀ q : Int, newsL (l.take n) s u q = newsL l s u q := fun q => by
      unfold newsL
      rw [hs, hst, List.take_take, show min s.toNat n = s.toNat by omega]
    rw [hV]
    refine Ev.step (fun k => by simp only [laws_FnFallNews.j1]; rfl) ?_
    refine ev_neg (by decide) ?_
    have ws : wrap64 (s + 1) = s + 1 := wrap_id _ (by omega) (by omega)
    rw [ws]
    refine ev_neg (by omega) ?_
    have hn := newsL_len l s u ((l1.length : Int) % (s + 1))
    have h1 := news_f (l.take n) s u ((l1.length : Int) % (s + 1)) hwt
    rw [hsame] at h1
    refine Ev.bind h1 (Ev.bind (news_f l s u _ hw) (Ev.bind (lp_f _ (by omega)) (ev_pos rfl ?_)))
    simp only [BEq.rfl]
    exact evnow _
theorem fallnews_j0 (l0 l1 : List Int) (f : Bool) (h0 : ∀ x ∈ l0, (Lit.int .u8 x).wf = true) (hl1 : f = false → l1.length ≤ 1048576) : Ev (fun k => laws_FnFallNews.j0 k l0 l1 f) true := by
  cases f with
  | true =>
    refine Ev.step (fun k => by simp only [laws_FnFallNews.j0]; rfl) ?_
    exact ev_pos (by simp) (evnow _)
  | false =>
    obtain ⟨l, s, u, a, hd, hw, hl, s0, s1, a0, a1⟩ := drawFall_f l0 h0
    have hv : (fallV l s u a).1.length ≤ 40 := by
      unfold fallV
      split
      · show (List.take _ _).length ≤ _
        rw [List.length_take]; omega
      · simp
    refine Ev.step (fun k => by simp only [laws_FnFallNews.j0]; rfl) ?_
    refine ev_neg (by decide) (Ev.bind hd (Ev.bind (fall_f l s u a hw) (Ev.bind (sfall_f l s u a hw (by omega)) (Ev.bind (lpS_f _ _ _ (by omega)) (ev_pos rfl (Ev.bind (ssrv_f l s u hw (by omega)) ?_))))))
    cases hs : srvB l s with
    | false =>
      refine ev_neg (by simp) ?_
      exact fallnews_j1 l1 l s u a true (hl1 rfl) hw hl (fun h => by cases h)
    | true =>
      refine ev_pos rfl ?_
      by_cases h : a < 0
      · exact ev_pos h (fallnews_j1 l1 l s u a true (hl1 rfl) hw hl (fun h => by cases h))
      · exact ev_neg h (fallnews_j1 l1 l s u a (decide (a > 40)) (hl1 rfl) hw hl (fun h2 => ⟨hs, by omega, by have := of_decide_eq_false h2; omega⟩))
theorem FnFallNews : laws_FnFallNews.Pure := by
  intro l0 l1 _ _ h0 _ _ h1
  have key : Ev (fun k => laws_FnFallNews.f k l0 l1) true := by
    unfold laws_FnFallNews.f
    by_cases h : (l0.length : Int) > 1048576
    · exact ev_pos h (fallnews_j0 l0 l1 true h0 (fun h => by cases h))
    · exact ev_neg h (fallnews_j0 l0 l1 _ h0 (fun h2 => by have := of_decide_eq_false h2; omega))
  obtain ⟨K, hK⟩ := key
  exact ⟨K, hK K (Nat.le_refl K)⟩
end Go.Proofs.YtnclcbjagleoeaaDoor.PL
namespace Go.Proofs.YtnclcbjagleoeaaDoor.P
open Go.ChangeShapes Go.WideShapes Go.ChangeAt Go.RowKit
theorem tOwners : (Tryd.prog.globals[0]?).map (·.type) = some 117 := by kernel_rfl
theorem cOwners : Tryd.prog.cellsOf 117 = 37 := by kernel_rfl
theorem cInt : Tryd.prog.cellsOf 3 = 1 := by kernel_rfl
abbrev ownCells : Array Value := (owners.map fun z => Value.int .i64 z).toArray
theorem glob_of_laid {W : World} (h : laidMet Tryd.prog [("loop.example/plashet/impl.rowOwners", Rows.laid_loop_example_plashet_impl_rowOwners)] W) : Glob W :=
  Lib.tabIs_of_head gOwners tOwners Tryd.underlying117 Tryd.underlying3 cInt cOwners h
theorem door_met (os : Os) (args : Array Value) : laidMet Tryd.prog [("loop.example/plashet/impl.rowOwners", Rows.laid_loop_example_plashet_impl_rowOwners)] ((World.doorLaid Tryd.prog 400 os).forCall (fun _ _ => 0) ⟨#[], args, []⟩).memory :=
  laidMet_of_run' 8 (by kernel_rfl) (by kernel_rfl)
abbrev tableH {H : Type} : DataW H := .agg (owners.map fun z => .lit (.int .i64 z))
theorem reads_table {H : Type} (enc : TypeId × Value → H) (W : World) (sp : Nat → Bool) : DataW.trod enc Tryd.prog W 0 sp true 3 117 ownCells.toList = some (tableH, []) := by kernel_rfl
theorem tab_vars {H : Type} (enc : TypeId × Value → H) {W : World} (h : Glob W) {sp : Nat → Bool} : DataW.TrodVars enc Tryd.prog W sp ["loop.example/plashet/impl.rowOwners"] [tableH] (MemPlace.row ⟨0, 0, none⟩ ownCells.size ++ [] ++ []) :=
  ⟨0, 117, ownCells, 3, [], [], gOwners, tOwners, h, reads_table enc W sp, rfl, rfl⟩
end Go.Proofs.YtnclcbjagleoeaaDoor.P
namespace Go.Proofs.YtnclcbjagleoeaaDoor.fnFallNews
open Go.ChangeShapes Go.WideShapes Go.ChangeAt Go.RowKit
open Go.ChangeMaps (open_string shut_string)
set_option linter.unusedVariables false
theorem own : ownKnob Tryd.prog.godebug = none := by kernel_rfl
theorem laidOut : laidOutB Tryd.prog = true := by kernel_rfl
def IsRow (k : IntKind) (w : World) (a : Option Addr) (len cap : Nat) (zs : List Int) : Prop :=
  (a = none ∧ len = 0 ∧ cap = 0 ∧ zs = []) ∨
  ∃ x, a = some x ∧ len ≤ cap ∧ cap ≤ maxLen ∧ zs.length = cap ∧ (∀ i, i < zs.length → w.cell? (x.add i) = some (.int k (zs.getD i 0))) ∧ ∀ n ∈ zs, (Lit.int k n).wf = true
set_option maxRecDepth 100000 in
theorem lifted (os : Os) (started : os.Started) (H : Type) (enc : TypeId × Value → H) :
    ReturnsInHanded {} Tryd.checked os 9 .any (fun w args => (Rows.fnFallNewsSpec.pre enc Tryd.prog Tryd.f9 [] false w args ∧ laidMet Tryd.prog [("loop.example/plashet/impl.rowOwners", Rows.laid_loop_example_plashet_impl_rowOwners)] w) ∧ sizedMet enc Tryd.prog Tryd.f9 (OpenSpec.ofChange Rows.fnFallNewsSpec) false w args) (Rows.fnFallNewsSpec.post enc Tryd.prog Tryd.f9 false true false false) := by
  refine returnsInHanded_of_change_and (C := Tryd.checked) (X := fun w _ => laidMet Tryd.prog [("loop.example/plashet/impl.rowOwners", Rows.laid_loop_example_plashet_impl_rowOwners)] w) (fun _ _ _ hh h => h.of_heap hh) own started (by kernel_rfl) Tryd.func9
    (ChangeSpec.witness_shaped (enc := enc) (C := Tryd.checked) (os := os) (X := fun w _ => laidMet Tryd.prog [("loop.example/plashet/impl.rowOwners", Rows.laid_loop_example_plashet_impl_rowOwners)] w) false (World.doorLaid Tryd.prog 400 os) #[.slice none 0 0, .slice none 0 0] 8 rfl (World.shaped_of_RefB (by kernel_rfl) (by kernel_rfl)) (by kernel_rfl) (by kernel_rfl) (by kernel_rfl) (P.door_met os _)) ?_
  intro W base args ds gs before hval0 hW _ hsz0 hL _
  have hsz : (DataW.weightsEach Tryd.prog (Tryd.f9.params.toList ++ Rows.fnFallNewsSpec.plain.varTypes Tryd.prog) (ds ++ gs)).all (· ≤ reachBytes) = true := hsz0
  have hval : ∀ (j : Nat) t v, Tryd.f9.params[j]? = some t → args[j]? = some v → Value.okWide Tryd.prog W .any base t v := hval0
  have hW' := hW
  obtain ⟨p, q, hA0, hV, rfl, hfz, hnd⟩ := hW
  have hA : DataW.TrodAll enc Tryd.prog W 0 (fun _ => true) true Tryd.f9.params.toList args.toList ds p := hA0
  rw [Tryd.params9] at hA hval hsz
  obtain ⟨v0, vs0, d0, ds0, p0, q0, hargs, rfl, rfl, h0, r0⟩ := trodAll_cons hA
  obtain ⟨v1, vs1, d1, ds1, p1, q1, rfl, rfl, rfl, h1, r1⟩ := trodAll_cons r0
  obtain ⟨rfl, rfl, rfl⟩ := trodAll_nil r1
  obtain rfl : args = #[v0, v1] := by cases args; simp_all
  have hG : P.Glob W := P.glob_of_laid hL
  obtain ⟨gv, tv, csv, fuelv, dv, pv, rfl, hgv, htv, hvarv, hdv, rfl⟩ := trodVars_one hV
  obtain rfl : csv = P.ownCells := Option.some.inj (hvarv.symm.trans hG)
  obtain rfl := Option.some.inj (P.tOwners.symm.trans (by rw [Option.some.inj (P.gOwners.symm.trans hgv)]; exact htv))
  obtain ⟨rfl, rfl⟩ := DataW.Trod.unique (v := .agg P.ownCells) ⟨fuelv, hdv⟩ ⟨3, P.reads_table enc W _⟩
  obtain ⟨a0, len0, cap0, rfl⟩ := okWide_slice Tryd.underlying36 (hval 0 36 v0 rfl rfl)
  have k0 := h0
  have lt0 : ∀ x ∈ p0, x.block < W.heap.size := by obtain ⟨m, hm⟩ := k0; exact DataW.trod_lt m _ _ _ hm
  obtain ⟨z0, w0⟩ : ∃ zs, IsRow .u8 W a0 len0 cap0 zs := by
    obtain ⟨fuel, hf⟩ := h0
    rcases open_ints Tryd.underlying36 Tryd.underlying5 (by kernel_rfl) hf with ⟨hcs, _⟩ | ⟨x, l, c, zs, hcs, _, hl, hm, hz, _, hcell, hwz⟩
    · simp [Value.cells] at hcs
      obtain ⟨rfl, rfl, rfl⟩ := hcs
      exact ⟨[], .inl ⟨rfl, rfl, rfl, rfl⟩⟩
    · simp [Value.cells] at hcs
      obtain ⟨rfl, rfl, rfl⟩ := hcs
      exact ⟨zs, .inr ⟨_, rfl, hl, hm, by simpa using hz, hcell, hwz⟩⟩
  have y0 : len0 * 1 ≤ 140737488351232 := Go.Proofs.YtnclcbjagleoeaaDoorW.PrintWords.sized_ints hsz (j := 0) (t := 36) rfl rfl Tryd.underlying36 Tryd.underlying5 (by kernel_rfl) (by kernel_rfl) h0
  obtain ⟨a1, len1, cap1, rfl⟩ := okWide_slice Tryd.underlying36 (hval 1 36 v1 rfl rfl)
  have k1 := h1
  have lt1 : ∀ x ∈ p1, x.block < W.heap.size := by obtain ⟨m, hm⟩ := k1; exact DataW.trod_lt m _ _ _ hm
  obtain ⟨z1, w1⟩ : ∃ zs, IsRow .u8 W a1 len1 cap1 zs := by
    obtain ⟨fuel, hf⟩ := h1
    rcases open_ints Tryd.underlying36 Tryd.underlying5 (by kernel_rfl) hf with ⟨hcs, _⟩ | ⟨x, l, c, zs, hcs, _, hl, hm, hz, _, hcell, hwz⟩
    · simp [Value.cells] at hcs
      obtain ⟨rfl, rfl, rfl⟩ := hcs
      exact ⟨[], .inl ⟨rfl, rfl, rfl, rfl⟩⟩
    · simp [Value.cells] at hcs
      obtain ⟨rfl, rfl, rfl⟩ := hcs
      exact ⟨zs, .inr ⟨_, rfl, hl, hm, by simpa using hz, hcell, hwz⟩⟩
  have y1 : len1 * 1 ≤ 140737488351232 := Go.Proofs.YtnclcbjagleoeaaDoorW.PrintWords.sized_ints hsz (j := 1) (t := 36) rfl rfl Tryd.underlying36 Tryd.underlying5 (by kernel_rfl) (by kernel_rfl) h1
  clear hA0 hval0 hsz0 hsz
  refine (P.laws_FnFallNews.walk PL.FnFallNews a0 len0 cap0 z0 a1 len1 cap1 z1 W w0 y0 w1 y1 hG).mono fun e W' ⟨he, bel⟩ => ?_
  subst he
  exact ⟨_, rfl, _, _, _, _, _, _, hW', trodAll_mk1 (shut_bool Tryd.underlying4 _), (trodAll_cons_mk (Below.trod laidOut (by kernel_rfl) (of_decide_eq_true (by kernel_rfl)) k0 bel lt0) (trodAll_cons_mk (Below.trod laidOut (by kernel_rfl) (of_decide_eq_true (by kernel_rfl)) k1 bel lt1) trodAll_mk0)), P.tab_vars enc (hG.below bel), bel.frame _, fun h => by cases h⟩
theorem over : Rows.fnFallNewsRow.holds Tryd.pinned (OpenSpec.ofChange Rows.fnFallNewsSpec) :=
  OpenClaim.holds_of_wide 9 Tryd.f9 rfl rfl rfl rfl rfl rfl rfl ⟨rfl, rfl, rfl, rfl, rfl⟩ rfl rfl rfl rfl rfl (by kernel_rfl) Tryd.func9 (by kernel_rfl)
    (of_decide_eq_true (by kernel_rfl)) (by unfold Func.isWrapper; first | (rw [if_pos (by decide +kernel)]; kernel_rfl) | (rw [if_neg (by decide +kernel)]; exact ⟨rfl, rfl⟩))
    (fun os started H enc _ => lifted os started H enc)
theorem proved : Rows.FnFallNewsSaid := over
#print axioms proved
end Go.Proofs.YtnclcbjagleoeaaDoor.fnFallNews
namespace Go.Proofs.YtnclcbjagleoeaaDoor
/-- The row, under a short name. -/
theorem fnFallNews_holds : Rows.FnFallNewsSaid := fnFallNews.proved
end Go.Proofs.YtnclcbjagleoeaaDoor
namespace Go.Proofs.YtnclcbjagleoeaaDoor
open Go
theorem fnFallNewsCard_holds : Rows.FnFallNewsCardSaid :=
  Claim7.holds_tied_plain_at .later [] [.data] true (true, "57cd4da34d3600158406d32b39c8655b8f1177fc2a013a7f45b784ef106e8989") false
    fnFallNews_holds (fun _ h => by cases h) (by kernel_rfl) (fun _ h => by cases h) fnFallNews_row_tie rfl ⟨rfl, rfl⟩ (by kernel_rfl) rfl
    (fun f fn hf hfn => by
      obtain rfl : f = 9 := Option.some.inj ((show Tryd.prog.funcNamed "loop.example/plashet/laws.FnFallNews" = some 9 by kernel_rfl).symm.trans hf) |>.symm
      obtain rfl : fn = Tryd.f9 := (Option.some.inj (Tryd.func9.symm.trans hfn)).symm
      exact ⟨by kernel_rfl, fun j t ht => by
        rw [Tryd.params9] at ht
        have hm : t ∈ [36] := by have := Array.mem_of_getElem? ht; simp at this; first | (subst this; simp; done) | (rcases this with h | h <;> simp [h]; done) | (rcases this with h | h | h <;> simp [h]; done)
        have hall : ([36].all fun u => !Tryd.prog.wantsStandIn u) = true := by kernel_rfl
        exact (show Tryd.prog.wantsStandIn t = false by simpa using List.all_eq_true.1 hall t hm)⟩)
    (by kernel_rfl)
#print axioms fnFallNewsCard_holds
end Go.Proofs.YtnclcbjagleoeaaDoor
