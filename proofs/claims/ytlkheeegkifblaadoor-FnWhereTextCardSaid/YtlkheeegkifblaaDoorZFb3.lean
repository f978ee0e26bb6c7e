/- Joined by a program (wip/shake.py): the declarations that 'YtlkheeegkifblaaDoorCardFnWhereText' reaches. -/
import Derived.Test.YtlkheeegkifblaaDoorZFb2
set_option linter.unusedVariables false
set_option linter.unusedSimpArgs false
set_option linter.unusedSectionVars false
namespace Go.Proofs.YtlkheeegkifblaaDoor.P
open Go.RowKit Go.Proofs.YtlkheeegkifblaaDoorW.PrintWords Go.Proofs.YtlkheeegkifblaaDoorW.PrintLast
set_option maxHeartbeats 8000000 in
set_option maxRecDepth 100000 in
theorem spec_l71Fits.calls (k : Nat) (g : Nat) (s0_0 : List Int) (s0_1 : Int) (r1 : List (S37)) (r2 : Int) (r3 : Int) (r4 : Int) (r5 : Int) (r6 : ByteArray) (r7 : Int) (w0 w : World) (hI : IsS102 w0 w g s0_0 s0_1) (hB : Below w0.heap.size w0 w) (h : spec_l71Fits.f k s0_0 s0_1 = some (r1, r2, r3, r4, r5, r6, r7)) :
  Calls Tryd.prog 86 #[.pointer (some ⟨g, 0, none⟩)] w fun e w' => ∃ v0_ : Value, e = .returned (.tuple #[v0_, .agg #[.int .i64 r2, .int .i64 r3, .int .i64 r4, .int .i64 r5, .string r6]]) ∧ Kd.Q k37 37 w' w.heap.size (fun _ => True) v0_ r1 ∧ IsS102 w0 w' g s0_0 r7 ∧ Below w0.heap.size w0 w' ∧ KeepBut w w' g none := by
 have hu27 := Tryd.underlying27
 have HI0 := Aside0.mk hI
 have HK := Aside0.mk (KeepBut.refl w g none)
 have HL := Aside0.mk hB.size
 clear hI
 have HW0 := Aside0.mk hB.size
 have HB := Aside0.mk hB
 clear hB
 unfold spec_l71Fits.f at h
 have H := h
 clear h
 replace H := Option.bind_eq_some_iff.mp H
 obtain ⟨⟨t865, t868, t869⟩, A20, H⟩ := H
 try dsimp only at H
 have A2 := Aside0.mk A20
 clear A20
 replace H := Option.bind_eq_some_iff.mp H
 obtain ⟨⟨t870, t871, t872, t873, t874, t875⟩, A30, H⟩ := H
 try dsimp only at H
 have A3 := Aside0.mk A30
 clear A30
 have HC4 := Aside0.mk H
 clear H
 go_enter Tryd.func86, Tryd.ntmps86
 go_upto_region 3 with (first | ((with_reducible refine gate_dst (N := 3) rfl ?_); refine bx_ 3 (#[.int .i64 0, .int .i64 0, .int .i64 0, .int .i64 0, .string (⟨#[]⟩ : ByteArray)]) 27 ?_; intro gb864 hg w5 hbox hb; have n0_ := Aside0.mk (IsS102.below (is_HI0) hb); have n1_ := Aside0.mk (KeepBut.trans (ke_) (KeepBut.of_below hb g none) (.inl rfl)); have n2_ := Aside0.mk (below_step (bel_) hb); have n3_ := Aside0.mk (hbox); have n4_ := Aside0.mk ((by rw [hg]; exact (keep_size (w := w) (g := g) (row := none) (ke_)) : w.heap.size ≤ gb864)); have n5_ := Aside0.mk ((Nat.le_trans HW0.out (by rw [hg]; exact (keep_size (w := w) (g := g) (row := none) (ke_)) : w.heap.size ≤ gb864) : w0.heap.size ≤ gb864)); have n6_ := Aside0.mk ((by rw [hg]; exact Nat.ne_of_lt (IsS102.lt (show IsS102 w0 _ g s0_0 s0_1 from is_HI0)) : g ≠ gb864)); have n7_ := Aside0.mk ((by rw [hg]; exact Nat.ne_of_gt (IsS102.lt (show IsS102 w0 _ g s0_0 s0_1 from is_HI0)) : gb864 ≠ g)); clear HI0; clear HK; clear HB; have HI0 := n0_; have HK := n1_; have HB := n2_; have BK864 := n3_; have GW864 := n4_; have GE864 := n5_; have NB0_864 := n6_; have NB864_0 := n7_; clear n0_ n1_ n2_ n3_ n4_ n5_ n6_ n7_; clear hb hbox hg) | ((with_reducible refine gate_callee (f := 51) rfl ?_); refine gl_ 10 Tryd.func51 #[.pointer (some ⟨g, 0, none⟩)] ?_; (with_reducible refine (spec_l71Row.calls k g s0_0 s0_1 t865 t868 t869 w0 _ ?side1 ?side2 A2.out).mono ?_); (case side1 => exact is_HI0); (case side2 => exact bel_); rintro e w6 ⟨v866, rfl, ho0, hi, hb, hk⟩; refine ⟨_, rfl, ?_⟩; replace BK864 := Aside0.mk (kb_ hk BK864.out NB864_0.out); have HO867 := Aside0.mk (Kd.Q_lower ho0 (keep_size (w := w) (g := g) (row := none) (kf_ HK.out))); replace HK := Aside0.mk (KeepBut.trans (kf_ HK.out) hk (.inl rfl)); replace HB := Aside0.mk (hb); replace HI0 := Aside0.mk (hi); (try clear hb hk hi ho0)) | ((with_reducible refine gate_callee (f := 109) rfl ?_); refine gl_ 14 Tryd.func109 #[.pointer (some ⟨g, 0, none⟩)] ?_; (with_reducible refine (spec_l71Op.calls k g s0_0 t869 t870 t871 t872 t873 t874 t875 w0 _ ?side1 ?side2 A3.out).mono ?_); (case side1 => exact is_HI0); (case side2 => exact bel_); rintro e w7 ⟨rfl, hi, hb, hk⟩; refine ⟨_, rfl, ?_⟩; replace BK864 := Aside0.mk (kb_ hk BK864.out NB864_0.out); replace HO867 := Aside0.mk (Kd.Q_mono (Kd.Q_keep (IsS102.apartQ (show IsS102 w0 _ g s0_0 t869 from is_HI0) (qp_ HO867.out) (by decide)) hk (fun _ h => h.2)) (fun _ h => h.1)); replace HK := Aside0.mk (KeepBut.trans (kf_ HK.out) hk (.inl rfl)); replace HB := Aside0.mk (hb); replace HI0 := Aside0.mk (hi); (try clear hb hk hi)) | ((with_reducible refine gate_dst (N := 6) rfl ?_); refine bx_ 6 (#[.int .i64 0, .int .i64 0, .int .i64 0, .int .i64 0, .string (⟨#[]⟩ : ByteArray)]) 27 ?_; intro gb876 hg w8 hbox hb; have n0_ := Aside0.mk (Kd.Q_below (qp_ HO867.out) hb); have n1_ := Aside0.mk (IsS102.below (is_HI0) hb); have n2_ := Aside0.mk (bb_ BK864.out hb); have n3_ := Aside0.mk (KeepBut.trans (kf_ HK.out) (KeepBut.of_below hb g none) (.inl rfl)); have n4_ := Aside0.mk (below_step (bel_) hb); have n5_ := Aside0.mk (hbox); have n6_ := Aside0.mk ((by rw [hg]; exact (keep_size (w := w) (g := g) (row := none) (kf_ HK.out)) : w.heap.size ≤ gb876)); have n7_ := Aside0.mk ((Nat.le_trans HW0.out (by rw [hg]; exact (keep_size (w := w) (g := g) (row := none) (kf_ HK.out)) : w.heap.size ≤ gb876) : w0.heap.size ≤ gb876)); have n8_ := Aside0.mk ((by rw [hg]; exact Nat.ne_of_lt (blk_lt (g := gb864) (o := .cells #[.int .i64 0, .int .i64 0, .int .i64 0, .int .i64 0, .string (⟨#[]⟩ : ByteArray)] 27 (0, 0)) (bp_ BK864.out)) : gb864 ≠ gb876)); have n9_ := Aside0.mk ((by rw [hg]; exact Nat.ne_of_gt (blk_lt (g := gb864) (o := .cells #[.int .i64 0, .int .i64 0, .int .i64 0, .int .i64 0, .string (⟨#[]⟩ : ByteArray)] 27 (0, 0)) (bp_ BK864.out)) : gb876 ≠ gb864)); have n10_ := Aside0.mk ((by rw [hg]; exact Nat.ne_of_lt (IsS102.lt (show IsS102 w0 _ g s0_0 t875 from is_HI0)) : g ≠ gb876)); have n11_ := Aside0.mk ((by rw [hg]; exact Nat.ne_of_gt (IsS102.lt (show IsS102 w0 _ g s0_0 t875 from is_HI0)) : gb876 ≠ g)); clear HO867; clear HI0; clear BK864; clear HK; clear HB; have HO867 := n0_; have HI0 := n1_; have BK864 := n2_; have HK := n3_; have HB := n4_; have BK876 := n5_; have GW876 := n6_; have GE876 := n7_; have NB864_876 := n8_; have NB876_864 := n9_; have NB0_876 := n10_; have NB876_0 := n11_; clear n0_ n1_ n2_ n3_ n4_ n5_ n6_ n7_ n8_ n9_ n10_ n11_; clear hb hbox hg; have hnb9 := NB876_864.out; have hnc9 := NB864_876.out; have hnb10 := NB876_0.out; have hnc10 := NB0_876.out; have hcz11_0 := cz_ BK876.out 0 (.int .i64 0); have hcz11_1 := cz_ BK876.out 1 (.int .i64 0); have hcz11_2 := cz_ BK876.out 2 (.int .i64 0); have hcz11_3 := cz_ BK876.out 3 (.int .i64 0); have hcz11_4 := cz_ BK876.out 4 (.string (⟨#[]⟩ : ByteArray)); have hfz11_0 := blk_frozen BK876.out 0; have hfz11_1 := blk_frozen BK876.out 1; have hfz11_2 := blk_frozen BK876.out 2; have hfz11_3 := blk_frozen BK876.out 3; have hfz11_4 := blk_frozen BK876.out 4))
 (try simp only [Act.put, List.setIfInBounds_toArray, List.set_cons_zero, List.set_cons_succ])
 go_cut [26] (fun v26 wc => ∃ (kq : Nat) (x26_3 : Bool) (x1001_3 : Int), v26 = .bool x26_3 ∧ Aside0 (spec_l71Fits.j0 kq t865 t868 x26_3 s0_0 x1001_3 t870 t871 t872 t873 t874 = some (r1, r2, r3, r4, r5, r6, r7)) ∧ Aside0 (kq ≤ k) ∧ Aside0 (Kd.Q k37 37 wc w.heap.size (fun _ => True) v866 t865) ∧ Aside0 (wc.heap[gb864]? = some (.cells #[.int .i64 0, .int .i64 0, .int .i64 0, .int .i64 0, .string (⟨#[]⟩ : ByteArray)] 27 (0, 0))) ∧ Aside0 (wc.heap[gb876]? = some (.cells #[.int .i64 t870, .int .i64 t871, .int .i64 t872, .int .i64 t873, .string t874] 27 (0, 0))) ∧ Aside0 (IsS102 w0 wc g s0_0 x1001_3) ∧ Aside0 (KeepBut w wc g none) ∧ Aside0 (Below w0.heap.size w0 wc))
 case first =>
  have H := HC4.out
  clear HC4
  replace H := Option.bind_eq_some_iff.mp H
  obtain ⟨⟨t877, t878⟩, A120, H⟩ := H
  try dsimp only at H
  have A12 := Aside0.mk A120
  clear A120
  by_cases c13 : t877 > 0
  ·rw [if_pos c13] at H
   have c13b0 : decide (0 < t877) = true := decide_eq_true c13
   clear c13
   (first | rw [c13b0] | (simp only [i64_w, i32_w]; rw [c13b0]) | skip)
   by_cases c14 : t870 = 1
   ·rw [if_pos c14] at H
    have c14b0 : (t870 == 1) = true := beq_iff_eq.mpr c14
    have c14b1 : (t870 != 1) = false := bne_eq_false_iff_eq.mpr c14
    clear c14
    have H' := Aside0.mk H
    clear H
    go_wp2_with (first | ((with_reducible refine gate_callee (f := 73) rfl ?_); refine gl_ 16 Tryd.func73 #[.pointer (some ⟨g, 0, none⟩), .int .i64 5] ?_; (with_reducible refine (spec_l6Rd_pick.calls k g s0_0 t875 5 t877 t878 w0 _ ?side1 ?side2 A12.out).mono ?_); (case side1 => exact is_HI0); (case side2 => exact bel_); rintro e w15 ⟨rfl, hi, hb, hk⟩; refine ⟨_, rfl, ?_⟩; have n0_ := Aside0.mk (KeepBut.blk hk (g' := gb864) (o := .cells #[.int .i64 0, .int .i64 0, .int .i64 0, .int .i64 0, .string (⟨#[]⟩ : ByteArray)] 27 (0, 0)) (by (with_reducible repeat (first | refine blk_drewN ?_ _ | refine blk_drew ?_ | refine blk_alloc ?_ _)); refine blk_far ?_ NB864_876.out _; (with_reducible repeat (first | refine blk_drewN ?_ _ | refine blk_drew ?_ | refine blk_alloc ?_ _)); refine blk_far ?_ NB864_876.out _; (with_reducible repeat (first | refine blk_drewN ?_ _ | refine blk_drew ?_ | refine blk_alloc ?_ _)); refine blk_far ?_ NB864_876.out _; (with_reducible repeat (first | refine blk_drewN ?_ _ | refine blk_drew ?_ | refine blk_alloc ?_ _)); refine blk_far ?_ NB864_876.out _; (with_reducible repeat (first | refine blk_drewN ?_ _ | refine blk_drew ?_ | refine blk_alloc ?_ _)); refine blk_far ?_ NB864_876.out _; (with_reducible repeat (first | refine blk_drewN ?_ _ | refine blk_drew ?_ | refine blk_alloc ?_ _)); exact BK864.out) NB864_0.out (by simp)); have n1_ := Aside0.mk (Kd.Q_mono (Kd.Q_keep (IsS102.apartQ (show IsS102 w0 _ g s0_0 t875 from is_HI0) (by (with_reducible repeat (first | apply Kd.Q_alloc | apply Kd.Q_drewN | apply Kd.Q_drew)); exact (Kd.Q_mono (Kd.Q_far (p := ⟨gb876, 4, none⟩) (Kd.Q_far (p := ⟨gb876, 3, none⟩) (Kd.Q_far (p := ⟨gb876, 2, none⟩) (Kd.Q_far (p := ⟨gb876, 1, none⟩) (Kd.Q_far (p := ⟨gb876, 0, none⟩) (Kd.Q_types HO867.out BK876.out (by decide)) (fun _ hk => hk.2) (.int .i64 t870)) (fun _ hk => hk.2) (.int .i64 t871)) (fun _ hk => hk.2) (.int .i64 t872)) (fun _ hk => hk.2) (.int .i64 t873)) (fun _ hk => hk.2) (.string t874)) (fun _ h_ => h_.1))) (by decide)) hk (fun _ h => h.2)) (fun _ h => h.1)); have n2_ := Aside0.mk (KeepBut.blk hk (g' := gb876) (o := .cells #[.int .i64 t870, .int .i64 t871, .int .i64 t872, .int .i64 t873, .string t874] 27 (0, 0)) (by (with_reducible repeat (first | refine blk_drewN ?_ _ | refine blk_drew ?_ | refine blk_alloc ?_ _)); refine blk_put (cs := #[.int .i64 t870, .int .i64 t871, .int .i64 t872, .int .i64 t873, .string (⟨#[]⟩ : ByteArray)]) ?_ 4 _ rfl; (with_reducible repeat (first | refine blk_drewN ?_ _ | refine blk_drew ?_ | refine blk_alloc ?_ _)); refine blk_put (cs := #[.int .i64 t870, .int .i64 t871, .int .i64 t872, .int .i64 0, .string (⟨#[]⟩ : ByteArray)]) ?_ 3 _ rfl; (with_reducible repeat (first | refine blk_drewN ?_ _ | refine blk_drew ?_ | refine blk_alloc ?_ _)); refine blk_put (cs := #[.int .i64 t870, .int .i64 t871, .int .i64 0, .int .i64 0, .string (⟨#[]⟩ : ByteArray)]) ?_ 2 _ rfl; (with_reducible repeat (first | refine blk_drewN ?_ _ | refine blk_drew ?_ | refine blk_alloc ?_ _)); refine blk_put (cs := #[.int .i64 t870, .int .i64 0, .int .i64 0, .int .i64 0, .string (⟨#[]⟩ : ByteArray)]) ?_ 1 _ rfl; (with_reducible repeat (first | refine blk_drewN ?_ _ | refine blk_drew ?_ | refine blk_alloc ?_ _)); refine blk_put (cs := #[.int .i64 0, .int .i64 0, .int .i64 0, .int .i64 0, .string (⟨#[]⟩ : ByteArray)]) ?_ 0 _ rfl; (with_reducible repeat (first | refine blk_drewN ?_ _ | refine blk_drew ?_ | refine blk_alloc ?_ _)); exact BK876.out) NB876_0.out (by simp)); have n3_ := Aside0.mk (KeepBut.trans (kf_ HK.out) hk (.inl rfl)); have n4_ := Aside0.mk (hb); have n5_ := Aside0.mk (hi); clear BK864; clear HO867; clear BK876; clear HK; clear HB; clear HI0; have BK864 := n0_; have HO867 := n1_; have BK876 := n2_; have HK := n3_; have HB := n4_; have HI0 := n5_; clear n0_ n1_ n2_ n3_ n4_ n5_; (try clear hb hk hi); have hnb16 := NB876_864.out; have hnc16 := NB864_876.out; have hnb17 := NB876_0.out; have hnc17 := NB0_876.out; have hcz18_0 := cz_ BK876.out 0 (.int .i64 t870); have hcz18_1 := cz_ BK876.out 1 (.int .i64 t871); have hcz18_2 := cz_ BK876.out 2 (.int .i64 t872); have hcz18_3 := cz_ BK876.out 3 (.int .i64 t873); have hcz18_4 := cz_ BK876.out 4 (.string t874); have hfz18_0 := blk_frozen BK876.out 0; have hfz18_1 := blk_frozen BK876.out 1; have hfz18_2 := blk_frozen BK876.out 2; have hfz18_3 := blk_frozen BK876.out 3; have hfz18_4 := blk_frozen BK876.out 4))
    go_meet
    case rel => exact ⟨_, (false), (t878), (si_), H', ⟨by first | omega | exact Nat.le_refl _⟩, ⟨by (with_reducible repeat (first | apply Kd.Q_alloc | apply Kd.Q_drewN | apply Kd.Q_drew)); exact HO867.out⟩, ⟨by (with_reducible repeat (first | refine blk_drewN ?_ _ | refine blk_drew ?_ | refine blk_alloc ?_ _)); exact BK864.out⟩, ⟨by (with_reducible repeat (first | refine blk_drewN ?_ _ | refine blk_drew ?_ | refine blk_alloc ?_ _)); exact BK876.out⟩, ⟨is_HI0⟩, ⟨kf_ HK.out⟩, ⟨bel_⟩⟩
   ·rw [if_neg c14] at H
    have c14b0 : (t870 == 1) = false := beq_eq_false_iff_ne.mpr c14
    have c14b1 : (t870 != 1) = true := bne_iff_ne.mpr c14
    replace H := Option.bind_eq_some_iff.mp H
    obtain ⟨t879, A190, H⟩ := H
    try dsimp only at H
    have A19 := Aside0.mk A190
    clear A190
    have H' := Aside0.mk H
    clear H
    go_wp2_with (first | ((with_reducible refine gate_callee (f := 73) rfl ?_); refine gl_ 16 Tryd.func73 #[.pointer (some ⟨g, 0, none⟩), .int .i64 5] ?_; (with_reducible refine (spec_l6Rd_pick.calls k g s0_0 t875 5 t877 t878 w0 _ ?side1 ?side2 A12.out).mono ?_); (case side1 => exact is_HI0); (case side2 => exact bel_); rintro e w20 ⟨rfl, hi, hb, hk⟩; refine ⟨_, rfl, ?_⟩; have n0_ := Aside0.mk (KeepBut.blk hk (g' := gb864) (o := .cells #[.int .i64 0, .int .i64 0, .int .i64 0, .int .i64 0, .string (⟨#[]⟩ : ByteArray)] 27 (0, 0)) (by (with_reducible repeat (first | refine blk_drewN ?_ _ | refine blk_drew ?_ | refine blk_alloc ?_ _)); refine blk_far ?_ NB864_876.out _; (with_reducible repeat (first | refine blk_drewN ?_ _ | refine blk_drew ?_ | refine blk_alloc ?_ _)); refine blk_far ?_ NB864_876.out _; (with_reducible repeat (first | refine blk_drewN ?_ _ | refine blk_drew ?_ | refine blk_alloc ?_ _)); refine blk_far ?_ NB864_876.out _; (with_reducible repeat (first | refine blk_drewN ?_ _ | refine blk_drew ?_ | refine blk_alloc ?_ _)); refine blk_far ?_ NB864_876.out _; (with_reducible repeat (first | refine blk_drewN ?_ _ | refine blk_drew ?_ | refine blk_alloc ?_ _)); refine blk_far ?_ NB864_876.out _; (with_reducible repeat (first | refine blk_drewN ?_ _ | refine blk_drew ?_ | refine blk_alloc ?_ _)); exact BK864.out) NB864_0.out (by simp)); have n1_ := Aside0.mk (Kd.Q_mono (Kd.Q_keep (IsS102.apartQ (show IsS102 w0 _ g s0_0 t875 from is_HI0) (by (with_reducible repeat (first | apply Kd.Q_alloc | apply Kd.Q_drewN | apply Kd.Q_drew)); exact (Kd.Q_mono (Kd.Q_far (p := ⟨gb876, 4, none⟩) (Kd.Q_far (p := ⟨gb876, 3, none⟩) (Kd.Q_far (p := ⟨gb876, 2, none⟩) (Kd.Q_far (p := ⟨gb876, 1, none⟩) (Kd.Q_far (p := ⟨gb876, 0, none⟩) (Kd.Q_types HO867.out BK876.out (by decide)) (fun _ hk => hk.2) (.int .i64 t870)) (fun _ hk => hk.2) (.int .i64 t871)) (fun _ hk => hk.2) (.int .i64 t872)) (fun _ hk => hk.2) (.int .i64 t873)) (fun _ hk => hk.2) (.string t874)) (fun _ h_ => h_.1))) (by decide)) hk (fun _ h => h.2)) (fun _ h => h.1)); have n2_ := Aside0.mk (KeepBut.blk hk (g' := gb876) (o := .cells #[.int .i64 t870, .int .i64 t871, .int .i64 t872, .int .i64 t873, .string t874] 27 (0, 0)) (by (with_reducible repeat (first | refine blk_drewN ?_ _ | refine blk_drew ?_ | refine blk_alloc ?_ _)); refine blk_put (cs := #[.int .i64 t870, .int .i64 t871, .int .i64 t872, .int .i64 t873, .string (⟨#[]⟩ : ByteArray)]) ?_ 4 _ rfl; (with_reducible repeat (first | refine blk_drewN ?_ _ | refine blk_drew ?_ | refine blk_alloc ?_ _)); refine blk_put (cs := #[.int .i64 t870, .int .i64 t871, .int .i64 t872, .int .i64 0, .string (⟨#[]⟩ : ByteArray)]) ?_ 3 _ rfl; (with_reducible repeat (first | refine blk_drewN ?_ _ | refine blk_drew ?_ | refine blk_alloc ?_ _)); refine blk_put (cs := #[.int .i64 t870, .int .i64 t871, .int .i64 0, .int .i64 0, .string (⟨#[]⟩ : ByteArray)]) ?_ 2 _ rfl; (with_reducible repeat (first | refine blk_drewN ?_ _ | refine blk_drew ?_ | refine blk_alloc ?_ _)); refine blk_put (cs := #[.int .i64 t870, .int .i64 0, .int .i64 0, .int .i64 0, .string (⟨#[]⟩ : ByteArray)]) ?_ 1 _ rfl; (with_reducible repeat (first | refine blk_drewN ?_ _ | refine blk_drew ?_ | refine blk_alloc ?_ _)); refine blk_put (cs := #[.int .i64 0, .int .i64 0, .int .i64 0, .int .i64 0, .string (⟨#[]⟩ : ByteArray)]) ?_ 0 _ rfl; (with_reducible repeat (first | refine blk_drewN ?_ _ | refine blk_drew ?_ | refine blk_alloc ?_ _)); exact BK876.out) NB876_0.out (by simp)); have n3_ := Aside0.mk (KeepBut.trans (kf_ HK.out) hk (.inl rfl)); have n4_ := Aside0.mk (hb); have n5_ := Aside0.mk (hi); clear BK864; clear HO867; clear BK876; clear HK; clear HB; clear HI0; have BK864 := n0_; have HO867 := n1_; have BK876 := n2_; have HK := n3_; have HB := n4_; have HI0 := n5_; clear n0_ n1_ n2_ n3_ n4_ n5_; (try clear hb hk hi); have hnb21 := NB876_864.out; have hnc21 := NB864_876.out; have hnb22 := NB876_0.out; have hnc22 := NB0_876.out; have hcz23_0 := cz_ BK876.out 0 (.int .i64 t870); have hcz23_1 := cz_ BK876.out 1 (.int .i64 t871); have hcz23_2 := cz_ BK876.out 2 (.int .i64 t872); have hcz23_3 := cz_ BK876.out 3 (.int .i64 t873); have hcz23_4 := cz_ BK876.out 4 (.string t874); have hfz23_0 := blk_frozen BK876.out 0; have hfz23_1 := blk_frozen BK876.out 1; have hfz23_2 := blk_frozen BK876.out 2; have hfz23_3 := blk_frozen BK876.out 3; have hfz23_4 := blk_frozen BK876.out 4) | (go_at_call 53; (with_reducible refine (spec_l1Made.calls t868 t879 _ A19.out).mono ?_); rintro e w' ⟨rfl, ⟨nd, rfl⟩⟩))
    go_meet
    case rel => exact ⟨_, (t879), (t878), (si_), H', ⟨by first | omega | exact Nat.le_refl _⟩, ⟨by (with_reducible repeat (first | apply Kd.Q_alloc | apply Kd.Q_drewN | apply Kd.Q_drew)); exact HO867.out⟩, ⟨by (with_reducible repeat (first | refine blk_drewN ?_ _ | refine blk_drew ?_ | refine blk_alloc ?_ _)); exact BK864.out⟩, ⟨by (with_reducible repeat (first | refine blk_drewN ?_ _ | refine blk_drew ?_ | refine blk_alloc ?_ _)); exact BK876.out⟩, ⟨is_HI0⟩, ⟨kf_ HK.out⟩, ⟨bel_⟩⟩
  ·rw [if_neg c13] at H
   have c13b0 : decide (0 < t877) = false := decide_eq_false c13
   clear c13
   (first | rw [c13b0] | (simp only [i64_w, i32_w]; rw [c13b0]) | skip)
   have H' := Aside0.mk H
   clear H
   go_wp2_with (first | ((with_reducible refine gate_callee (f := 73) rfl ?_); refine gl_ 16 Tryd.func73 #[.pointer (some ⟨g, 0, none⟩), .int .i64 5] ?_; (with_reducible refine (spec_l6Rd_pick.calls k g s0_0 t875 5 t877 t878 w0 _ ?side1 ?side2 A12.out).mono ?_); (case side1 => exact is_HI0); (case side2 => exact bel_); rintro e w24 ⟨rfl, hi, hb, hk⟩; refine ⟨_, rfl, ?_⟩; have n0_ := Aside0.mk (KeepBut.blk hk (g' := gb864) (o := .cells #[.int .i64 0, .int .i64 0, .int .i64 0, .int .i64 0, .string (⟨#[]⟩ : ByteArray)] 27 (0, 0)) (by (with_reducible repeat (first | refine blk_drewN ?_ _ | refine blk_drew ?_ | refine blk_alloc ?_ _)); refine blk_far ?_ NB864_876.out _; (with_reducible repeat (first | refine blk_drewN ?_ _ | refine blk_drew ?_ | refine blk_alloc ?_ _)); refine blk_far ?_ NB864_876.out _; (with_reducible repeat (first | refine blk_drewN ?_ _ | refine blk_drew ?_ | refine blk_alloc ?_ _)); refine blk_far ?_ NB864_876.out _; (with_reducible repeat (first | refine blk_drewN ?_ _ | refine blk_drew ?_ | refine blk_alloc ?_ _)); refine blk_far ?_ NB864_876.out _; (with_reducible repeat (first | refine blk_drewN ?_ _ | refine blk_drew ?_ | refine blk_alloc ?_ _)); refine blk_far ?_ NB864_876.out _; (with_reducible repeat (first | refine blk_drewN ?_ _ | refine blk_drew ?_ | refine blk_alloc ?_ _)); exact BK864.out) NB864_0.out (by simp)); have n1_ := Aside0.mk (Kd.Q_mono (Kd.Q_keep (IsS102.apartQ (show IsS102 w0 _ g s0_0 t875 from is_HI0) (by (with_reducible repeat (first | apply Kd.Q_alloc | apply Kd.Q_drewN | apply Kd.Q_drew)); exact (Kd.Q_mono (Kd.Q_far (p := ⟨gb876, 4, none⟩) (Kd.Q_far (p := ⟨gb876, 3, none⟩) (Kd.Q_far (p := ⟨gb876, 2, none⟩) (Kd.Q_far (p := ⟨gb876, 1, none⟩) (Kd.Q_far (p := ⟨gb876, 0, none⟩) (Kd.Q_types HO867.out BK876.out (by decide)) (fun _ hk => hk.2) (.int .i64 t870)) (fun _ hk => hk.2) (.int .i64 t871)) (fun _ hk => hk.2) (.int .i64 t872)) (fun _ hk => hk.2) (.int .i64 t873)) (fun _ hk => hk.2) (.string t874)) (fun _ h_ => h_.1))) (by decide)) hk (fun _ h => h.2)) (fun _ h => h.1)); have n2_ := Aside0.mk (KeepBut.blk hk (g' := gb876) (o := .cells #[.int .i64 t870, .int .i64 t871, .int .i64 t872, .int .i64 t873, .string t874] 27 (0, 0)) (by (with_reducible repeat (first | refine blk_drewN ?_ _ | refine blk_drew ?_ | refine blk_alloc ?_ _)); refine blk_put (cs := #[.int .i64 t870, .int .i64 t871, .int .i64 t872, .int .i64 t873, .string (⟨#[]⟩ : ByteArray)]) ?_ 4 _ rfl; (with_reducible repeat (first | refine blk_drewN ?_ _ | refine blk_drew ?_ | refine blk_alloc ?_ _)); refine blk_put (cs := #[.int .i64 t870, .int .i64 t871, .int .i64 t872, .int .i64 0, .string (⟨#[]⟩ : ByteArray)]) ?_ 3 _ rfl; (with_reducible repeat (first | refine blk_drewN ?_ _ | refine blk_drew ?_ | refine blk_alloc ?_ _)); refine blk_put (cs := #[.int .i64 t870, .int .i64 t871, .int .i64 0, .int .i64 0, .string (⟨#[]⟩ : ByteArray)]) ?_ 2 _ rfl; (with_reducible repeat (first | refine blk_drewN ?_ _ | refine blk_drew ?_ | refine blk_alloc ?_ _)); refine blk_put (cs := #[.int .i64 t870, .int .i64 0, .int .i64 0, .int .i64 0, .string (⟨#[]⟩ : ByteArray)]) ?_ 1 _ rfl; (with_reducible repeat (first | refine blk_drewN ?_ _ | refine blk_drew ?_ | refine blk_alloc ?_ _)); refine blk_put (cs := #[.int .i64 0, .int .i64 0, .int .i64 0, .int .i64 0, .string (⟨#[]⟩ : ByteArray)]) ?_ 0 _ rfl; (with_reducible repeat (first | refine blk_drewN ?_ _ | refine blk_drew ?_ | refine blk_alloc ?_ _)); exact BK876.out) NB876_0.out (by simp)); have n3_ := Aside0.mk (KeepBut.trans (kf_ HK.out) hk (.inl rfl)); have n4_ := Aside0.mk (hb); have n5_ := Aside0.mk (hi); clear BK864; clear HO867; clear BK876; clear HK; clear HB; clear HI0; have BK864 := n0_; have HO867 := n1_; have BK876 := n2_; have HK := n3_; have HB := n4_; have HI0 := n5_; clear n0_ n1_ n2_ n3_ n4_ n5_; (try clear hb hk hi)))
   go_meet
   case rel => exact ⟨_, (false), (t878), (si_), H', ⟨by first | omega | exact Nat.le_refl _⟩, ⟨by (with_reducible repeat (first | apply Kd.Q_alloc | apply Kd.Q_drewN | apply Kd.Q_drew)); exact HO867.out⟩, ⟨by (with_reducible repeat (first | refine blk_drewN ?_ _ | refine blk_drew ?_ | refine blk_alloc ?_ _)); exact BK864.out⟩, ⟨by (with_reducible repeat (first | refine blk_drewN ?_ _ | refine blk_drew ?_ | refine blk_alloc ?_ _)); exact BK876.out⟩, ⟨is_HI0⟩, ⟨kf_ HK.out⟩, ⟨bel_⟩⟩
 case rest =>
  clear HC4
  try clear c1
  try clear c2
  try clear p2
  try clear c5
  try clear c7
  try clear c8
  try clear c9
  try clear c10
  try clear c13
  try clear c13b0
  try clear c14
  try clear c14b0
  try clear c14b1
  try clear c16
  try clear c17
  try clear c21
  try clear c22
  try clear hcz11_0
  try clear hcz11_1
  try clear hcz11_2
  try clear hcz11_3
  try clear hcz11_4
  try clear hcz18_0
  try clear hcz18_1
  try clear hcz18_2
  try clear hcz18_3
  try clear hcz18_4
  try clear hcz23_0
  try clear hcz23_1
  try clear hcz23_2
  try clear hcz23_3
  try clear hcz23_4
  try clear hfz11_0
  try clear hfz11_1
  try clear hfz11_2
  try clear hfz11_3
  try clear hfz11_4
  try clear hfz18_0
  try clear hfz18_1
  try clear hfz18_2
  try clear hfz18_3
  try clear hfz18_4
  try clear hfz23_0
  try clear hfz23_1
  try clear hfz23_2
  try clear hfz23_3
  try clear hfz23_4
  obtain ⟨kq, x26_3, x1001_3, rfl, HA, HJ3, HO_4, BK864, BK876, HI0, HK, HB⟩ := hcut
  cases kq with
  | zero => exact absurd HA.out (by simp [spec_l71Fits.j0])
  | succ kj3 =>
   have H := HA.out
   clear HA
   simp only [spec_l71Fits.j0] at H
   have HC25 := Aside0.mk H
   clear H
   go_upto_if 26 with (fail)
   go_cut [] (fun wc => ∃ (kq : Nat) (x877001_24 : Int), Aside0 (spec_l71Fits.j1 kq t865 s0_0 x1001_3 t870 x877001_24 t872 t873 t874 = some (r1, r2, r3, r4, r5, r6, r7)) ∧ Aside0 (kq ≤ kj3) ∧ Aside0 (Kd.Q k37 37 wc w.heap.size (fun _ => True) v866 t865) ∧ Aside0 (wc.heap[gb864]? = some (.cells #[.int .i64 0, .int .i64 0, .int .i64 0, .int .i64 0, .string (⟨#[]⟩ : ByteArray)] 27 (0, 0))) ∧ Aside0 (wc.heap[gb876]? = some (.cells #[.int .i64 t870, .int .i64 x877001_24, .int .i64 t872, .int .i64 t873, .string t874] 27 (0, 0))) ∧ Aside0 (IsS102 w0 wc g s0_0 x1001_3) ∧ Aside0 (KeepBut w wc g none) ∧ Aside0 (Below w0.heap.size w0 wc))
   case first =>
    have H := HC25.out
    clear HC25
    by_cases c26 : x26_3 = true
    ·subst c26
     have H1 : (spec_l71Fits.j1 kj3 t865 s0_0 x1001_3 t870 t868 t872 t873 t874) = some (r1, r2, r3, r4, r5, r6, r7) := by rw [if_pos rfl] at H; exact H
     clear H
     have H := H1
     clear H1
     have H' := Aside0.mk H
     clear H
     have hnb27 := NB876_864.out
     have hnc27 := NB864_876.out
     have hnb28 := NB876_0.out
     have hnc28 := NB0_876.out
     have hcz29_0 : wc.cell? ⟨gb876, 0, none⟩ = some (.int .i64 t870) := (blk_cell BK876.out 0).trans rfl
     have hcz29_1 : wc.cell? ⟨gb876, 1, none⟩ = some (.int .i64 t871) := (blk_cell BK876.out 1).trans rfl
     have hcz29_2 : wc.cell? ⟨gb876, 2, none⟩ = some (.int .i64 t872) := (blk_cell BK876.out 2).trans rfl
     have hcz29_3 : wc.cell? ⟨gb876, 3, none⟩ = some (.int .i64 t873) := (blk_cell BK876.out 3).trans rfl
     have hcz29_4 : wc.cell? ⟨gb876, 4, none⟩ = some (.string t874) := (blk_cell BK876.out 4).trans rfl
     have hfz29_0 := blk_frozen BK876.out 0
     have hfz29_1 := blk_frozen BK876.out 1
     have hfz29_2 := blk_frozen BK876.out 2
     have hfz29_3 := blk_frozen BK876.out 3
     have hfz29_4 := blk_frozen BK876.out 4
     go_wp2
     go_meet
     case rel => exact ⟨_, (t868), H', ⟨by have := HJ3.out; first | omega | exact Nat.le_refl _⟩, ⟨by (with_reducible repeat (first | apply Kd.Q_alloc | apply Kd.Q_drewN | apply Kd.Q_drew)); exact Kd.Q_mono (Kd.Q_far (p := ⟨gb876, 1, none⟩) (Kd.Q_types HO_4.out BK876.out (by decide)) (fun _ hk => hk.2) (.int .i64 t868)) (fun _ hk => trivial)⟩, ⟨by (with_reducible repeat (first | refine blk_drewN ?_ _ | refine blk_drew ?_ | refine blk_alloc ?_ _)); refine blk_far ?_ NB864_876.out _; (with_reducible repeat (first | refine blk_drewN ?_ _ | refine blk_drew ?_ | refine blk_alloc ?_ _)); exact BK864.out⟩, ⟨by (with_reducible repeat (first | refine blk_drewN ?_ _ | refine blk_drew ?_ | refine blk_alloc ?_ _)); refine blk_put (cs := #[.int .i64 t870, .int .i64 t871, .int .i64 t872, .int .i64 t873, .string t874]) ?_ 1 _ rfl; (with_reducible repeat (first | refine blk_drewN ?_ _ | refine blk_drew ?_ | refine blk_alloc ?_ _)); exact BK876.out⟩, ⟨is_HI0⟩, ⟨kf_ HK.out⟩, ⟨bel_⟩⟩
    ·replace c26 := Bool.eq_false_iff.mpr c26
     subst c26
     have H1 : (spec_l71Fits.j1 kj3 t865 s0_0 x1001_3 t870 t871 t872 t873 t874) = some (r1, r2, r3, r4, r5, r6, r7) := by rw [if_neg (show ¬ (false = true) by decide)] at H; exact H
     clear H
     have H := H1
     clear H1
     have H' := Aside0.mk H
     clear H
     go_wp2
     go_meet
     case rel => exact ⟨_, (t871), H', ⟨by have := HJ3.out; first | omega | exact Nat.le_refl _⟩, ⟨by (with_reducible repeat (first | apply Kd.Q_alloc | apply Kd.Q_drewN | apply Kd.Q_drew)); exact HO_4.out⟩, ⟨by (with_reducible repeat (first | refine blk_drewN ?_ _ | refine blk_drew ?_ | refine blk_alloc ?_ _)); exact BK864.out⟩, ⟨by (with_reducible repeat (first | refine blk_drewN ?_ _ | refine blk_drew ?_ | refine blk_alloc ?_ _)); exact BK876.out⟩, ⟨is_HI0⟩, ⟨kf_ HK.out⟩, ⟨bel_⟩⟩
   case rest =>
    clear HC25
    try clear c1
    try clear c2
    try clear p2
    try clear c5
    try clear c7
    try clear c8
    try clear c9
    try clear c10
    try clear c13
    try clear c13b0
    try clear c14
    try clear c14b0
    try clear c14b1
    try clear c16
    try clear c17
    try clear c21
    try clear c22
    try clear c26
    try clear c27
    try clear c28
    try clear hcz11_0
    try clear hcz11_1
    try clear hcz11_2
    try clear hcz11_3
    try clear hcz11_4
    try clear hcz18_0
    try clear hcz18_1
    try clear hcz18_2
    try clear hcz18_3
    try clear hcz18_4
    try clear hcz23_0
    try clear hcz23_1
    try clear hcz23_2
    try clear hcz23_3
    try clear hcz23_4
    try clear hcz29_0
    try clear hcz29_1
    try clear hcz29_2
    try clear hcz29_3
    try clear hcz29_4
    try clear hfz11_0
    try clear hfz11_1
    try clear hfz11_2
    try clear hfz11_3
    try clear hfz11_4
    try clear hfz18_0
    try clear hfz18_1
    try clear hfz18_2
    try clear hfz18_3
    try clear hfz18_4
    try clear hfz23_0
    try clear hfz23_1
    try clear hfz23_2
    try clear hfz23_3
    try clear hfz23_4
    try clear hfz29_0
    try clear hfz29_1
    try clear hfz29_2
    try clear hfz29_3
    try clear hfz29_4
    try clear p2
    obtain ⟨kq, x877001_24, HA, HJ24, HO_4, BK864, BK876, HI0, HK, HB⟩ := hcut
    cases kq with
    | zero => exact absurd HA.out (by simp [spec_l71Fits.j1])
    | succ kj24 =>
     have H := HA.out
     clear HA
     simp only [spec_l71Fits.j1] at H
     have HC30 := Aside0.mk H
     clear H
     go_upto_region 5 with (fail)
     go_cut [41] (fun v41 wc => ∃ (kq : Nat) (x41_29 : Bool) (x1001_29 : Int), v41 = .bool x41_29 ∧ Aside0 (spec_l71Fits.j2 kq t865 x41_29 s0_0 x1001_29 t870 x877001_24 t872 t873 t874 = some (r1, r2, r3, r4, r5, r6, r7)) ∧ Aside0 (kq ≤ kj24) ∧ Aside0 (Kd.Q k37 37 wc w.heap.size (fun _ => True) v866 t865) ∧ Aside0 (wc.heap[gb864]? = some (.cells #[.int .i64 0, .int .i64 0, .int .i64 0, .int .i64 0, .string (⟨#[]⟩ : ByteArray)] 27 (0, 0))) ∧ Aside0 (wc.heap[gb876]? = some (.cells #[.int .i64 t870, .int .i64 x877001_24, .int .i64 t872, .int .i64 t873, .string t874] 27 (0, 0))) ∧ Aside0 (IsS102 w0 wc g s0_0 x1001_29) ∧ Aside0 (KeepBut w wc g none) ∧ Aside0 (Below w0.heap.size w0 wc))
     case first =>
      have H := HC30.out
      clear HC30
      replace H := Option.bind_eq_some_iff.mp H
      obtain ⟨⟨t880, t881⟩, A310, H⟩ := H
      try dsimp only at H
      have A31 := Aside0.mk A310
      clear A310
      by_cases c32 : t880 = 0
      ·rw [if_pos c32] at H
       have c32b0 : (t880 == 0) = true := beq_iff_eq.mpr c32
       have c32b1 : (t880 != 0) = false := bne_eq_false_iff_eq.mpr c32
       clear c32
       (first | rw [c32b0] | (simp only [i64_w, i32_w]; rw [c32b0]) | skip)
       by_cases c33 : t870 = 3
       ·rw [if_pos c33] at H
        have c33b0 : (t870 == 3) = true := beq_iff_eq.mpr c33
        have c33b1 : (t870 != 3) = false := bne_eq_false_iff_eq.mpr c33
        clear c33
        have H' := Aside0.mk H
        clear H
        go_wp2_with (first | ((with_reducible refine gate_callee (f := 73) rfl ?_); refine gl_ 30 Tryd.func73 #[.pointer (some ⟨g, 0, none⟩), .int .i64 3] ?_; (with_reducible refine (spec_l6Rd_pick.calls kj24 g s0_0 x1001_3 3 t880 t881 w0 _ ?side1 ?side2 A31.out).mono ?_); (case side1 => exact is_HI0); (case side2 => exact bel_); rintro e w34 ⟨rfl, hi, hb, hk⟩; refine ⟨_, rfl, ?_⟩; replace HO_4 := Aside0.mk (Kd.Q_mono (Kd.Q_keep (IsS102.apartQ (show IsS102 w0 _ g s0_0 x1001_3 from is_HI0) (qp_ HO_4.out) (by decide)) hk (fun _ h => h.2)) (fun _ h => h.1)); replace BK864 := Aside0.mk (kb_ hk BK864.out NB864_0.out); replace BK876 := Aside0.mk (kb_ hk BK876.out NB876_0.out); replace HK := Aside0.mk (KeepBut.trans (kf_ HK.out) hk (.inl rfl)); replace HB := Aside0.mk (hb); replace HI0 := Aside0.mk (hi); (try clear hb hk hi); have hnb35 := NB876_864.out; have hnc35 := NB864_876.out; have hnb36 := NB876_0.out; have hnc36 := NB0_876.out; have hcz37_0 := cz_ BK876.out 0 (.int .i64 t870); have hcz37_1 := cz_ BK876.out 1 (.int .i64 x877001_24); have hcz37_2 := cz_ BK876.out 2 (.int .i64 t872); have hcz37_3 := cz_ BK876.out 3 (.int .i64 t873); have hcz37_4 := cz_ BK876.out 4 (.string t874); have hfz37_0 := blk_frozen BK876.out 0; have hfz37_1 := blk_frozen BK876.out 1; have hfz37_2 := blk_frozen BK876.out 2; have hfz37_3 := blk_frozen BK876.out 3; have hfz37_4 := blk_frozen BK876.out 4))
        go_meet
        case rel => exact ⟨_, (true), (t881), (si_), H', ⟨by have := HJ3.out; have := HJ24.out; first | omega | exact Nat.le_refl _⟩, ⟨by (with_reducible repeat (first | apply Kd.Q_alloc | apply Kd.Q_drewN | apply Kd.Q_drew)); exact HO_4.out⟩, ⟨by (with_reducible repeat (first | refine blk_drewN ?_ _ | refine blk_drew ?_ | refine blk_alloc ?_ _)); exact BK864.out⟩, ⟨by (with_reducible repeat (first | refine blk_drewN ?_ _ | refine blk_drew ?_ | refine blk_alloc ?_ _)); exact BK876.out⟩, ⟨is_HI0⟩, ⟨kf_ HK.out⟩, ⟨bel_⟩⟩
       ·rw [if_neg c33] at H
        have c33b0 : (t870 == 3) = false := beq_eq_false_iff_ne.mpr c33
        have c33b1 : (t870 != 3) = true := bne_iff_ne.mpr c33
        have H' := Aside0.mk H
        clear H
        go_wp2_with (first | ((with_reducible refine gate_callee (f := 73) rfl ?_); refine gl_ 30 Tryd.func73 #[.pointer (some ⟨g, 0, none⟩), .int .i64 3] ?_; (with_reducible refine (spec_l6Rd_pick.calls kj24 g s0_0 x1001_3 3 t880 t881 w0 _ ?side1 ?side2 A31.out).mono ?_); (case side1 => exact is_HI0); (case side2 => exact bel_); rintro e w38 ⟨rfl, hi, hb, hk⟩; refine ⟨_, rfl, ?_⟩; replace HO_4 := Aside0.mk (Kd.Q_mono (Kd.Q_keep (IsS102.apartQ (show IsS102 w0 _ g s0_0 x1001_3 from is_HI0) (qp_ HO_4.out) (by decide)) hk (fun _ h => h.2)) (fun _ h => h.1)); replace BK864 := Aside0.mk (kb_ hk BK864.out NB864_0.out); replace BK876 := Aside0.mk (kb_ hk BK876.out NB876_0.out); replace HK := Aside0.mk (KeepBut.trans (kf_ HK.out) hk (.inl rfl)); replace HB := Aside0.mk (hb); replace HI0 := Aside0.mk (hi); (try clear hb hk hi); have hnb39 := NB876_864.out; have hnc39 := NB864_876.out; have hnb40 := NB876_0.out; have hnc40 := NB0_876.out; have hcz41_0 := cz_ BK876.out 0 (.int .i64 t870); have hcz41_1 := cz_ BK876.out 1 (.int .i64 x877001_24); have hcz41_2 := cz_ BK876.out 2 (.int .i64 t872); have hcz41_3 := cz_ BK876.out 3 (.int .i64 t873); have hcz41_4 := cz_ BK876.out 4 (.string t874); have hfz41_0 := blk_frozen BK876.out 0; have hfz41_1 := blk_frozen BK876.out 1; have hfz41_2 := blk_frozen BK876.out 2; have hfz41_3 := blk_frozen BK876.out 3; have hfz41_4 := blk_frozen BK876.out 4))
        go_meet
        case rel => exact ⟨_, ((t870 == 1)), (t881), (si_), H', ⟨by have := HJ3.out; have := HJ24.out; first | omega | exact Nat.le_refl _⟩, ⟨by (with_reducible repeat (first | apply Kd.Q_alloc | apply Kd.Q_drewN | apply Kd.Q_drew)); exact HO_4.out⟩, ⟨by (with_reducible repeat (first | refine blk_drewN ?_ _ | refine blk_drew ?_ | refine blk_alloc ?_ _)); exact BK864.out⟩, ⟨by (with_reducible repeat (first | refine blk_drewN ?_ _ | refine blk_drew ?_ | refine blk_alloc ?_ _)); exact BK876.out⟩, ⟨is_HI0⟩, ⟨kf_ HK.out⟩, ⟨bel_⟩⟩
      ·rw [if_neg c32] at H
       have c32b0 : (t880 == 0) = false := beq_eq_false_iff_ne.mpr c32
       have c32b1 : (t880 != 0) = true := bne_iff_ne.mpr c32
       (first | rw [c32b0] | (simp only [i64_w, i32_w]; rw [c32b0]) | skip)
       have H' := Aside0.mk H
       clear H
       go_wp2_with (first | ((with_reducible refine gate_callee (f := 73) rfl ?_); refine gl_ 30 Tryd.func73 #[.pointer (some ⟨g, 0, none⟩), .int .i64 3] ?_; (with_reducible refine (spec_l6Rd_pick.calls kj24 g s0_0 x1001_3 3 t880 t881 w0 _ ?side1 ?side2 A31.out).mono ?_); (case side1 => exact is_HI0); (case side2 => exact bel_); rintro e w42 ⟨rfl, hi, hb, hk⟩; refine ⟨_, rfl, ?_⟩; replace HO_4 := Aside0.mk (Kd.Q_mono (Kd.Q_keep (IsS102.apartQ (show IsS102 w0 _ g s0_0 x1001_3 from is_HI0) (qp_ HO_4.out) (by decide)) hk (fun _ h => h.2)) (fun _ h => h.1)); replace BK864 := Aside0.mk (kb_ hk BK864.out NB864_0.out); replace BK876 := Aside0.mk (kb_ hk BK876.out NB876_0.out); replace HK := Aside0.mk (KeepBut.trans (kf_ HK.out) hk (.inl rfl)); replace HB := Aside0.mk (hb); replace HI0 := Aside0.mk (hi); (try clear hb hk hi)))
       go_meet
       case rel => exact ⟨_, (false), (t881), (si_), H', ⟨by have := HJ3.out; have := HJ24.out; first | omega | exact Nat.le_refl _⟩, ⟨by (with_reducible repeat (first | apply Kd.Q_alloc | apply Kd.Q_drewN | apply Kd.Q_drew)); exact HO_4.out⟩, ⟨by (with_reducible repeat (first | refine blk_drewN ?_ _ | refine blk_drew ?_ | refine blk_alloc ?_ _)); exact BK864.out⟩, ⟨by (with_reducible repeat (first | refine blk_drewN ?_ _ | refine blk_drew ?_ | refine blk_alloc ?_ _)); exact BK876.out⟩, ⟨is_HI0⟩, ⟨kf_ HK.out⟩, ⟨bel_⟩⟩
     case rest =>
      clear HC30
      try clear c1
      try clear c2
      try clear p2
      try clear c3
      try clear c4
      try clear c5
      try clear c7
      try clear c8
      try clear c9
      try clear c10
      try clear c13
      try clear c13b0
      try clear c14
      try clear c14b0
      try clear c14b1
      try clear c16
      try clear c17
      try clear c21
      try clear c22
      try clear c26
      try clear c27
      try clear c28
      try clear c32
      try clear c32b0
      try clear c32b1
      try clear c33
      try clear c33b0
      try clear c33b1
      try clear c35
      try clear c36
      try clear c39
      try clear c40
      try clear hcz11_0
      try clear hcz11_1
      try clear hcz11_2
      try clear hcz11_3
      try clear hcz11_4
      try clear hcz18_0
      try clear hcz18_1
      try clear hcz18_2
      try clear hcz18_3
      try clear hcz18_4
      try clear hcz23_0
      try clear hcz23_1
      try clear hcz23_2
      try clear hcz23_3
      try clear hcz23_4
      try clear hcz29_0
      try clear hcz29_1
      try clear hcz29_2
      try clear hcz29_3
      try clear hcz29_4
      try clear hcz37_0
      try clear hcz37_1
      try clear hcz37_2
      try clear hcz37_3
      try clear hcz37_4
      try clear hcz41_0
      try clear hcz41_1
      try clear hcz41_2
      try clear hcz41_3
      try clear hcz41_4
      try clear hfz11_0
      try clear hfz11_1
      try clear hfz11_2
      try clear hfz11_3
      try clear hfz11_4
      try clear hfz18_0
      try clear hfz18_1
      try clear hfz18_2
      try clear hfz18_3
      try clear hfz18_4
      try clear hfz23_0
      try clear hfz23_1
      try clear hfz23_2
      try clear hfz23_3
      try clear hfz23_4
      try clear hfz29_0
      try clear hfz29_1
      try clear hfz29_2
      try clear hfz29_3
      try clear hfz29_4
      try clear hfz37_0
      try clear hfz37_1
      try clear hfz37_2
      try clear hfz37_3
      try clear hfz37_4
      try clear hfz41_0
      try clear hfz41_1
      try clear hfz41_2
      try clear hfz41_3
      try clear hfz41_4
      try clear p2
      obtain ⟨kq, x41_29, x1001_29, rfl, HA, HJ29, HO_4, BK864, BK876, HI0, HK, HB⟩ := hcut
      cases kq with
      | zero => exact absurd HA.out (by simp [spec_l71Fits.j2])
      | succ kj29 =>
       have H := HA.out
       clear HA
       simp only [spec_l71Fits.j2] at H
       by_cases c43 : x41_29 = true
       ·subst c43
        have H1 : ((spec_l6Rd_pick.f kj29 s0_0 x1001_29 (t865.length : Int)).bind fun bt882 => (if 0 ≤ bt882.1 then (if bt882.1 < (t865.length : Int) then ((spec_l2Kids.f kj29 t865 ((rd_T37 t865 bt882.1).f0)).bind fun t885 => (if (t885.length : Int) > 0 then ((spec_l6Rd_pick.f kj29 s0_0 bt882.2 (t885.length : Int)).bind fun bt888 => (if 0 ≤ bt888.1 then (if bt888.1 < (t885.length : Int) then (some (t865, t870, x877001_24, (rd_T37 t865 bt882.1).f0, rd t885 bt888.1, t874, bt888.2)) else (none)) else (none))) else (some (t865, t870, x877001_24, (rd_T37 t865 bt882.1).f0, t873, t874, bt882.2)))) else (none)) else (none))) = some (r1, r2, r3, r4, r5, r6, r7) := by rw [if_pos rfl] at H; exact H
        clear H
        have H := H1
        clear H1
        replace H := Option.bind_eq_some_iff.mp H
        obtain ⟨⟨t882, t883⟩, A440, H⟩ := H
        try dsimp only at H
        have A44 := Aside0.mk A440
        clear A440
        by_cases c45 : 0 ≤ t882
        ·rw [if_pos c45] at H
         have c45b0 : decide (0 ≤ t882) = true := decide_eq_true c45
         clear c45
         by_cases c46 : t882 < (t865.length : Int)
         ·rw [if_pos c46] at H
          have c46b0 : decide (t882 < (t865.length : Int)) = true := decide_eq_true c46
          clear c46
          replace H := Option.bind_eq_some_iff.mp H
          obtain ⟨t885, A470, H⟩ := H
          try dsimp only at H
          have A47 := Aside0.mk A470
          clear A470
          by_cases c48 : (t885.length : Int) > 0
          ·rw [if_pos c48] at H
           have c48b0 : decide (0 < (t885.length : Int)) = true := decide_eq_true c48
           have c48b1 : decide (0 < t885.length) = true := decide_eq_true (by omega)
           clear c48
           replace H := Option.bind_eq_some_iff.mp H
           obtain ⟨⟨t888, t889⟩, A490, H⟩ := H
           try dsimp only at H
           have A49 := Aside0.mk A490
           clear A490
           by_cases c50 : 0 ≤ t888
           ·rw [if_pos c50] at H
            have c50b0 : decide (0 ≤ t888) = true := decide_eq_true c50
            clear c50
            by_cases c51 : t888 < (t885.length : Int)
            ·rw [if_pos c51] at H
             have c51b0 : decide (t888 < (t885.length : Int)) = true := decide_eq_true c51
             clear c51
             simp only [Option.some.injEq, Prod.mk.injEq] at H
             obtain ⟨rfl, rfl, rfl, rfl, rfl, rfl, rfl⟩ := H
             obtain ⟨Ao52, co52, eo52, _⟩ := Kd.Q_slice HO_4.out
             subst eo52
             try go_wp2_with (first | ((with_reducible refine gate_callee (f := 73) rfl ?_); refine gl_ 46 Tryd.func73 #[.pointer (some ⟨g, 0, none⟩), .int .i64 (t865.length : Int)] ?_; (with_reducible refine (spec_l6Rd_pick.calls kj29 g s0_0 x1001_29 (t865.length : Int) t882 t883 w0 _ ?side1 ?side2 A44.out).mono ?_); (case side1 => exact is_HI0); (case side2 => exact bel_); rintro e w53 ⟨rfl, hi, hb, hk⟩; refine ⟨_, rfl, ?_⟩; replace HO_4 := Aside0.mk (Kd.Q_mono (Kd.Q_keep (IsS102.apartQ (show IsS102 w0 _ g s0_0 x1001_29 from is_HI0) (qp_ HO_4.out) (by decide)) hk (fun _ h => h.2)) (fun _ h => h.1)); replace BK864 := Aside0.mk (kb_ hk BK864.out NB864_0.out); replace BK876 := Aside0.mk (kb_ hk BK876.out NB876_0.out); replace HK := Aside0.mk (KeepBut.trans (kf_ HK.out) hk (.inl rfl)); replace HB := Aside0.mk (hb); replace HI0 := Aside0.mk (hi); (try clear hb hk hi); have p884 : 0 ≤ (t882 : Int) := od_; have q884 : t882 < (t865.length : Int) := od_; obtain ⟨ad884, e884, hx884_0, hx884_1, hx884_2⟩ := at_T37 (Kd.Q_reads' HO_4.out).2.2 t882 p884 q884; cases e884; replace p884 := eq_true p884; replace q884 := eq_true q884; have hnb54 := NB876_864.out; have hnc54 := NB864_876.out; have hnb55 := NB876_0.out; have hnc55 := NB0_876.out; have hcz56_0 := cz_ BK876.out 0 (.int .i64 t870); have hcz56_1 := cz_ BK876.out 1 (.int .i64 x877001_24); have hcz56_2 := cz_ BK876.out 2 (.int .i64 t872); have hcz56_3 := cz_ BK876.out 3 (.int .i64 t873); have hcz56_4 := cz_ BK876.out 4 (.string t874); have hfz56_0 := blk_frozen BK876.out 0; have hfz56_1 := blk_frozen BK876.out 1; have hfz56_2 := blk_frozen BK876.out 2; have hfz56_3 := blk_frozen BK876.out 3; have hfz56_4 := blk_frozen BK876.out 4) | ((with_reducible refine gate_callee (f := 70) rfl ?_); refine gl_ 54 Tryd.func70 #[.slice (some ad884) t865.length co52, .int .i64 ((rd_T37 t865 t882).f0)] ?_; (with_reducible refine (spec_l2Kids.calls kj29 _ _ t865 ((rd_T37 t865 t882).f0) t885 _ ?side1 ?side2 A47.out).mono ?_); (case side1 => refine (Kd.Q_reads' (e := 37) (base := w.heap.size) (ok := fun k_ => True) (n := t865.length) (c := co52) ?_).2.2; exact (by (with_reducible repeat (first | apply Kd.Q_alloc | apply Kd.Q_drewN | apply Kd.Q_drew)); exact (Kd.Q_mono (Kd.Q_far (p := ⟨gb876, 2, none⟩) (Kd.Q_types HO_4.out BK876.out (by decide)) (fun _ hk => hk.2) (.int .i64 ((rd_T37 t865 t882).f0))) (fun _ h_ => h_.1)))); (case side2 => exact (Kd.Q_reads' HO_4.out).2.1); rintro e w57 ⟨v886, rfl, ho0, hb⟩; refine ⟨_, rfl, ?_⟩; have n0_ := Aside0.mk (Kd.Q_below (by (with_reducible repeat (first | apply Kd.Q_alloc | apply Kd.Q_drewN | apply Kd.Q_drew)); exact (Kd.Q_mono (Kd.Q_far (p := ⟨gb876, 2, none⟩) (Kd.Q_types HO_4.out BK876.out (by decide)) (fun _ hk => hk.2) (.int .i64 ((rd_T37 t865 t882).f0))) (fun _ h_ => h_.1))) hb); have n1_ := Aside0.mk (Kd.R_lower ho0 (keep_size (w := w) (g := g) (row := none) (kf_ HK.out))); have n2_ := Aside0.mk (blk_below (g := gb864) (o := .cells #[.int .i64 0, .int .i64 0, .int .i64 0, .int .i64 0, .string (⟨#[]⟩ : ByteArray)] 27 (0, 0)) (by (with_reducible repeat (first | refine blk_drewN ?_ _ | refine blk_drew ?_ | refine blk_alloc ?_ _)); refine blk_far ?_ NB864_876.out _; (with_reducible repeat (first | refine blk_drewN ?_ _ | refine blk_drew ?_ | refine blk_alloc ?_ _)); exact BK864.out) hb); have n3_ := Aside0.mk (blk_below (g := gb876) (o := .cells #[.int .i64 t870, .int .i64 x877001_24, .int .i64 ((rd_T37 t865 t882).f0), .int .i64 t873, .string t874] 27 (0, 0)) (by (with_reducible repeat (first | refine blk_drewN ?_ _ | refine blk_drew ?_ | refine blk_alloc ?_ _)); refine blk_put (cs := #[.int .i64 t870, .int .i64 x877001_24, .int .i64 t872, .int .i64 t873, .string t874]) ?_ 2 _ rfl; (with_reducible repeat (first | refine blk_drewN ?_ _ | refine blk_drew ?_ | refine blk_alloc ?_ _)); exact BK876.out) hb); have n4_ := Aside0.mk (IsS102.below (show IsS102 w0 (w53.setCell ⟨gb876, 2, none⟩ (.int .i64 ((rd_T37 t865 t882).f0))) g s0_0 t883 from is_HI0) hb); have n5_ := Aside0.mk (KeepBut.trans (kf_ HK.out) (KeepBut.of_below hb g none) (.inl rfl)); have n6_ := Aside0.mk (below_step (bel_) hb); clear HO_4; clear BK864; clear BK876; clear HI0; clear HK; clear HB; have HO_4 := n0_; have HO887 := n1_; have BK864 := n2_; have BK876 := n3_; have HI0 := n4_; have HK := n5_; have HB := n6_; clear n0_ n1_ n2_ n3_ n4_ n5_ n6_; (try clear hb ho0); obtain ⟨Ao58, co58, eo58⟩ := Kd.R_slice HO887.out; subst eo58) | ((with_reducible refine gate_callee (f := 73) rfl ?_); refine gl_ 62 Tryd.func73 #[.pointer (some ⟨g, 0, none⟩), .int .i64 (t885.length : Int)] ?_; (with_reducible refine (spec_l6Rd_pick.calls kj29 g s0_0 t883 (t885.length : Int) t888 t889 w0 _ ?side1 ?side2 A49.out).mono ?_); (case side1 => exact is_HI0); (case side2 => exact bel_); rintro e w59 ⟨rfl, hi, hb, hk⟩; refine ⟨_, rfl, ?_⟩; replace HO_4 := Aside0.mk (Kd.Q_mono (Kd.Q_keep (IsS102.apartQ (show IsS102 w0 _ g s0_0 t883 from is_HI0) (qp_ HO_4.out) (by decide)) hk (fun _ h => h.2)) (fun _ h => h.1)); replace BK864 := Aside0.mk (kb_ hk BK864.out NB864_0.out); replace BK876 := Aside0.mk (kb_ hk BK876.out NB876_0.out); replace HO887 := Aside0.mk (Kd.R_mono (Kd.R_keep (IsS102.apart (show IsS102 w0 _ g s0_0 t883 from is_HI0) (rp_ HO887.out) (by decide)) hk (fun _ h => h.2)) (fun _ h => h.1)); replace HK := Aside0.mk (KeepBut.trans (kf_ HK.out) hk (.inl rfl)); replace HB := Aside0.mk (hb); replace HI0 := Aside0.mk (hi); (try clear hb hk hi); have p890 : 0 ≤ (t888 : Int) := od_; have q890 : t888 < (t885.length : Int) := od_; obtain ⟨ad890, e890, hx890_0⟩ := Kd.at_int (Kd.R_reads' HO887.out).2.2 t888 p890 q890; cases e890; replace p890 := eq_true p890; replace q890 := eq_true q890; have hcz60_0 := cz_ BK876.out 0 (.int .i64 t870); have hcz60_1 := cz_ BK876.out 1 (.int .i64 x877001_24); have hcz60_2 := cz_ BK876.out 2 (.int .i64 ((rd_T37 t865 t882).f0)); have hcz60_3 := cz_ BK876.out 3 (.int .i64 t873); have hcz60_4 := cz_ BK876.out 4 (.string t874); have hfz60_0 := blk_frozen BK876.out 0; have hfz60_1 := blk_frozen BK876.out 1; have hfz60_2 := blk_frozen BK876.out 2; have hfz60_3 := blk_frozen BK876.out 3; have hfz60_4 := blk_frozen BK876.out 4))
             have n0_ : Aside0 (Kd.Q k37 37 (w59.setCell ⟨gb876, 3, none⟩ (.int .i64 (rd t885 t888))) w.heap.size (fun _ => True) (.slice (some ad884) t865.length co52) t865) := ⟨by (with_reducible repeat (first | apply Kd.Q_alloc | apply Kd.Q_drewN | apply Kd.Q_drew)); exact Kd.Q_mono (Kd.Q_far (p := ⟨gb876, 3, none⟩) (Kd.Q_types HO_4.out BK876.out (by decide)) (fun _ hk => hk.2) (.int .i64 (rd t885 t888))) (fun _ hk => trivial)⟩
             have n1_ : Aside0 (Kd.R (Kd.int .i64) 3 (w59.setCell ⟨gb876, 3, none⟩ (.int .i64 (rd t885 t888))) w.heap.size (fun _ => True) (.slice (some ad890) t885.length co58) t885) := ⟨by (with_reducible repeat (first | apply Kd.R_alloc | apply Kd.R_drewN | apply Kd.R_drew)); exact Kd.R_mono (Kd.R_far (p := ⟨gb876, 3, none⟩) (Kd.R_types HO887.out BK876.out (by decide)) (fun _ hk => hk.2) (.int .i64 (rd t885 t888))) (fun _ hk => trivial)⟩
             have n2_ : Aside0 ((w59.setCell ⟨gb876, 3, none⟩ (.int .i64 (rd t885 t888))).heap[gb864]? = some (.cells #[.int .i64 0, .int .i64 0, .int .i64 0, .int .i64 0, .string (⟨#[]⟩ : ByteArray)] 27 (0, 0))) := ⟨by (with_reducible repeat (first | refine blk_drewN ?_ _ | refine blk_drew ?_ | refine blk_alloc ?_ _)); refine blk_far ?_ NB864_876.out _; (with_reducible repeat (first | refine blk_drewN ?_ _ | refine blk_drew ?_ | refine blk_alloc ?_ _)); exact BK864.out⟩
             have n3_ : Aside0 ((w59.setCell ⟨gb876, 3, none⟩ (.int .i64 (rd t885 t888))).heap[gb876]? = some (.cells #[.int .i64 t870, .int .i64 x877001_24, .int .i64 ((rd_T37 t865 t882).f0), .int .i64 (rd t885 t888), .string t874] 27 (0, 0))) := ⟨by (with_reducible repeat (first | refine blk_drewN ?_ _ | refine blk_drew ?_ | refine blk_alloc ?_ _)); refine blk_put (cs := #[.int .i64 t870, .int .i64 x877001_24, .int .i64 ((rd_T37 t865 t882).f0), .int .i64 t873, .string t874]) ?_ 3 _ rfl; (with_reducible repeat (first | refine blk_drewN ?_ _ | refine blk_drew ?_ | refine blk_alloc ?_ _)); exact BK876.out⟩
             have n4_ : Aside0 (IsS102 w0 (w59.setCell ⟨gb876, 3, none⟩ (.int .i64 (rd t885 t888))) g s0_0 t889) := ⟨is_HI0⟩
             have n5_ : Aside0 (KeepBut w (w59.setCell ⟨gb876, 3, none⟩ (.int .i64 (rd t885 t888))) g none) := ⟨kf_ HK.out⟩
             have n6_ : Aside0 (Below w0.heap.size w0 (w59.setCell ⟨gb876, 3, none⟩ (.int .i64 (rd t885 t888)))) := ⟨bel_⟩
             (try clear HO_4)
             (try clear HO887)
             (try clear BK864)
             (try clear BK876)
             (try clear HI0)
             (try clear HK)
             (try clear HB)
             generalize (w59.setCell ⟨gb876, 3, none⟩ (.int .i64 (rd t885 t888))) = w61 at n0_ n1_ n2_ n3_ n4_ n5_ n6_ ⊢
             have HO_4 := n0_
             have HO887 := n1_
             have BK864 := n2_
             have BK876 := n3_
             have HI0 := n4_
             have HK := n5_
             have HB := n6_
             clear n0_ n1_ n2_ n3_ n4_ n5_ n6_
             have n0_ := Aside0.mk (Kd.Q_drew HO_4.out)
             have n1_ := Aside0.mk (Kd.R_drew HO887.out)
             have n2_ := Aside0.mk (blk_drew BK864.out)
             have n3_ := Aside0.mk (blk_drew BK876.out)
             have n4_ := Aside0.mk (IsS102.drew HI0.out)
             have n5_ := Aside0.mk (keep_drew HK.out)
             have n6_ := Aside0.mk (below_drew1 HB.out)
             clear HO_4
             clear HO887
             clear BK864
             clear BK876
             clear HI0
             clear HK
             clear HB
             have HO_4 := n0_
             have HO887 := n1_
             have BK864 := n2_
             have BK876 := n3_
             have HI0 := n4_
             have HK := n5_
             have HB := n6_
             clear n0_ n1_ n2_ n3_ n4_ n5_ n6_
             refine start_ (n := 4) (S := fun w' => w'.cell? ⟨gb876, 0, none⟩ = some (.int .i64 t870) ∧ w'.cell? ⟨gb876, 1, none⟩ = some (.int .i64 x877001_24) ∧ w'.cell? ⟨gb876, 2, none⟩ = some (.int .i64 ((rd_T37 t865 t882).f0)) ∧ w'.cell? ⟨gb876, 3, none⟩ = some (.int .i64 (rd t885 t888)) ∧ w'.cell? ⟨gb876, 4, none⟩ = some (.string t874)) (ds := []) #[false, false, false, false] (by kernel_rfl) rfl rfl ⟨(blk_cell BK876.out 0).trans rfl, (blk_cell BK876.out 1).trans rfl, (blk_cell BK876.out 2).trans rfl, (blk_cell BK876.out 3).trans rfl, (blk_cell BK876.out 4).trans rfl⟩ (fun hHeld => ?_)
             generalize w61.drew = w62 at HO_4 HO887 BK864 BK876 HI0 HK HB hHeld ⊢
             refine pure_ (i := 0) (N := some 66) (v := ?_) (a' := ?_) #[true, false, false, false] rfl rfl (by kernel_rfl) (fun _ _ _ h => h) (Or.inl ⟨by rfl, ?_⟩) ?_ ?_
             rotate_left
             ·intro w'
              go_simp
              with_reducible rfl
             rotate_left
             ·simp only [Act.put, List.setIfInBounds_toArray, List.set_cons_zero, List.set_cons_succ, i64_w, i32_w]
              rfl
             refine pure_ (i := 2) (N := some 2) (v := ?_) (a' := ?_) #[true, false, true, false] rfl rfl (by kernel_rfl) (fun _ _ _ h => h) (Or.inl ⟨by rfl, ?_⟩) ?_ ?_
             rotate_left
             ·intro w'
              go_simp
              with_reducible rfl
             rotate_left
             ·simp only [Act.put, List.setIfInBounds_toArray, List.set_cons_zero, List.set_cons_succ, i64_w, i32_w]
              rfl
             refine take_ (i := 1) (N := some 67) (v := ?_) (a' := ?_) #[true, true, true, false] rfl rfl (by kernel_rfl) (fun _ _ _ h => h) (Or.inl ⟨by rfl, ?_⟩) hHeld ?_ ?_
             rotate_left
             ·rintro w' ⟨s0, s1, s2, s3, s4⟩
              go_simp
              with_reducible rfl
             rotate_left
             ·simp only [Act.put, List.setIfInBounds_toArray, List.set_cons_zero, List.set_cons_succ, i64_w, i32_w]
              rfl
             refine one_ (i := 3) (N := none) #[true, true, true, true] rfl rfl (by kernel_rfl) (by decide) (fun K hK => ?_)
             have hs63 : w62.cell? ⟨gb864, 0, none⟩ = some (.int .i64 0) := (blk_cell BK864.out 0).trans rfl
             have hfs63 := blk_frozen BK864.out 0
             have hns63_1 := NB876_864.out
             have hms63_1 := NB864_876.out
             have hs64 : w62.cell? ⟨gb864, 1, none⟩ = some (.int .i64 0) := (blk_cell BK864.out 1).trans rfl
             have hfs64 := blk_frozen BK864.out 1
             have hns64_1 := NB876_864.out
             have hms64_1 := NB864_876.out
             have hs65 : w62.cell? ⟨gb864, 2, none⟩ = some (.int .i64 0) := (blk_cell BK864.out 2).trans rfl
             have hfs65 := blk_frozen BK864.out 2
             have hns65_1 := NB876_864.out
             have hms65_1 := NB864_876.out
             have hs66 : w62.cell? ⟨gb864, 3, none⟩ = some (.int .i64 0) := (blk_cell BK864.out 3).trans rfl
             have hfs66 := blk_frozen BK864.out 3
             have hns66_1 := NB876_864.out
             have hms66_1 := NB864_876.out
             have hs67 : w62.cell? ⟨gb864, 4, none⟩ = some (.string (⟨#[]⟩ : ByteArray)) := (blk_cell BK864.out 4).trans rfl
             have hfs67 := blk_frozen BK864.out 4
             have hns67_1 := NB876_864.out
             have hms67_1 := NB864_876.out
             refine skip_ (w1 := ?_) (by rfl) rfl ?_ ?_
             rotate_left
             ·go_simp
              rfl
             refine hK.out _ _ ⟨((cell_far (p := ⟨gb864, _, none⟩) NB876_864.out _).trans (((cell_far (p := ⟨gb864, _, none⟩) NB876_864.out _).trans (((cell_far (p := ⟨gb864, _, none⟩) NB876_864.out _).trans (((cell_far (p := ⟨gb864, _, none⟩) NB876_864.out _).trans (((cell_far (p := ⟨gb864, _, none⟩) NB876_864.out _).trans (hHeld.1)))))))))), ((cell_far (p := ⟨gb864, _, none⟩) NB876_864.out _).trans (((cell_far (p := ⟨gb864, _, none⟩) NB876_864.out _).trans (((cell_far (p := ⟨gb864, _, none⟩) NB876_864.out _).trans (((cell_far (p := ⟨gb864, _, none⟩) NB876_864.out _).trans (((cell_far (p := ⟨gb864, _, none⟩) NB876_864.out _).trans (hHeld.2.1)))))))))), ((cell_far (p := ⟨gb864, _, none⟩) NB876_864.out _).trans (((cell_far (p := ⟨gb864, _, none⟩) NB876_864.out _).trans (((cell_far (p := ⟨gb864, _, none⟩) NB876_864.out _).trans (((cell_far (p := ⟨gb864, _, none⟩) NB876_864.out _).trans (((cell_far (p := ⟨gb864, _, none⟩) NB876_864.out _).trans (hHeld.2.2.1)))))))))), ((cell_far (p := ⟨gb864, _, none⟩) NB876_864.out _).trans (((cell_far (p := ⟨gb864, _, none⟩) NB876_864.out _).trans (((cell_far (p := ⟨gb864, _, none⟩) NB876_864.out _).trans (((cell_far (p := ⟨gb864, _, none⟩) NB876_864.out _).trans (((cell_far (p := ⟨gb864, _, none⟩) NB876_864.out _).trans (hHeld.2.2.2.1)))))))))), ((cell_far (p := ⟨gb864, _, none⟩) NB876_864.out _).trans (((cell_far (p := ⟨gb864, _, none⟩) NB876_864.out _).trans (((cell_far (p := ⟨gb864, _, none⟩) NB876_864.out _).trans (((cell_far (p := ⟨gb864, _, none⟩) NB876_864.out _).trans (((cell_far (p := ⟨gb864, _, none⟩) NB876_864.out _).trans (hHeld.2.2.2.2))))))))))⟩ (fun hHeld => ?_)
             clear hK K
             refine done_ (by kernel_rfl) ?_
             try go_wp2
             refine bodyPost_ret (results_tc rfl _ _ gb864 27 #[.int .i64 t870, .int .i64 x877001_24, .int .i64 ((rd_T37 t865 t882).f0), .int .i64 (rd t885 t888), .string t874] (0, 0) _ rfl (by (with_reducible repeat (first | refine blk_drewN ?_ _ | refine blk_drew ?_ | refine blk_alloc ?_ _)); refine blk_put (cs := #[.int .i64 t870, .int .i64 x877001_24, .int .i64 ((rd_T37 t865 t882).f0), .int .i64 (rd t885 t888), .string (⟨#[]⟩ : ByteArray)]) ?_ 4 _ rfl; (with_reducible repeat (first | refine blk_drewN ?_ _ | refine blk_drew ?_ | refine blk_alloc ?_ _)); refine blk_put (cs := #[.int .i64 t870, .int .i64 x877001_24, .int .i64 ((rd_T37 t865 t882).f0), .int .i64 0, .string (⟨#[]⟩ : ByteArray)]) ?_ 3 _ rfl; (with_reducible repeat (first | refine blk_drewN ?_ _ | refine blk_drew ?_ | refine blk_alloc ?_ _)); refine blk_put (cs := #[.int .i64 t870, .int .i64 x877001_24, .int .i64 0, .int .i64 0, .string (⟨#[]⟩ : ByteArray)]) ?_ 2 _ rfl; (with_reducible repeat (first | refine blk_drewN ?_ _ | refine blk_drew ?_ | refine blk_alloc ?_ _)); refine blk_put (cs := #[.int .i64 t870, .int .i64 0, .int .i64 0, .int .i64 0, .string (⟨#[]⟩ : ByteArray)]) ?_ 1 _ rfl; (with_reducible repeat (first | refine blk_drewN ?_ _ | refine blk_drew ?_ | refine blk_alloc ?_ _)); refine blk_put (cs := #[.int .i64 0, .int .i64 0, .int .i64 0, .int .i64 0, .string (⟨#[]⟩ : ByteArray)]) ?_ 0 _ rfl; (with_reducible repeat (first | refine blk_drewN ?_ _ | refine blk_drew ?_ | refine blk_alloc ?_ _)); exact BK864.out) Tryd.underlying27 rfl (by kernel_rfl)) rfl ?_
             exact ⟨_, fi_, by (with_reducible repeat (first | apply Kd.Q_alloc | apply Kd.Q_drewN | apply Kd.Q_drew)); exact Kd.Q_mono (Kd.Q_far (p := ⟨gb864, 4, none⟩) (Kd.Q_far (p := ⟨gb864, 3, none⟩) (Kd.Q_far (p := ⟨gb864, 2, none⟩) (Kd.Q_far (p := ⟨gb864, 1, none⟩) (Kd.Q_far (p := ⟨gb864, 0, none⟩) (Kd.Q_types HO_4.out BK864.out (by decide)) (fun _ hk => hk.2) (.int .i64 t870)) (fun _ hk => hk.2) (.int .i64 x877001_24)) (fun _ hk => hk.2) (.int .i64 ((rd_T37 t865 t882).f0))) (fun _ hk => hk.2) (.int .i64 (rd t885 t888))) (fun _ hk => hk.2) (.string t874)) (fun _ hk => trivial), is_HI0, bel_, kf_ HK.out⟩
            ·rw [if_neg c51] at H
             exact absurd H (by simp)
           ·rw [if_neg c50] at H
            exact absurd H (by simp)
          ·rw [if_neg c48] at H
           have c48b0 : decide (0 < (t885.length : Int)) = false := decide_eq_false c48
           have c48b1 : decide (0 < t885.length) = false := decide_eq_false (by omega)
           clear c48
           simp only [Option.some.injEq, Prod.mk.injEq] at H
           obtain ⟨rfl, rfl, rfl, rfl, rfl, rfl, rfl⟩ := H
           obtain ⟨Ao68, co68, eo68, _⟩ := Kd.Q_slice HO_4.out
           subst eo68
           try go_wp2_with (first | ((with_reducible refine gate_callee (f := 73) rfl ?_); refine gl_ 46 Tryd.func73 #[.pointer (some ⟨g, 0, none⟩), .int .i64 (t865.length : Int)] ?_; (with_reducible refine (spec_l6Rd_pick.calls kj29 g s0_0 x1001_29 (t865.length : Int) t882 t883 w0 _ ?side1 ?side2 A44.out).mono ?_); (case side1 => exact is_HI0); (case side2 => exact bel_); rintro e w69 ⟨rfl, hi, hb, hk⟩; refine ⟨_, rfl, ?_⟩; replace HO_4 := Aside0.mk (Kd.Q_mono (Kd.Q_keep (IsS102.apartQ (show IsS102 w0 _ g s0_0 x1001_29 from is_HI0) (qp_ HO_4.out) (by decide)) hk (fun _ h => h.2)) (fun _ h => h.1)); replace BK864 := Aside0.mk (kb_ hk BK864.out NB864_0.out); replace BK876 := Aside0.mk (kb_ hk BK876.out NB876_0.out); replace HK := Aside0.mk (KeepBut.trans (kf_ HK.out) hk (.inl rfl)); replace HB := Aside0.mk (hb); replace HI0 := Aside0.mk (hi); (try clear hb hk hi); have p884 : 0 ≤ (t882 : Int) := od_; have q884 : t882 < (t865.length : Int) := od_; obtain ⟨ad884, e884, hx884_0, hx884_1, hx884_2⟩ := at_T37 (Kd.Q_reads' HO_4.out).2.2 t882 p884 q884; cases e884; replace p884 := eq_true p884; replace q884 := eq_true q884; have hnb70 := NB876_864.out; have hnc70 := NB864_876.out; have hnb71 := NB876_0.out; have hnc71 := NB0_876.out; have hcz72_0 := cz_ BK876.out 0 (.int .i64 t870); have hcz72_1 := cz_ BK876.out 1 (.int .i64 x877001_24); have hcz72_2 := cz_ BK876.out 2 (.int .i64 t872); have hcz72_3 := cz_ BK876.out 3 (.int .i64 t873); have hcz72_4 := cz_ BK876.out 4 (.string t874); have hfz72_0 := blk_frozen BK876.out 0; have hfz72_1 := blk_frozen BK876.out 1; have hfz72_2 := blk_frozen BK876.out 2; have hfz72_3 := blk_frozen BK876.out 3; have hfz72_4 := blk_frozen BK876.out 4) | ((with_reducible refine gate_callee (f := 70) rfl ?_); refine gl_ 54 Tryd.func70 #[.slice (some ad884) t865.length co68, .int .i64 ((rd_T37 t865 t882).f0)] ?_; (with_reducible refine (spec_l2Kids.calls kj29 _ _ t865 ((rd_T37 t865 t882).f0) t885 _ ?side1 ?side2 A47.out).mono ?_); (case side1 => refine (Kd.Q_reads' (e := 37) (base := w.heap.size) (ok := fun k_ => True) (n := t865.length) (c := co68) ?_).2.2; exact (by (with_reducible repeat (first | apply Kd.Q_alloc | apply Kd.Q_drewN | apply Kd.Q_drew)); exact (Kd.Q_mono (Kd.Q_far (p := ⟨gb876, 2, none⟩) (Kd.Q_types HO_4.out BK876.out (by decide)) (fun _ hk => hk.2) (.int .i64 ((rd_T37 t865 t882).f0))) (fun _ h_ => h_.1)))); (case side2 => exact (Kd.Q_reads' HO_4.out).2.1); rintro e w73 ⟨v886, rfl, ho0, hb⟩; refine ⟨_, rfl, ?_⟩; have n0_ := Aside0.mk (Kd.Q_below (by (with_reducible repeat (first | apply Kd.Q_alloc | apply Kd.Q_drewN | apply Kd.Q_drew)); exact (Kd.Q_mono (Kd.Q_far (p := ⟨gb876, 2, none⟩) (Kd.Q_types HO_4.out BK876.out (by decide)) (fun _ hk => hk.2) (.int .i64 ((rd_T37 t865 t882).f0))) (fun _ h_ => h_.1))) hb); have n1_ := Aside0.mk (Kd.R_lower ho0 (keep_size (w := w) (g := g) (row := none) (kf_ HK.out))); have n2_ := Aside0.mk (blk_below (g := gb864) (o := .cells #[.int .i64 0, .int .i64 0, .int .i64 0, .int .i64 0, .string (⟨#[]⟩ : ByteArray)] 27 (0, 0)) (by (with_reducible repeat (first | refine blk_drewN ?_ _ | refine blk_drew ?_ | refine blk_alloc ?_ _)); refine blk_far ?_ NB864_876.out _; (with_reducible repeat (first | refine blk_drewN ?_ _ | refine blk_drew ?_ | refine blk_alloc ?_ _)); exact BK864.out) hb); have n3_ := Aside0.mk (blk_below (g := gb876) (o := .cells #[.int .i64 t870, .int .i64 x877001_24, .int .i64 ((rd_T37 t865 t882).f0), .int .i64 t873, .string t874] 27 (0, 0)) (by (with_reducible repeat (first | refine blk_drewN ?_ _ | refine blk_drew ?_ | refine blk_alloc ?_ _)); refine blk_put (cs := #[.int .i64 t870, .int .i64 x877001_24, .int .i64 t872, .int .i64 t873, .string t874]) ?_ 2 _ rfl; (with_reducible repeat (first | refine blk_drewN ?_ _ | refine blk_drew ?_ | refine blk_alloc ?_ _)); exact BK876.out) hb); have n4_ := Aside0.mk (IsS102.below (show IsS102 w0 (w69.setCell ⟨gb876, 2, none⟩ (.int .i64 ((rd_T37 t865 t882).f0))) g s0_0 t883 from is_HI0) hb); have n5_ := Aside0.mk (KeepBut.trans (kf_ HK.out) (KeepBut.of_below hb g none) (.inl rfl)); have n6_ := Aside0.mk (below_step (bel_) hb); clear HO_4; clear BK864; clear BK876; clear HI0; clear HK; clear HB; have HO_4 := n0_; have HO887 := n1_; have BK864 := n2_; have BK876 := n3_; have HI0 := n4_; have HK := n5_; have HB := n6_; clear n0_ n1_ n2_ n3_ n4_ n5_ n6_; (try clear hb ho0); obtain ⟨Ao74, co74, eo74⟩ := Kd.R_slice HO887.out; subst eo74))
           have n0_ := Aside0.mk (Kd.Q_drew HO_4.out)
           have n1_ := Aside0.mk (Kd.R_drew HO887.out)
           have n2_ := Aside0.mk (blk_drew BK864.out)
           have n3_ := Aside0.mk (blk_drew BK876.out)
           have n4_ := Aside0.mk (IsS102.drew HI0.out)
           have n5_ := Aside0.mk (keep_drew HK.out)
           have n6_ := Aside0.mk (below_drew1 HB.out)
           clear HO_4
           clear HO887
           clear BK864
           clear BK876
           clear HI0
           clear HK
           clear HB
           have HO_4 := n0_
           have HO887 := n1_
           have BK864 := n2_
           have BK876 := n3_
           have HI0 := n4_
           have HK := n5_
           have HB := n6_
           clear n0_ n1_ n2_ n3_ n4_ n5_ n6_
           refine start_ (n := 4) (S := fun w' => w'.cell? ⟨gb876, 0, none⟩ = some (.int .i64 t870) ∧ w'.cell? ⟨gb876, 1, none⟩ = some (.int .i64 x877001_24) ∧ w'.cell? ⟨gb876, 2, none⟩ = some (.int .i64 ((rd_T37 t865 t882).f0)) ∧ w'.cell? ⟨gb876, 3, none⟩ = some (.int .i64 t873) ∧ w'.cell? ⟨gb876, 4, none⟩ = some (.string t874)) (ds := []) #[false, false, false, false] (by kernel_rfl) rfl rfl ⟨(blk_cell BK876.out 0).trans rfl, (blk_cell BK876.out 1).trans rfl, (blk_cell BK876.out 2).trans rfl, (blk_cell BK876.out 3).trans rfl, (blk_cell BK876.out 4).trans rfl⟩ (fun hHeld => ?_)
           generalize w73.drew = w75 at HO_4 HO887 BK864 BK876 HI0 HK HB hHeld ⊢
           refine pure_ (i := 0) (N := some 66) (v := ?_) (a' := ?_) #[true, false, false, false] rfl rfl (by kernel_rfl) (fun _ _ _ h => h) (Or.inl ⟨by rfl, ?_⟩) ?_ ?_
           rotate_left
           ·intro w'
            go_simp
            with_reducible rfl
           rotate_left
           ·simp only [Act.put, List.setIfInBounds_toArray, List.set_cons_zero, List.set_cons_succ, i64_w, i32_w]
            rfl
           refine pure_ (i := 2) (N := some 2) (v := ?_) (a' := ?_) #[true, false, true, false] rfl rfl (by kernel_rfl) (fun _ _ _ h => h) (Or.inl ⟨by rfl, ?_⟩) ?_ ?_
           rotate_left
           ·intro w'
            go_simp
            with_reducible rfl
           rotate_left
           ·simp only [Act.put, List.setIfInBounds_toArray, List.set_cons_zero, List.set_cons_succ, i64_w, i32_w]
            rfl
           refine take_ (i := 1) (N := some 67) (v := ?_) (a' := ?_) #[true, true, true, false] rfl rfl (by kernel_rfl) (fun _ _ _ h => h) (Or.inl ⟨by rfl, ?_⟩) hHeld ?_ ?_
           rotate_left
           ·rintro w' ⟨s0, s1, s2, s3, s4⟩
            go_simp
            with_reducible rfl
           rotate_left
           ·simp only [Act.put, List.setIfInBounds_toArray, List.set_cons_zero, List.set_cons_succ, i64_w, i32_w]
            rfl
           refine one_ (i := 3) (N := none) #[true, true, true, true] rfl rfl (by kernel_rfl) (by decide) (fun K hK => ?_)
           have hs76 : w75.cell? ⟨gb864, 0, none⟩ = some (.int .i64 0) := (blk_cell BK864.out 0).trans rfl
           have hfs76 := blk_frozen BK864.out 0
           have hns76_1 := NB876_864.out
           have hms76_1 := NB864_876.out
           have hs77 : w75.cell? ⟨gb864, 1, none⟩ = some (.int .i64 0) := (blk_cell BK864.out 1).trans rfl
           have hfs77 := blk_frozen BK864.out 1
           have hns77_1 := NB876_864.out
           have hms77_1 := NB864_876.out
           have hs78 : w75.cell? ⟨gb864, 2, none⟩ = some (.int .i64 0) := (blk_cell BK864.out 2).trans rfl
           have hfs78 := blk_frozen BK864.out 2
           have hns78_1 := NB876_864.out
           have hms78_1 := NB864_876.out
           have hs79 : w75.cell? ⟨gb864, 3, none⟩ = some (.int .i64 0) := (blk_cell BK864.out 3).trans rfl
           have hfs79 := blk_frozen BK864.out 3
           have hns79_1 := NB876_864.out
           have hms79_1 := NB864_876.out
           have hs80 : w75.cell? ⟨gb864, 4, none⟩ = some (.string (⟨#[]⟩ : ByteArray)) := (blk_cell BK864.out 4).trans rfl
           have hfs80 := blk_frozen BK864.out 4
           have hns80_1 := NB876_864.out
           have hms80_1 := NB864_876.out
           refine skip_ (w1 := ?_) (by rfl) rfl ?_ ?_
           rotate_left
           ·go_simp
            rfl
           refine hK.out _ _ ⟨((cell_far (p := ⟨gb864, _, none⟩) NB876_864.out _).trans (((cell_far (p := ⟨gb864, _, none⟩) NB876_864.out _).trans (((cell_far (p := ⟨gb864, _, none⟩) NB876_864.out _).trans (((cell_far (p := ⟨gb864, _, none⟩) NB876_864.out _).trans (((cell_far (p := ⟨gb864, _, none⟩) NB876_864.out _).trans (hHeld.1)))))))))), ((cell_far (p := ⟨gb864, _, none⟩) NB876_864.out _).trans (((cell_far (p := ⟨gb864, _, none⟩) NB876_864.out _).trans (((cell_far (p := ⟨gb864, _, none⟩) NB876_864.out _).trans (((cell_far (p := ⟨gb864, _, none⟩) NB876_864.out _).trans (((cell_far (p := ⟨gb864, _, none⟩) NB876_864.out _).trans (hHeld.2.1)))))))))), ((cell_far (p := ⟨gb864, _, none⟩) NB876_864.out _).trans (((cell_far (p := ⟨gb864, _, none⟩) NB876_864.out _).trans (((cell_far (p := ⟨gb864, _, none⟩) NB876_864.out _).trans (((cell_far (p := ⟨gb864, _, none⟩) NB876_864.out _).trans (((cell_far (p := ⟨gb864, _, none⟩) NB876_864.out _).trans (hHeld.2.2.1)))))))))), ((cell_far (p := ⟨gb864, _, none⟩) NB876_864.out _).trans (((cell_far (p := ⟨gb864, _, none⟩) NB876_864.out _).trans (((cell_far (p := ⟨gb864, _, none⟩) NB876_864.out _).trans (((cell_far (p := ⟨gb864, _, none⟩) NB876_864.out _).trans (((cell_far (p := ⟨gb864, _, none⟩) NB876_864.out _).trans (hHeld.2.2.2.1)))))))))), ((cell_far (p := ⟨gb864, _, none⟩) NB876_864.out _).trans (((cell_far (p := ⟨gb864, _, none⟩) NB876_864.out _).trans (((cell_far (p := ⟨gb864, _, none⟩) NB876_864.out _).trans (((cell_far (p := ⟨gb864, _, none⟩) NB876_864.out _).trans (((cell_far (p := ⟨gb864, _, none⟩) NB876_864.out _).trans (hHeld.2.2.2.2))))))))))⟩ (fun hHeld => ?_)
           clear hK K
           refine done_ (by kernel_rfl) ?_
           try go_wp2
           refine bodyPost_ret (results_tc rfl _ _ gb864 27 #[.int .i64 t870, .int .i64 x877001_24, .int .i64 ((rd_T37 t865 t882).f0), .int .i64 t873, .string t874] (0, 0) _ rfl (by (with_reducible repeat (first | refine blk_drewN ?_ _ | refine blk_drew ?_ | refine blk_alloc ?_ _)); refine blk_put (cs := #[.int .i64 t870, .int .i64 x877001_24, .int .i64 ((rd_T37 t865 t882).f0), .int .i64 t873, .string (⟨#[]⟩ : ByteArray)]) ?_ 4 _ rfl; (with_reducible repeat (first | refine blk_drewN ?_ _ | refine blk_drew ?_ | refine blk_alloc ?_ _)); refine blk_put (cs := #[.int .i64 t870, .int .i64 x877001_24, .int .i64 ((rd_T37 t865 t882).f0), .int .i64 0, .string (⟨#[]⟩ : ByteArray)]) ?_ 3 _ rfl; (with_reducible repeat (first | refine blk_drewN ?_ _ | refine blk_drew ?_ | refine blk_alloc ?_ _)); refine blk_put (cs := #[.int .i64 t870, .int .i64 x877001_24, .int .i64 0, .int .i64 0, .string (⟨#[]⟩ : ByteArray)]) ?_ 2 _ rfl; (with_reducible repeat (first | refine blk_drewN ?_ _ | refine blk_drew ?_ | refine blk_alloc ?_ _)); refine blk_put (cs := #[.int .i64 t870, .int .i64 0, .int .i64 0, .int .i64 0, .string (⟨#[]⟩ : ByteArray)]) ?_ 1 _ rfl; (with_reducible repeat (first | refine blk_drewN ?_ _ | refine blk_drew ?_ | refine blk_alloc ?_ _)); refine blk_put (cs := #[.int .i64 0, .int .i64 0, .int .i64 0, .int .i64 0, .string (⟨#[]⟩ : ByteArray)]) ?_ 0 _ rfl; (with_reducible repeat (first | refine blk_drewN ?_ _ | refine blk_drew ?_ | refine blk_alloc ?_ _)); exact BK864.out) Tryd.underlying27 rfl (by kernel_rfl)) rfl ?_
           exact ⟨_, fi_, by (with_reducible repeat (first | apply Kd.Q_alloc | apply Kd.Q_drewN | apply Kd.Q_drew)); exact Kd.Q_mono (Kd.Q_far (p := ⟨gb864, 4, none⟩) (Kd.Q_far (p := ⟨gb864, 3, none⟩) (Kd.Q_far (p := ⟨gb864, 2, none⟩) (Kd.Q_far (p := ⟨gb864, 1, none⟩) (Kd.Q_far (p := ⟨gb864, 0, none⟩) (Kd.Q_types HO_4.out BK864.out (by decide)) (fun _ hk => hk.2) (.int .i64 t870)) (fun _ hk => hk.2) (.int .i64 x877001_24)) (fun _ hk => hk.2) (.int .i64 ((rd_T37 t865 t882).f0))) (fun _ hk => hk.2) (.int .i64 t873)) (fun _ hk => hk.2) (.string t874)) (fun _ hk => trivial), is_HI0, bel_, kf_ HK.out⟩
         ·rw [if_neg c46] at H
          exact absurd H (by simp)
        ·rw [if_neg c45] at H
         exact absurd H (by simp)
       ·replace c43 := Bool.eq_false_iff.mpr c43
        subst c43
        have H1 : (some (t865, t870, x877001_24, t872, t873, t874, x1001_29)) = some (r1, r2, r3, r4, r5, r6, r7) := by rw [if_neg (show ¬ (false = true) by decide)] at H; exact H
        clear H
        have H := H1
        clear H1
        simp only [Option.some.injEq, Prod.mk.injEq] at H
        obtain ⟨rfl, rfl, rfl, rfl, rfl, rfl, rfl⟩ := H
        try go_wp2
        have n0_ := Aside0.mk (Kd.Q_drew HO_4.out)
        have n1_ := Aside0.mk (blk_drew BK864.out)
        have n2_ := Aside0.mk (blk_drew BK876.out)
        have n3_ := Aside0.mk (IsS102.drew HI0.out)
        have n4_ := Aside0.mk (keep_drew HK.out)
        have n5_ := Aside0.mk (below_drew1 HB.out)
        clear HO_4
        clear BK864
        clear BK876
        clear HI0
        clear HK
        clear HB
        have HO_4 := n0_
        have BK864 := n1_
        have BK876 := n2_
        have HI0 := n3_
        have HK := n4_
        have HB := n5_
        clear n0_ n1_ n2_ n3_ n4_ n5_
        refine start_ (n := 4) (S := fun w' => w'.cell? ⟨gb876, 0, none⟩ = some (.int .i64 t870) ∧ w'.cell? ⟨gb876, 1, none⟩ = some (.int .i64 x877001_24) ∧ w'.cell? ⟨gb876, 2, none⟩ = some (.int .i64 t872) ∧ w'.cell? ⟨gb876, 3, none⟩ = some (.int .i64 t873) ∧ w'.cell? ⟨gb876, 4, none⟩ = some (.string t874)) (ds := []) #[false, false, false, false] (by kernel_rfl) rfl rfl ⟨(blk_cell BK876.out 0).trans rfl, (blk_cell BK876.out 1).trans rfl, (blk_cell BK876.out 2).trans rfl, (blk_cell BK876.out 3).trans rfl, (blk_cell BK876.out 4).trans rfl⟩ (fun hHeld => ?_)
        generalize wc.drew = w81 at HO_4 BK864 BK876 HI0 HK HB hHeld ⊢
        refine pure_ (i := 0) (N := some 66) (v := ?_) (a' := ?_) #[true, false, false, false] rfl rfl (by kernel_rfl) (fun _ _ _ h => h) (Or.inl ⟨by rfl, ?_⟩) ?_ ?_
        rotate_left
        ·intro w'
         go_simp
         with_reducible rfl
        rotate_left
        ·simp only [Act.put, List.setIfInBounds_toArray, List.set_cons_zero, List.set_cons_succ, i64_w, i32_w]
         rfl
        refine pure_ (i := 2) (N := some 2) (v := ?_) (a' := ?_) #[true, false, true, false] rfl rfl (by kernel_rfl) (fun _ _ _ h => h) (Or.inl ⟨by rfl, ?_⟩) ?_ ?_
        rotate_left
        ·intro w'
         go_simp
         with_reducible rfl
        rotate_left
        ·simp only [Act.put, List.setIfInBounds_toArray, List.set_cons_zero, List.set_cons_succ, i64_w, i32_w]
         rfl
        refine take_ (i := 1) (N := some 67) (v := ?_) (a' := ?_) #[true, true, true, false] rfl rfl (by kernel_rfl) (fun _ _ _ h => h) (Or.inl ⟨by rfl, ?_⟩) hHeld ?_ ?_
        rotate_left
        ·rintro w' ⟨s0, s1, s2, s3, s4⟩
         go_simp
         with_reducible rfl
        rotate_left
        ·simp only [Act.put, List.setIfInBounds_toArray, List.set_cons_zero, List.set_cons_succ, i64_w, i32_w]
         rfl
        refine one_ (i := 3) (N := none) #[true, true, true, true] rfl rfl (by kernel_rfl) (by decide) (fun K hK => ?_)
        have hs82 : w81.cell? ⟨gb864, 0, none⟩ = some (.int .i64 0) := (blk_cell BK864.out 0).trans rfl
        have hfs82 := blk_frozen BK864.out 0
        have hns82_1 := NB876_864.out
        have hms82_1 := NB864_876.out
        have hs83 : w81.cell? ⟨gb864, 1, none⟩ = some (.int .i64 0) := (blk_cell BK864.out 1).trans rfl
        have hfs83 := blk_frozen BK864.out 1
        have hns83_1 := NB876_864.out
        have hms83_1 := NB864_876.out
        have hs84 : w81.cell? ⟨gb864, 2, none⟩ = some (.int .i64 0) := (blk_cell BK864.out 2).trans rfl
        have hfs84 := blk_frozen BK864.out 2
        have hns84_1 := NB876_864.out
        have hms84_1 := NB864_876.out
        have hs85 : w81.cell? ⟨gb864, 3, none⟩ = some (.int .i64 0) := (blk_cell BK864.out 3).trans rfl
        have hfs85 := blk_frozen BK864.out 3
        have hns85_1 := NB876_864.out
        have hms85_1 := NB864_876.out
        have hs86 : w81.cell? ⟨gb864, 4, none⟩ = some (.string (⟨#[]⟩ : ByteArray)) := (blk_cell BK864.out 4).trans rfl
        have hfs86 := blk_frozen BK864.out 4
        have hns86_1 := NB876_864.out
        have hms86_1 := NB864_876.out
        refine skip_ (w1 := ?_) (by rfl) rfl ?_ ?_
        rotate_left
        ·go_simp
         rfl
        refine hK.out _ _ ⟨((cell_far (p := ⟨gb864, _, none⟩) NB876_864.out _).trans (((cell_far (p := ⟨gb864, _, none⟩) NB876_864.out _).trans (((cell_far (p := ⟨gb864, _, none⟩) NB876_864.out _).trans (((cell_far (p := ⟨gb864, _, none⟩) NB876_864.out _).trans (((cell_far (p := ⟨gb864, _, none⟩) NB876_864.out _).trans (hHeld.1)))))))))), ((cell_far (p := ⟨gb864, _, none⟩) NB876_864.out _).trans (((cell_far (p := ⟨gb864, _, none⟩) NB876_864.out _).trans (((cell_far (p := ⟨gb864, _, none⟩) NB876_864.out _).trans (((cell_far (p := ⟨gb864, _, none⟩) NB876_864.out _).trans (((cell_far (p := ⟨gb864, _, none⟩) NB876_864.out _).trans (hHeld.2.1)))))))))), ((cell_far (p := ⟨gb864, _, none⟩) NB876_864.out _).trans (((cell_far (p := ⟨gb864, _, none⟩) NB876_864.out _).trans (((cell_far (p := ⟨gb864, _, none⟩) NB876_864.out _).trans (((cell_far (p := ⟨gb864, _, none⟩) NB876_864.out _).trans (((cell_far (p := ⟨gb864, _, none⟩) NB876_864.out _).trans (hHeld.2.2.1)))))))))), ((cell_far (p := ⟨gb864, _, none⟩) NB876_864.out _).trans (((cell_far (p := ⟨gb864, _, none⟩) NB876_864.out _).trans (((cell_far (p := ⟨gb864, _, none⟩) NB876_864.out _).trans (((cell_far (p := ⟨gb864, _, none⟩) NB876_864.out _).trans (((cell_far (p := ⟨gb864, _, none⟩) NB876_864.out _).trans (hHeld.2.2.2.1)))))))))), ((cell_far (p := ⟨gb864, _, none⟩) NB876_864.out _).trans (((cell_far (p := ⟨gb864, _, none⟩) NB876_864.out _).trans (((cell_far (p := ⟨gb864, _, none⟩) NB876_864.out _).trans (((cell_far (p := ⟨gb864, _, none⟩) NB876_864.out _).trans (((cell_far (p := ⟨gb864, _, none⟩) NB876_864.out _).trans (hHeld.2.2.2.2))))))))))⟩ (fun hHeld => ?_)
        clear hK K
        refine done_ (by kernel_rfl) ?_
        try go_wp2
        refine bodyPost_ret (results_tc rfl _ _ gb864 27 #[.int .i64 t870, .int .i64 x877001_24, .int .i64 t872, .int .i64 t873, .string t874] (0, 0) _ rfl (by (with_reducible repeat (first | refine blk_drewN ?_ _ | refine blk_drew ?_ | refine blk_alloc ?_ _)); refine blk_put (cs := #[.int .i64 t870, .int .i64 x877001_24, .int .i64 t872, .int .i64 t873, .string (⟨#[]⟩ : ByteArray)]) ?_ 4 _ rfl; (with_reducible repeat (first | refine blk_drewN ?_ _ | refine blk_drew ?_ | refine blk_alloc ?_ _)); refine blk_put (cs := #[.int .i64 t870, .int .i64 x877001_24, .int .i64 t872, .int .i64 0, .string (⟨#[]⟩ : ByteArray)]) ?_ 3 _ rfl; (with_reducible repeat (first | refine blk_drewN ?_ _ | refine blk_drew ?_ | refine blk_alloc ?_ _)); refine blk_put (cs := #[.int .i64 t870, .int .i64 x877001_24, .int .i64 0, .int .i64 0, .string (⟨#[]⟩ : ByteArray)]) ?_ 2 _ rfl; (with_reducible repeat (first | refine blk_drewN ?_ _ | refine blk_drew ?_ | refine blk_alloc ?_ _)); refine blk_put (cs := #[.int .i64 t870, .int .i64 0, .int .i64 0, .int .i64 0, .string (⟨#[]⟩ : ByteArray)]) ?_ 1 _ rfl; (with_reducible repeat (first | refine blk_drewN ?_ _ | refine blk_drew ?_ | refine blk_alloc ?_ _)); refine blk_put (cs := #[.int .i64 0, .int .i64 0, .int .i64 0, .int .i64 0, .string (⟨#[]⟩ : ByteArray)]) ?_ 0 _ rfl; (with_reducible repeat (first | refine blk_drewN ?_ _ | refine blk_drew ?_ | refine blk_alloc ?_ _)); exact BK864.out) Tryd.underlying27 rfl (by kernel_rfl)) rfl ?_
        exact ⟨_, fi_, by (with_reducible repeat (first | apply Kd.Q_alloc | apply Kd.Q_drewN | apply Kd.Q_drew)); exact Kd.Q_mono (Kd.Q_far (p := ⟨gb864, 4, none⟩) (Kd.Q_far (p := ⟨gb864, 3, none⟩) (Kd.Q_far (p := ⟨gb864, 2, none⟩) (Kd.Q_far (p := ⟨gb864, 1, none⟩) (Kd.Q_far (p := ⟨gb864, 0, none⟩) (Kd.Q_types HO_4.out BK864.out (by decide)) (fun _ hk => hk.2) (.int .i64 t870)) (fun _ hk => hk.2) (.int .i64 x877001_24)) (fun _ hk => hk.2) (.int .i64 t872)) (fun _ hk => hk.2) (.int .i64 t873)) (fun _ hk => hk.2) (.string t874)) (fun _ hk => trivial), is_HI0, bel_, kf_ HK.out⟩

def spec_DrawOpWhere.l0 : Nat → List (S37) → Int → List Int → Int → Int → Int → Int → Int → ByteArray → Option ((List (S37)) × Int × Int × Int × Int × ByteArray)
 | 0, _, _, _, _, _, _, _, _, _ => none
 | k + 1, x5, x7, x1026000, x1026001, x1036000, x1036001, x1036002, x1036003, x1036004 => if x7 < 4 then ((spec_l6Rd_pick.f k x1026000 x1026001 8).bind fun bt1036 => (if bt1036.1 > 0 then (if x1036000 = 2 then ((spec_l71Fits.f k x1026000 bt1036.2).bind fun bt1038 => (spec_DrawOpWhere.l0 k bt1038.1 (wrap64 (x7 + 1)) x1026000 bt1038.2.2.2.2.2.2 bt1038.2.1 bt1038.2.2.1 bt1038.2.2.2.1 bt1038.2.2.2.2.1 bt1038.2.2.2.2.2.1)) else (some (x5, x1036000, x1036001, x1036002, x1036003, x1036004))) else (some (x5, x1036000, x1036001, x1036002, x1036003, x1036004)))) else (some (x5, x1036000, x1036001, x1036002, x1036003, x1036004))
def spec_DrawOpWhere.f (k : Nat) (l0 : List Int) : Option ((List (S37)) × Int × Int × Int × Int × ByteArray) := (spec_l6Open.f l0).bind fun bt1023 => ((spec_l71Fits.f k bt1023.1 bt1023.2).bind fun bt1026 => (spec_DrawOpWhere.l0 k bt1026.1 0 bt1023.1 bt1026.2.2.2.2.2.2 bt1026.2.1 bt1026.2.2.1 bt1026.2.2.2.1 bt1026.2.2.2.2.1 bt1026.2.2.2.2.2.1))
theorem spec_DrawOpWhere.mono_l : ∀ k, (∀ y0 y1 y2 y3 y4 y5 y6 y7 y8, LeO (spec_DrawOpWhere.l0 k y0 y1 y2 y3 y4 y5 y6 y7 y8) (spec_DrawOpWhere.l0 (k + 1) y0 y1 y2 y3 y4 y5 y6 y7 y8))
 | 0 => fun _ _ _ _ _ _ _ _ _ r h => by simp [spec_DrawOpWhere.l0] at h
 | k + 1 => by
  have ih0 := spec_DrawOpWhere.mono_l k
  ·intro y0 y1 y2 y3 y4 y5 y6 y7 y8
   unfold spec_DrawOpWhere.l0
   repeat' first
   | (with_reducible exact ih0 _ _ _ _ _ _ _ _ _)
   | (with_reducible exact spec_l6Rd_pick.mono _ _ _ _)
   | (with_reducible exact spec_l71Fits.mono _ _ _)
   | (with_reducible exact LeO.refl _)
   | (with_reducible exact LeO.none _)
   | (with_reducible refine LeO.ite ?_ ?_)
   | (with_reducible refine LeO.bind ?_ (fun _ => ?_))
   | exact ih0 _ _ _ _ _ _ _ _ _
   | exact spec_l6Rd_pick.mono _ _ _ _
   | exact spec_l71Fits.mono _ _ _
   | exact LeO.none _
   | refine LeO.ite ?_ ?_
   | refine LeO.bind ?_ (fun _ => ?_)
theorem spec_DrawOpWhere.mono : ∀ a0 k, LeO (spec_DrawOpWhere.f k a0) (spec_DrawOpWhere.f (k + 1) a0) := by
 intro a0 k
 have ih0 := spec_DrawOpWhere.mono_l k
 unfold spec_DrawOpWhere.f
 repeat' first
   | (with_reducible exact ih0 _ _ _ _ _ _ _ _ _)
   | (with_reducible exact spec_l6Rd_pick.mono _ _ _ _)
   | (with_reducible exact spec_l71Fits.mono _ _ _)
   | (with_reducible exact LeO.refl _)
   | (with_reducible exact LeO.none _)
   | (with_reducible refine LeO.ite ?_ ?_)
   | (with_reducible refine LeO.bind ?_ (fun _ => ?_))
   | exact ih0 _ _ _ _ _ _ _ _ _
   | exact spec_l6Rd_pick.mono _ _ _ _
   | exact spec_l71Fits.mono _ _ _
   | exact LeO.none _
   | refine LeO.ite ?_ ?_
   | refine LeO.bind ?_ (fun _ => ?_)
set_option maxHeartbeats 8000000 in
set_option maxRecDepth 100000 in
theorem spec_DrawOpWhere.calls (k : Nat) (A0 : Option Addr) (c0 : Nat) (l0 : List Int) (r1 : List (S37)) (r2 : Int) (r3 : Int) (r4 : Int) (r5 : Int) (r6 : ByteArray) (w : World) (hr0 : Kd.C (Kd.int .u8) w A0 l0.length l0) (hc0 : l0.length ≤ c0) (h : spec_DrawOpWhere.f k l0 = some (r1, r2, r3, r4, r5, r6)) :
  Calls Tryd.prog 48 #[.slice A0 l0.length c0] w fun e w' => ∃ v0_ : Value, e = .returned (.tuple #[v0_, .agg #[.int .i64 r2, .int .i64 r3, .int .i64 r4, .int .i64 r5, .string r6]]) ∧ Kd.Q k37 37 w' w.heap.size (fun _ => True) v0_ r1 ∧ Below w.heap.size w w' := by
 have hu27 := Tryd.underlying27
 have HR0 := Aside0.mk hr0
 have HC0 := Aside0.mk hc0
 clear hr0 hc0
 have HB := Aside0.mk (Below.refl w.heap.size w)
 unfold spec_DrawOpWhere.f at h
 have H := h
 clear h
 replace H := Option.bind_eq_some_iff.mp H
 obtain ⟨⟨t1023, t1024⟩, A20, H⟩ := H
 try dsimp only at H
 have A2 := Aside0.mk A20
 clear A20
 replace H := Option.bind_eq_some_iff.mp H
 obtain ⟨⟨t1026, t1029, t1030, t1031, t1032, t1033, t1034⟩, A30, H⟩ := H
 try dsimp only at H
 have A3 := Aside0.mk A30
 clear A30
 have H' := Aside0.mk H
 clear H
 go_enter Tryd.func48, Tryd.ntmps48
 go_wp2_with (first | ((with_reducible refine gate_dst (N := 3) rfl ?_); refine bx_ 3 (#[.int .i64 0, .int .i64 0, .int .i64 0, .int .i64 0, .string (⟨#[]⟩ : ByteArray)]) 27 ?_; intro gb1022 hg w4 hbox hb; have n0_ := Aside0.mk (below_step (bel_) hb); have n1_ := Aside0.mk (hbox); have n2_ := Aside0.mk ((by rw [hg]; exact (below_size (bel_)) : w.heap.size ≤ gb1022)); have n3_ := Aside0.mk ((by rw [hg]; exact (below_size (bel_)) : w.heap.size ≤ gb1022)); clear HB; have HB := n0_; have BK1022 := n1_; have GW1022 := n2_; have GE1022 := n3_; clear n0_ n1_ n2_ n3_; clear hb hbox hg) | ((with_reducible refine gate_callee (f := 52) rfl ?_); refine gl_ 9 Tryd.func52 #[.slice A0 l0.length c0] ?_; (with_reducible refine (spec_l6Open.calls _ _ l0 t1023 t1024 w _ ?side1 ?side2 ?side3 A2.out).mono ?_); (case side1 => exact bel_); (case side2 => exact HR0.out); (case side3 => exact HC0.out); rintro e w5 ⟨g1025, rfl, hi, hb, hb2⟩; refine ⟨_, rfl, ?_⟩; replace HB := Aside0.mk (hb); have HI1025 := Aside0.mk (hi); have NB1025_1022 := Aside0.mk (IsS102.ne_blk hi (bb_ BK1022.out hb2) (by decide)); have NB1022_1025 := Aside0.mk (Ne.symm (IsS102.ne_blk hi (bb_ BK1022.out hb2) (by decide))); replace BK1022 := Aside0.mk (bb_ BK1022.out hb2); (try clear hb hb2 hi)) | ((with_reducible refine gate_callee (f := 86) rfl ?_); refine gl_ 12 Tryd.func86 #[.pointer (some ⟨g1025, 0, none⟩)] ?_; (with_reducible refine (spec_l71Fits.calls k g1025 t1023 t1024 t1026 t1029 t1030 t1031 t1032 t1033 t1034 w _ ?side1 ?side2 A3.out).mono ?_); (case side1 => exact is_HI1025); (case side2 => exact bel_); rintro e w6 ⟨v1027, rfl, ho0, hi, hb, hk⟩; refine ⟨_, rfl, ?_⟩; have HO1028 := Aside0.mk (Kd.Q_lower ho0 (below_size (bel_))); replace BK1022 := Aside0.mk (kb_ hk BK1022.out NB1022_1025.out); replace HB := Aside0.mk (hb); replace HI1025 := Aside0.mk (hi); (try clear hb hk hi ho0)) | ((with_reducible refine gate_dst (N := 6) rfl ?_); refine bx_ 6 (#[.int .i64 0, .int .i64 0, .int .i64 0, .int .i64 0, .string (⟨#[]⟩ : ByteArray)]) 27 ?_; intro gb1035 hg w7 hbox hb; have n0_ := Aside0.mk (Kd.Q_below (qp_ HO1028.out) hb); have n1_ := Aside0.mk (bb_ BK1022.out hb); have n2_ := Aside0.mk (IsS102.below (is_HI1025) hb); have n3_ := Aside0.mk (below_step (bel_) hb); have n4_ := Aside0.mk (hbox); have n5_ := Aside0.mk ((by rw [hg]; exact (below_size (bel_)) : w.heap.size ≤ gb1035)); have n6_ := Aside0.mk ((by rw [hg]; exact (below_size (bel_)) : w.heap.size ≤ gb1035)); have n7_ := Aside0.mk ((by rw [hg]; exact Nat.ne_of_lt (blk_lt (g := gb1022) (o := .cells #[.int .i64 0, .int .i64 0, .int .i64 0, .int .i64 0, .string (⟨#[]⟩ : ByteArray)] 27 (0, 0)) (bp_ BK1022.out)) : gb1022 ≠ gb1035)); have n8_ := Aside0.mk ((by rw [hg]; exact Nat.ne_of_gt (blk_lt (g := gb1022) (o := .cells #[.int .i64 0, .int .i64 0, .int .i64 0, .int .i64 0, .string (⟨#[]⟩ : ByteArray)] 27 (0, 0)) (bp_ BK1022.out)) : gb1035 ≠ gb1022)); have n9_ := Aside0.mk ((by rw [hg]; exact Nat.ne_of_lt (IsS102.lt (show IsS102 w _ g1025 t1023 t1034 from is_HI1025)) : g1025 ≠ gb1035)); have n10_ := Aside0.mk ((by rw [hg]; exact Nat.ne_of_gt (IsS102.lt (show IsS102 w _ g1025 t1023 t1034 from is_HI1025)) : gb1035 ≠ g1025)); clear HO1028; clear BK1022; clear HI1025; clear HB; have HO1028 := n0_; have BK1022 := n1_; have HI1025 := n2_; have HB := n3_; have BK1035 := n4_; have GW1035 := n5_; have GE1035 := n6_; have NB1022_1035 := n7_; have NB1035_1022 := n8_; have NB1025_1035 := n9_; have NB1035_1025 := n10_; clear n0_ n1_ n2_ n3_ n4_ n5_ n6_ n7_ n8_ n9_ n10_; clear hb hbox hg; have hnb8 := NB1035_1022.out; have hnc8 := NB1022_1035.out; have hnb9 := NB1035_1025.out; have hnc9 := NB1025_1035.out; have hcz10_0 := cz_ BK1035.out 0 (.int .i64 0); have hcz10_1 := cz_ BK1035.out 1 (.int .i64 0); have hcz10_2 := cz_ BK1035.out 2 (.int .i64 0); have hcz10_3 := cz_ BK1035.out 3 (.int .i64 0); have hcz10_4 := cz_ BK1035.out 4 (.string (⟨#[]⟩ : ByteArray)); have hfz10_0 := blk_frozen BK1035.out 0; have hfz10_1 := blk_frozen BK1035.out 1; have hfz10_2 := blk_frozen BK1035.out 2; have hfz10_3 := blk_frozen BK1035.out 3; have hfz10_4 := blk_frozen BK1035.out 4))
 go_loopg [5, 7] k (fun kq v5 v7 w' => ∃ (x5_1 : List (S37)) (x7_1 : Int) (x1026001_1 : Int) (x1036000_1 : Int) (x1036001_1 : Int) (x1036002_1 : Int) (x1036003_1 : Int) (x1036004_1 : ByteArray), v7 = .int .i64 x7_1 ∧ Aside0 (spec_DrawOpWhere.l0 kq x5_1 x7_1 t1023 x1026001_1 x1036000_1 x1036001_1 x1036002_1 x1036003_1 x1036004_1 = some (r1, r2, r3, r4, r5, r6)) ∧ Aside0 (kq ≤ k) ∧ Aside0 (Kd.Q k37 37 w' w.heap.size (fun _ => True) v5 x5_1) ∧ Aside0 (w'.heap[gb1022]? = some (.cells #[.int .i64 0, .int .i64 0, .int .i64 0, .int .i64 0, .string (⟨#[]⟩ : ByteArray)] 27 (0, 0))) ∧ Aside0 (w'.heap[gb1035]? = some (.cells #[.int .i64 x1036000_1, .int .i64 x1036001_1, .int .i64 x1036002_1, .int .i64 x1036003_1, .string x1036004_1] 27 (0, 0))) ∧ Aside0 (IsS102 w w' g1025 t1023 x1026001_1) ∧ Aside0 (Below w.heap.size w w'))
 case atStart => exact ⟨(t1026), (0), (t1034), (t1029), (t1030), (t1031), (t1032), (t1033), (si_), H', ⟨Nat.le_refl _⟩, ⟨by (with_reducible repeat (first | apply Kd.Q_alloc | apply Kd.Q_drewN | apply Kd.Q_drew)); exact Kd.Q_mono (Kd.Q_far (p := ⟨gb1035, 4, none⟩) (Kd.Q_far (p := ⟨gb1035, 3, none⟩) (Kd.Q_far (p := ⟨gb1035, 2, none⟩) (Kd.Q_far (p := ⟨gb1035, 1, none⟩) (Kd.Q_far (p := ⟨gb1035, 0, none⟩) (Kd.Q_types HO1028.out BK1035.out (by decide)) (fun _ hk => hk.2) (.int .i64 t1029)) (fun _ hk => hk.2) (.int .i64 t1030)) (fun _ hk => hk.2) (.int .i64 t1031)) (fun _ hk => hk.2) (.int .i64 t1032)) (fun _ hk => hk.2) (.string t1033)) (fun _ hk => trivial)⟩, ⟨by (with_reducible repeat (first | refine blk_drewN ?_ _ | refine blk_drew ?_ | refine blk_alloc ?_ _)); refine blk_far ?_ NB1022_1035.out _; (with_reducible repeat (first | refine blk_drewN ?_ _ | refine blk_drew ?_ | refine blk_alloc ?_ _)); refine blk_far ?_ NB1022_1035.out _; (with_reducible repeat (first | refine blk_drewN ?_ _ | refine blk_drew ?_ | refine blk_alloc ?_ _)); refine blk_far ?_ NB1022_1035.out _; (with_reducible repeat (first | refine blk_drewN ?_ _ | refine blk_drew ?_ | refine blk_alloc ?_ _)); refine blk_far ?_ NB1022_1035.out _; (with_reducible repeat (first | refine blk_drewN ?_ _ | refine blk_drew ?_ | refine blk_alloc ?_ _)); refine blk_far ?_ NB1022_1035.out _; (with_reducible repeat (first | refine blk_drewN ?_ _ | refine blk_drew ?_ | refine blk_alloc ?_ _)); exact BK1022.out⟩, ⟨by (with_reducible repeat (first | refine blk_drewN ?_ _ | refine blk_drew ?_ | refine blk_alloc ?_ _)); refine blk_put (cs := #[.int .i64 t1029, .int .i64 t1030, .int .i64 t1031, .int .i64 t1032, .string (⟨#[]⟩ : ByteArray)]) ?_ 4 _ rfl; (with_reducible repeat (first | refine blk_drewN ?_ _ | refine blk_drew ?_ | refine blk_alloc ?_ _)); refine blk_put (cs := #[.int .i64 t1029, .int .i64 t1030, .int .i64 t1031, .int .i64 0, .string (⟨#[]⟩ : ByteArray)]) ?_ 3 _ rfl; (with_reducible repeat (first | refine blk_drewN ?_ _ | refine blk_drew ?_ | refine blk_alloc ?_ _)); refine blk_put (cs := #[.int .i64 t1029, .int .i64 t1030, .int .i64 0, .int .i64 0, .string (⟨#[]⟩ : ByteArray)]) ?_ 2 _ rfl; (with_reducible repeat (first | refine blk_drewN ?_ _ | refine blk_drew ?_ | refine blk_alloc ?_ _)); refine blk_put (cs := #[.int .i64 t1029, .int .i64 0, .int .i64 0, .int .i64 0, .string (⟨#[]⟩ : ByteArray)]) ?_ 1 _ rfl; (with_reducible repeat (first | refine blk_drewN ?_ _ | refine blk_drew ?_ | refine blk_alloc ?_ _)); refine blk_put (cs := #[.int .i64 0, .int .i64 0, .int .i64 0, .int .i64 0, .string (⟨#[]⟩ : ByteArray)]) ?_ 0 _ rfl; (with_reducible repeat (first | refine blk_drewN ?_ _ | refine blk_drew ?_ | refine blk_alloc ?_ _)); exact BK1035.out⟩, ⟨is_HI1025⟩, ⟨bel_⟩⟩
 case round =>
  clear H'
  try clear p2
  try clear c4
  try clear c5
  try clear c8
  try clear c9
  try clear hcz10_0
  try clear hcz10_1
  try clear hcz10_2
  try clear hcz10_3
  try clear hcz10_4
  try clear hfz10_0
  try clear hfz10_1
  try clear hfz10_2
  try clear hfz10_3
  try clear hfz10_4
  obtain ⟨x5_1, x7_1, x1026001_1, x1036000_1, x1036001_1, x1036002_1, x1036003_1, x1036004_1, rfl, HA, HK1, HO_5, BK1022, BK1035, HI1025, HB⟩ := hrel
  cases gk with
  | zero => exact absurd HA.out (by simp [spec_DrawOpWhere.l0])
  | succ k1 =>
   have H := HA.out
   clear HA
   simp only [spec_DrawOpWhere.l0] at H
   by_cases c11 : x7_1 < 4
   ·rw [if_pos c11] at H
    have c11b0 : decide (x7_1 < 4) = true := decide_eq_true c11
    clear c11
    replace H := Option.bind_eq_some_iff.mp H
    obtain ⟨⟨t1036, t1037⟩, A120, H⟩ := H
    try dsimp only at H
    have A12 := Aside0.mk A120
    clear A120
    by_cases c13 : t1036 > 0
    ·rw [if_pos c13] at H
     have c13b0 : decide (0 < t1036) = true := decide_eq_true c13
     clear c13
     by_cases c14 : x1036000_1 = 2
     ·rw [if_pos c14] at H
      have c14b0 : (x1036000_1 == 2) = true := beq_iff_eq.mpr c14
      have c14b1 : (x1036000_1 != 2) = false := bne_eq_false_iff_eq.mpr c14
      clear c14
      replace H := Option.bind_eq_some_iff.mp H
      obtain ⟨⟨t1038, t1041, t1042, t1043, t1044, t1045, t1046⟩, A150, H⟩ := H
      try dsimp only at H
      have A15 := Aside0.mk A150
      clear A150
      have H' := Aside0.mk H
      clear H
      go_wp2_with (first | (go_at_call 73; (with_reducible refine (spec_l6Rd_pick.calls k1 g1025 t1023 x1026001_1 8 t1036 t1037 w _ ?side1 ?side2 A12.out).mono ?_); (case side1 => exact is_HI1025); (case side2 => exact bel_); rintro e w16 ⟨rfl, hi, hb, hk⟩; replace HO_5 := Aside0.mk (Kd.Q_mono (Kd.Q_keep (IsS102.apartQ (show IsS102 w _ g1025 t1023 x1026001_1 from is_HI1025) (qp_ HO_5.out) (by decide)) hk (fun _ h => h.2)) (fun _ h => h.1)); replace BK1022 := Aside0.mk (kb_ hk BK1022.out NB1022_1025.out); replace BK1035 := Aside0.mk (kb_ hk BK1035.out NB1035_1025.out); replace HB := Aside0.mk (hb); replace HI1025 := Aside0.mk (hi); (try clear hb hk hi); have hnb17 := NB1035_1022.out; have hnc17 := NB1022_1035.out; have hnb18 := NB1035_1025.out; have hnc18 := NB1025_1035.out; have hcz19_0 := cz_ BK1035.out 0 (.int .i64 x1036000_1); have hcz19_1 := cz_ BK1035.out 1 (.int .i64 x1036001_1); have hcz19_2 := cz_ BK1035.out 2 (.int .i64 x1036002_1); have hcz19_3 := cz_ BK1035.out 3 (.int .i64 x1036003_1); have hcz19_4 := cz_ BK1035.out 4 (.string x1036004_1); have hfz19_0 := blk_frozen BK1035.out 0; have hfz19_1 := blk_frozen BK1035.out 1; have hfz19_2 := blk_frozen BK1035.out 2; have hfz19_3 := blk_frozen BK1035.out 3; have hfz19_4 := blk_frozen BK1035.out 4) | ((with_reducible refine gate_callee (f := 86) rfl ?_); refine gl_ 31 Tryd.func86 #[.pointer (some ⟨g1025, 0, none⟩)] ?_; (with_reducible refine (spec_l71Fits.calls k1 g1025 t1023 t1037 t1038 t1041 t1042 t1043 t1044 t1045 t1046 w _ ?side1 ?side2 A15.out).mono ?_); (case side1 => exact is_HI1025); (case side2 => exact bel_); rintro e w20 ⟨v1039, rfl, ho0, hi, hb, hk⟩; refine ⟨_, rfl, ?_⟩; have HO1040 := Aside0.mk (Kd.Q_lower (Kd.Q_new' ho0 (Kd.Q_lt (qp_ HO_5.out))) (below_size (bel_))); replace HO_5 := Aside0.mk (Kd.Q_mono (Kd.Q_told (Kd.Q_oldK (IsS102.apartQ (show IsS102 w _ g1025 t1023 t1037 from is_HI1025) (qp_ HO_5.out) (by decide)) hk) (Kd.Q_base ho0)) (fun _ h_ => h_.1)); replace BK1022 := Aside0.mk (kb_ hk BK1022.out NB1022_1025.out); replace BK1035 := Aside0.mk (kb_ hk BK1035.out NB1035_1025.out); replace HB := Aside0.mk (hb); replace HI1025 := Aside0.mk (hi); (try clear hb hk hi ho0); have hcz21_0 := cz_ BK1035.out 0 (.int .i64 x1036000_1); have hcz21_1 := cz_ BK1035.out 1 (.int .i64 x1036001_1); have hcz21_2 := cz_ BK1035.out 2 (.int .i64 x1036002_1); have hcz21_3 := cz_ BK1035.out 3 (.int .i64 x1036003_1); have hcz21_4 := cz_ BK1035.out 4 (.string x1036004_1); have hfz21_0 := blk_frozen BK1035.out 0; have hfz21_1 := blk_frozen BK1035.out 1; have hfz21_2 := blk_frozen BK1035.out 2; have hfz21_3 := blk_frozen BK1035.out 3; have hfz21_4 := blk_frozen BK1035.out 4))
      go_roundg k1
      case measure => have := HK1.out; omega
      case rel => exact ⟨(t1038), (wrap64 (x7_1 + 1)), (t1046), (t1041), (t1042), (t1043), (t1044), (t1045), (si_), H', ⟨by have := HK1.out; omega⟩, ⟨by (with_reducible repeat (first | apply Kd.Q_alloc | apply Kd.Q_drewN | apply Kd.Q_drew)); exact Kd.Q_mono (Kd.Q_far (p := ⟨gb1035, 4, none⟩) (Kd.Q_far (p := ⟨gb1035, 3, none⟩) (Kd.Q_far (p := ⟨gb1035, 2, none⟩) (Kd.Q_far (p := ⟨gb1035, 1, none⟩) (Kd.Q_far (p := ⟨gb1035, 0, none⟩) (Kd.Q_types HO1040.out BK1035.out (by decide)) (fun _ hk => hk.2) (.int .i64 t1041)) (fun _ hk => hk.2) (.int .i64 t1042)) (fun _ hk => hk.2) (.int .i64 t1043)) (fun _ hk => hk.2) (.int .i64 t1044)) (fun _ hk => hk.2) (.string t1045)) (fun _ hk => trivial)⟩, ⟨by (with_reducible repeat (first | refine blk_drewN ?_ _ | refine blk_drew ?_ | refine blk_alloc ?_ _)); refine blk_far ?_ NB1022_1035.out _; (with_reducible repeat (first | refine blk_drewN ?_ _ | refine blk_drew ?_ | refine blk_alloc ?_ _)); refine blk_far ?_ NB1022_1035.out _; (with_reducible repeat (first | refine blk_drewN ?_ _ | refine blk_drew ?_ | refine blk_alloc ?_ _)); refine blk_far ?_ NB1022_1035.out _; (with_reducible repeat (first | refine blk_drewN ?_ _ | refine blk_drew ?_ | refine blk_alloc ?_ _)); refine blk_far ?_ NB1022_1035.out _; (with_reducible repeat (first | refine blk_drewN ?_ _ | refine blk_drew ?_ | refine blk_alloc ?_ _)); refine blk_far ?_ NB1022_1035.out _; (with_reducible repeat (first | refine blk_drewN ?_ _ | refine blk_drew ?_ | refine blk_alloc ?_ _)); exact BK1022.out⟩, ⟨by (with_reducible repeat (first | refine blk_drewN ?_ _ | refine blk_drew ?_ | refine blk_alloc ?_ _)); refine blk_put (cs := #[.int .i64 t1041, .int .i64 t1042, .int .i64 t1043, .int .i64 t1044, .string x1036004_1]) ?_ 4 _ rfl; (with_reducible repeat (first | refine blk_drewN ?_ _ | refine blk_drew ?_ | refine blk_alloc ?_ _)); refine blk_put (cs := #[.int .i64 t1041, .int .i64 t1042, .int .i64 t1043, .int .i64 x1036003_1, .string x1036004_1]) ?_ 3 _ rfl; (with_reducible repeat (first | refine blk_drewN ?_ _ | refine blk_drew ?_ | refine blk_alloc ?_ _)); refine blk_put (cs := #[.int .i64 t1041, .int .i64 t1042, .int .i64 x1036002_1, .int .i64 x1036003_1, .string x1036004_1]) ?_ 2 _ rfl; (with_reducible repeat (first | refine blk_drewN ?_ _ | refine blk_drew ?_ | refine blk_alloc ?_ _)); refine blk_put (cs := #[.int .i64 t1041, .int .i64 x1036001_1, .int .i64 x1036002_1, .int .i64 x1036003_1, .string x1036004_1]) ?_ 1 _ rfl; (with_reducible repeat (first | refine blk_drewN ?_ _ | refine blk_drew ?_ | refine blk_alloc ?_ _)); refine blk_put (cs := #[.int .i64 x1036000_1, .int .i64 x1036001_1, .int .i64 x1036002_1, .int .i64 x1036003_1, .string x1036004_1]) ?_ 0 _ rfl; (with_reducible repeat (first | refine blk_drewN ?_ _ | refine blk_drew ?_ | refine blk_alloc ?_ _)); exact BK1035.out⟩, ⟨is_HI1025⟩, ⟨bel_⟩⟩
     ·rw [if_neg c14] at H
      have c14b0 : (x1036000_1 == 2) = false := beq_eq_false_iff_ne.mpr c14
      have c14b1 : (x1036000_1 != 2) = true := bne_iff_ne.mpr c14
      simp only [Option.some.injEq, Prod.mk.injEq] at H
      obtain ⟨rfl, rfl, rfl, rfl, rfl, rfl⟩ := H
      try go_wp2_with (first | (go_at_call 73; (with_reducible refine (spec_l6Rd_pick.calls k1 g1025 t1023 x1026001_1 8 t1036 t1037 w _ ?side1 ?side2 A12.out).mono ?_); (case side1 => exact is_HI1025); (case side2 => exact bel_); rintro e w22 ⟨rfl, hi, hb, hk⟩; replace HO_5 := Aside0.mk (Kd.Q_mono (Kd.Q_keep (IsS102.apartQ (show IsS102 w _ g1025 t1023 x1026001_1 from is_HI1025) (qp_ HO_5.out) (by decide)) hk (fun _ h => h.2)) (fun _ h => h.1)); replace BK1022 := Aside0.mk (kb_ hk BK1022.out NB1022_1025.out); replace BK1035 := Aside0.mk (kb_ hk BK1035.out NB1035_1025.out); replace HB := Aside0.mk (hb); replace HI1025 := Aside0.mk (hi); (try clear hb hk hi); have hnb23 := NB1035_1022.out; have hnc23 := NB1022_1035.out; have hnb24 := NB1035_1025.out; have hnc24 := NB1025_1035.out; have hcz25_0 := cz_ BK1035.out 0 (.int .i64 x1036000_1); have hcz25_1 := cz_ BK1035.out 1 (.int .i64 x1036001_1); have hcz25_2 := cz_ BK1035.out 2 (.int .i64 x1036002_1); have hcz25_3 := cz_ BK1035.out 3 (.int .i64 x1036003_1); have hcz25_4 := cz_ BK1035.out 4 (.string x1036004_1); have hfz25_0 := blk_frozen BK1035.out 0; have hfz25_1 := blk_frozen BK1035.out 1; have hfz25_2 := blk_frozen BK1035.out 2; have hfz25_3 := blk_frozen BK1035.out 3; have hfz25_4 := blk_frozen BK1035.out 4))
      have n0_ := Aside0.mk (Kd.Q_drew HO_5.out)
      have n1_ := Aside0.mk (blk_drew BK1022.out)
      have n2_ := Aside0.mk (blk_drew BK1035.out)
      have n3_ := Aside0.mk (IsS102.drew HI1025.out)
      have n4_ := Aside0.mk (below_drew1 HB.out)
      clear HO_5
      clear BK1022
      clear BK1035
      clear HI1025
      clear HB
      have HO_5 := n0_
      have BK1022 := n1_
      have BK1035 := n2_
      have HI1025 := n3_
      have HB := n4_
      clear n0_ n1_ n2_ n3_ n4_
      refine start_ (n := 4) (S := fun w' => w'.cell? ⟨gb1035, 0, none⟩ = some (.int .i64 x1036000_1) ∧ w'.cell? ⟨gb1035, 1, none⟩ = some (.int .i64 x1036001_1) ∧ w'.cell? ⟨gb1035, 2, none⟩ = some (.int .i64 x1036002_1) ∧ w'.cell? ⟨gb1035, 3, none⟩ = some (.int .i64 x1036003_1) ∧ w'.cell? ⟨gb1035, 4, none⟩ = some (.string x1036004_1)) (ds := []) #[false, false, false, false] (by kernel_rfl) rfl rfl ⟨(blk_cell BK1035.out 0).trans rfl, (blk_cell BK1035.out 1).trans rfl, (blk_cell BK1035.out 2).trans rfl, (blk_cell BK1035.out 3).trans rfl, (blk_cell BK1035.out 4).trans rfl⟩ (fun hHeld => ?_)
      generalize w22.drew = w26 at HO_5 BK1022 BK1035 HI1025 HB hHeld ⊢
      refine pure_ (i := 0) (N := some 34) (v := ?_) (a' := ?_) #[true, false, false, false] rfl rfl (by kernel_rfl) (fun _ _ _ h => h) (Or.inl ⟨by rfl, ?_⟩) ?_ ?_
      rotate_left
      ·intro w'
       go_simp
       with_reducible rfl
      rotate_left
      ·simp only [Act.put, List.setIfInBounds_toArray, List.set_cons_zero, List.set_cons_succ, i64_w, i32_w]
       rfl
      refine pure_ (i := 2) (N := some 2) (v := ?_) (a' := ?_) #[true, false, true, false] rfl rfl (by kernel_rfl) (fun _ _ _ h => h) (Or.inl ⟨by rfl, ?_⟩) ?_ ?_
      rotate_left
      ·intro w'
       go_simp
       with_reducible rfl
      rotate_left
      ·simp only [Act.put, List.setIfInBounds_toArray, List.set_cons_zero, List.set_cons_succ, i64_w, i32_w]
       rfl
      refine take_ (i := 1) (N := some 35) (v := ?_) (a' := ?_) #[true, true, true, false] rfl rfl (by kernel_rfl) (fun _ _ _ h => h) (Or.inl ⟨by rfl, ?_⟩) hHeld ?_ ?_
      rotate_left
      ·rintro w' ⟨s0, s1, s2, s3, s4⟩
       go_simp
       with_reducible rfl
      rotate_left
      ·simp only [Act.put, List.setIfInBounds_toArray, List.set_cons_zero, List.set_cons_succ, i64_w, i32_w]
       rfl
      refine one_ (i := 3) (N := none) #[true, true, true, true] rfl rfl (by kernel_rfl) (by decide) (fun K hK => ?_)
      have hs27 : w26.cell? ⟨gb1022, 0, none⟩ = some (.int .i64 0) := (blk_cell BK1022.out 0).trans rfl
      have hfs27 := blk_frozen BK1022.out 0
      have hns27_1 := NB1035_1022.out
      have hms27_1 := NB1022_1035.out
      have hs28 : w26.cell? ⟨gb1022, 1, none⟩ = some (.int .i64 0) := (blk_cell BK1022.out 1).trans rfl
      have hfs28 := blk_frozen BK1022.out 1
      have hns28_1 := NB1035_1022.out
      have hms28_1 := NB1022_1035.out
      have hs29 : w26.cell? ⟨gb1022, 2, none⟩ = some (.int .i64 0) := (blk_cell BK1022.out 2).trans rfl
      have hfs29 := blk_frozen BK1022.out 2
      have hns29_1 := NB1035_1022.out
      have hms29_1 := NB1022_1035.out
      have hs30 : w26.cell? ⟨gb1022, 3, none⟩ = some (.int .i64 0) := (blk_cell BK1022.out 3).trans rfl
      have hfs30 := blk_frozen BK1022.out 3
      have hns30_1 := NB1035_1022.out
      have hms30_1 := NB1022_1035.out
      have hs31 : w26.cell? ⟨gb1022, 4, none⟩ = some (.string (⟨#[]⟩ : ByteArray)) := (blk_cell BK1022.out 4).trans rfl
      have hfs31 := blk_frozen BK1022.out 4
      have hns31_1 := NB1035_1022.out
      have hms31_1 := NB1022_1035.out
      refine skip_ (w1 := ?_) (by rfl) rfl ?_ ?_
      rotate_left
      ·go_simp
       rfl
      refine hK.out _ _ ⟨((cell_far (p := ⟨gb1022, _, none⟩) NB1035_1022.out _).trans (((cell_far (p := ⟨gb1022, _, none⟩) NB1035_1022.out _).trans (((cell_far (p := ⟨gb1022, _, none⟩) NB1035_1022.out _).trans (((cell_far (p := ⟨gb1022, _, none⟩) NB1035_1022.out _).trans (((cell_far (p := ⟨gb1022, _, none⟩) NB1035_1022.out _).trans (hHeld.1)))))))))), ((cell_far (p := ⟨gb1022, _, none⟩) NB1035_1022.out _).trans (((cell_far (p := ⟨gb1022, _, none⟩) NB1035_1022.out _).trans (((cell_far (p := ⟨gb1022, _, none⟩) NB1035_1022.out _).trans (((cell_far (p := ⟨gb1022, _, none⟩) NB1035_1022.out _).trans (((cell_far (p := ⟨gb1022, _, none⟩) NB1035_1022.out _).trans (hHeld.2.1)))))))))), ((cell_far (p := ⟨gb1022, _, none⟩) NB1035_1022.out _).trans (((cell_far (p := ⟨gb1022, _, none⟩) NB1035_1022.out _).trans (((cell_far (p := ⟨gb1022, _, none⟩) NB1035_1022.out _).trans (((cell_far (p := ⟨gb1022, _, none⟩) NB1035_1022.out _).trans (((cell_far (p := ⟨gb1022, _, none⟩) NB1035_1022.out _).trans (hHeld.2.2.1)))))))))), ((cell_far (p := ⟨gb1022, _, none⟩) NB1035_1022.out _).trans (((cell_far (p := ⟨gb1022, _, none⟩) NB1035_1022.out _).trans (((cell_far (p := ⟨gb1022, _, none⟩) NB1035_1022.out _).trans (((cell_far (p := ⟨gb1022, _, none⟩) NB1035_1022.out _).trans (((cell_far (p := ⟨gb1022, _, none⟩) NB1035_1022.out _).trans (hHeld.2.2.2.1)))))))))), ((cell_far (p := ⟨gb1022, _, none⟩) NB1035_1022.out _).trans (((cell_far (p := ⟨gb1022, _, none⟩) NB1035_1022.out _).trans (((cell_far (p := ⟨gb1022, _, none⟩) NB1035_1022.out _).trans (((cell_far (p := ⟨gb1022, _, none⟩) NB1035_1022.out _).trans (((cell_far (p := ⟨gb1022, _, none⟩) NB1035_1022.out _).trans (hHeld.2.2.2.2))))))))))⟩ (fun hHeld => ?_)
      clear hK K
      refine done_ (by kernel_rfl) ?_
      try go_wp2
      refine bodyPost_ret (results_tc rfl _ _ gb1022 27 #[.int .i64 x1036000_1, .int .i64 x1036001_1, .int .i64 x1036002_1, .int .i64 x1036003_1, .string x1036004_1] (0, 0) _ rfl (by (with_reducible repeat (first | refine blk_drewN ?_ _ | refine blk_drew ?_ | refine blk_alloc ?_ _)); refine blk_put (cs := #[.int .i64 x1036000_1, .int .i64 x1036001_1, .int .i64 x1036002_1, .int .i64 x1036003_1, .string (⟨#[]⟩ : ByteArray)]) ?_ 4 _ rfl; (with_reducible repeat (first | refine blk_drewN ?_ _ | refine blk_drew ?_ | refine blk_alloc ?_ _)); refine blk_put (cs := #[.int .i64 x1036000_1, .int .i64 x1036001_1, .int .i64 x1036002_1, .int .i64 0, .string (⟨#[]⟩ : ByteArray)]) ?_ 3 _ rfl; (with_reducible repeat (first | refine blk_drewN ?_ _ | refine blk_drew ?_ | refine blk_alloc ?_ _)); refine blk_put (cs := #[.int .i64 x1036000_1, .int .i64 x1036001_1, .int .i64 0, .int .i64 0, .string (⟨#[]⟩ : ByteArray)]) ?_ 2 _ rfl; (with_reducible repeat (first | refine blk_drewN ?_ _ | refine blk_drew ?_ | refine blk_alloc ?_ _)); refine blk_put (cs := #[.int .i64 x1036000_1, .int .i64 0, .int .i64 0, .int .i64 0, .string (⟨#[]⟩ : ByteArray)]) ?_ 1 _ rfl; (with_reducible repeat (first | refine blk_drewN ?_ _ | refine blk_drew ?_ | refine blk_alloc ?_ _)); refine blk_put (cs := #[.int .i64 0, .int .i64 0, .int .i64 0, .int .i64 0, .string (⟨#[]⟩ : ByteArray)]) ?_ 0 _ rfl; (with_reducible repeat (first | refine blk_drewN ?_ _ | refine blk_drew ?_ | refine blk_alloc ?_ _)); exact BK1022.out) Tryd.underlying27 rfl (by kernel_rfl)) rfl ?_
      exact ⟨_, fi_, by (with_reducible repeat (first | apply Kd.Q_alloc | apply Kd.Q_drewN | apply Kd.Q_drew)); exact Kd.Q_mono (Kd.Q_far (p := ⟨gb1022, 4, none⟩) (Kd.Q_far (p := ⟨gb1022, 3, none⟩) (Kd.Q_far (p := ⟨gb1022, 2, none⟩) (Kd.Q_far (p := ⟨gb1022, 1, none⟩) (Kd.Q_far (p := ⟨gb1022, 0, none⟩) (Kd.Q_types HO_5.out BK1022.out (by decide)) (fun _ hk => hk.2) (.int .i64 x1036000_1)) (fun _ hk => hk.2) (.int .i64 x1036001_1)) (fun _ hk => hk.2) (.int .i64 x1036002_1)) (fun _ hk => hk.2) (.int .i64 x1036003_1)) (fun _ hk => hk.2) (.string x1036004_1)) (fun _ hk => trivial), bel_⟩
    ·rw [if_neg c13] at H
     have c13b0 : decide (0 < t1036) = false := decide_eq_false c13
     clear c13
     simp only [Option.some.injEq, Prod.mk.injEq] at H
     obtain ⟨rfl, rfl, rfl, rfl, rfl, rfl⟩ := H
     try go_wp2_with (first | (go_at_call 73; (with_reducible refine (spec_l6Rd_pick.calls k1 g1025 t1023 x1026001_1 8 t1036 t1037 w _ ?side1 ?side2 A12.out).mono ?_); (case side1 => exact is_HI1025); (case side2 => exact bel_); rintro e w32 ⟨rfl, hi, hb, hk⟩; replace HO_5 := Aside0.mk (Kd.Q_mono (Kd.Q_keep (IsS102.apartQ (show IsS102 w _ g1025 t1023 x1026001_1 from is_HI1025) (qp_ HO_5.out) (by decide)) hk (fun _ h => h.2)) (fun _ h => h.1)); replace BK1022 := Aside0.mk (kb_ hk BK1022.out NB1022_1025.out); replace BK1035 := Aside0.mk (kb_ hk BK1035.out NB1035_1025.out); replace HB := Aside0.mk (hb); replace HI1025 := Aside0.mk (hi); (try clear hb hk hi)))
     have n0_ := Aside0.mk (Kd.Q_drew HO_5.out)
     have n1_ := Aside0.mk (blk_drew BK1022.out)
     have n2_ := Aside0.mk (blk_drew BK1035.out)
     have n3_ := Aside0.mk (IsS102.drew HI1025.out)
     have n4_ := Aside0.mk (below_drew1 HB.out)
     clear HO_5
     clear BK1022
     clear BK1035
     clear HI1025
     clear HB
     have HO_5 := n0_
     have BK1022 := n1_
     have BK1035 := n2_
     have HI1025 := n3_
     have HB := n4_
     clear n0_ n1_ n2_ n3_ n4_
     refine start_ (n := 4) (S := fun w' => w'.cell? ⟨gb1035, 0, none⟩ = some (.int .i64 x1036000_1) ∧ w'.cell? ⟨gb1035, 1, none⟩ = some (.int .i64 x1036001_1) ∧ w'.cell? ⟨gb1035, 2, none⟩ = some (.int .i64 x1036002_1) ∧ w'.cell? ⟨gb1035, 3, none⟩ = some (.int .i64 x1036003_1) ∧ w'.cell? ⟨gb1035, 4, none⟩ = some (.string x1036004_1)) (ds := []) #[false, false, false, false] (by kernel_rfl) rfl rfl ⟨(blk_cell BK1035.out 0).trans rfl, (blk_cell BK1035.out 1).trans rfl, (blk_cell BK1035.out 2).trans rfl, (blk_cell BK1035.out 3).trans rfl, (blk_cell BK1035.out 4).trans rfl⟩ (fun hHeld => ?_)
     generalize w32.drew = w33 at HO_5 BK1022 BK1035 HI1025 HB hHeld ⊢
     refine pure_ (i := 0) (N := some 34) (v := ?_) (a' := ?_) #[true, false, false, false] rfl rfl (by kernel_rfl) (fun _ _ _ h => h) (Or.inl ⟨by rfl, ?_⟩) ?_ ?_
     rotate_left
     ·intro w'
      go_simp
      with_reducible rfl
     rotate_left
     ·simp only [Act.put, List.setIfInBounds_toArray, List.set_cons_zero, List.set_cons_succ, i64_w, i32_w]
      rfl
     refine pure_ (i := 2) (N := some 2) (v := ?_) (a' := ?_) #[true, false, true, false] rfl rfl (by kernel_rfl) (fun _ _ _ h => h) (Or.inl ⟨by rfl, ?_⟩) ?_ ?_
     rotate_left
     ·intro w'
      go_simp
      with_reducible rfl
     rotate_left
     ·simp only [Act.put, List.setIfInBounds_toArray, List.set_cons_zero, List.set_cons_succ, i64_w, i32_w]
      rfl
     refine take_ (i := 1) (N := some 35) (v := ?_) (a' := ?_) #[true, true, true, false] rfl rfl (by kernel_rfl) (fun _ _ _ h => h) (Or.inl ⟨by rfl, ?_⟩) hHeld ?_ ?_
     rotate_left
     ·rintro w' ⟨s0, s1, s2, s3, s4⟩
      go_simp
      with_reducible rfl
     rotate_left
     ·simp only [Act.put, List.setIfInBounds_toArray, List.set_cons_zero, List.set_cons_succ, i64_w, i32_w]
      rfl
     refine one_ (i := 3) (N := none) #[true, true, true, true] rfl rfl (by kernel_rfl) (by decide) (fun K hK => ?_)
     have hs34 : w33.cell? ⟨gb1022, 0, none⟩ = some (.int .i64 0) := (blk_cell BK1022.out 0).trans rfl
     have hfs34 := blk_frozen BK1022.out 0
     have hns34_1 := NB1035_1022.out
     have hms34_1 := NB1022_1035.out
     have hs35 : w33.cell? ⟨gb1022, 1, none⟩ = some (.int .i64 0) := (blk_cell BK1022.out 1).trans rfl
     have hfs35 := blk_frozen BK1022.out 1
     have hns35_1 := NB1035_1022.out
     have hms35_1 := NB1022_1035.out
     have hs36 : w33.cell? ⟨gb1022, 2, none⟩ = some (.int .i64 0) := (blk_cell BK1022.out 2).trans rfl
     have hfs36 := blk_frozen BK1022.out 2
     have hns36_1 := NB1035_1022.out
     have hms36_1 := NB1022_1035.out
     have hs37 : w33.cell? ⟨gb1022, 3, none⟩ = some (.int .i64 0) := (blk_cell BK1022.out 3).trans rfl
     have hfs37 := blk_frozen BK1022.out 3
     have hns37_1 := NB1035_1022.out
     have hms37_1 := NB1022_1035.out
     have hs38 : w33.cell? ⟨gb1022, 4, none⟩ = some (.string (⟨#[]⟩ : ByteArray)) := (blk_cell BK1022.out 4).trans rfl
     have hfs38 := blk_frozen BK1022.out 4
     have hns38_1 := NB1035_1022.out
     have hms38_1 := NB1022_1035.out
     refine skip_ (w1 := ?_) (by rfl) rfl ?_ ?_
     rotate_left
     ·go_simp
      rfl
     refine hK.out _ _ ⟨((cell_far (p := ⟨gb1022, _, none⟩) NB1035_1022.out _).trans (((cell_far (p := ⟨gb1022, _, none⟩) NB1035_1022.out _).trans (((cell_far (p := ⟨gb1022, _, none⟩) NB1035_1022.out _).trans (((cell_far (p := ⟨gb1022, _, none⟩) NB1035_1022.out _).trans (((cell_far (p := ⟨gb1022, _, none⟩) NB1035_1022.out _).trans (hHeld.1)))))))))), ((cell_far (p := ⟨gb1022, _, none⟩) NB1035_1022.out _).trans (((cell_far (p := ⟨gb1022, _, none⟩) NB1035_1022.out _).trans (((cell_far (p := ⟨gb1022, _, none⟩) NB1035_1022.out _).trans (((cell_far (p := ⟨gb1022, _, none⟩) NB1035_1022.out _).trans (((cell_far (p := ⟨gb1022, _, none⟩) NB1035_1022.out _).trans (hHeld.2.1)))))))))), ((cell_far (p := ⟨gb1022, _, none⟩) NB1035_1022.out _).trans (((cell_far (p := ⟨gb1022, _, none⟩) NB1035_1022.out _).trans (((cell_far (p := ⟨gb1022, _, none⟩) NB1035_1022.out _).trans (((cell_far (p := ⟨gb1022, _, none⟩) NB1035_1022.out _).trans (((cell_far (p := ⟨gb1022, _, none⟩) NB1035_1022.out _).trans (hHeld.2.2.1)))))))))), ((cell_far (p := ⟨gb1022, _, none⟩) NB1035_1022.out _).trans (((cell_far (p := ⟨gb1022, _, none⟩) NB1035_1022.out _).trans (((cell_far (p := ⟨gb1022, _, none⟩) NB1035_1022.out _).trans (((cell_far (p := ⟨gb1022, _, none⟩) NB1035_1022.out _).trans (((cell_far (p := ⟨gb1022, _, none⟩) NB1035_1022.out _).trans (hHeld.2.2.2.1)))))))))), ((cell_far (p := ⟨gb1022, _, none⟩) NB1035_1022.out _).trans (((cell_far (p := ⟨gb1022, _, none⟩) NB1035_1022.out _).trans (((cell_far (p := ⟨gb1022, _, none⟩) NB1035_1022.out _).trans (((cell_far (p := ⟨gb1022, _, none⟩) NB1035_1022.out _).trans (((cell_far (p := ⟨gb1022, _, none⟩) NB1035_1022.out _).trans (hHeld.2.2.2.2))))))))))⟩ (fun hHeld => ?_)
     clear hK K
     refine done_ (by kernel_rfl) ?_
     try go_wp2
     refine bodyPost_ret (results_tc rfl _ _ gb1022 27 #[.int .i64 x1036000_1, .int .i64 x1036001_1, .int .i64 x1036002_1, .int .i64 x1036003_1, .string x1036004_1] (0, 0) _ rfl (by (with_reducible repeat (first | refine blk_drewN ?_ _ | refine blk_drew ?_ | refine blk_alloc ?_ _)); refine blk_put (cs := #[.int .i64 x1036000_1, .int .i64 x1036001_1, .int .i64 x1036002_1, .int .i64 x1036003_1, .string (⟨#[]⟩ : ByteArray)]) ?_ 4 _ rfl; (with_reducible repeat (first | refine blk_drewN ?_ _ | refine blk_drew ?_ | refine blk_alloc ?_ _)); refine blk_put (cs := #[.int .i64 x1036000_1, .int .i64 x1036001_1, .int .i64 x1036002_1, .int .i64 0, .string (⟨#[]⟩ : ByteArray)]) ?_ 3 _ rfl; (with_reducible repeat (first | refine blk_drewN ?_ _ | refine blk_drew ?_ | refine blk_alloc ?_ _)); refine blk_put (cs := #[.int .i64 x1036000_1, .int .i64 x1036001_1, .int .i64 0, .int .i64 0, .string (⟨#[]⟩ : ByteArray)]) ?_ 2 _ rfl; (with_reducible repeat (first | refine blk_drewN ?_ _ | refine blk_drew ?_ | refine blk_alloc ?_ _)); refine blk_put (cs := #[.int .i64 x1036000_1, .int .i64 0, .int .i64 0, .int .i64 0, .string (⟨#[]⟩ : ByteArray)]) ?_ 1 _ rfl; (with_reducible repeat (first | refine blk_drewN ?_ _ | refine blk_drew ?_ | refine blk_alloc ?_ _)); refine blk_put (cs := #[.int .i64 0, .int .i64 0, .int .i64 0, .int .i64 0, .string (⟨#[]⟩ : ByteArray)]) ?_ 0 _ rfl; (with_reducible repeat (first | refine blk_drewN ?_ _ | refine blk_drew ?_ | refine blk_alloc ?_ _)); exact BK1022.out) Tryd.underlying27 rfl (by kernel_rfl)) rfl ?_
     exact ⟨_, fi_, by (with_reducible repeat (first | apply Kd.Q_alloc | apply Kd.Q_drewN | apply Kd.Q_drew)); exact Kd.Q_mono (Kd.Q_far (p := ⟨gb1022, 4, none⟩) (Kd.Q_far (p := ⟨gb1022, 3, none⟩) (Kd.Q_far (p := ⟨gb1022, 2, none⟩) (Kd.Q_far (p := ⟨gb1022, 1, none⟩) (Kd.Q_far (p := ⟨gb1022, 0, none⟩) (Kd.Q_types HO_5.out BK1022.out (by decide)) (fun _ hk => hk.2) (.int .i64 x1036000_1)) (fun _ hk => hk.2) (.int .i64 x1036001_1)) (fun _ hk => hk.2) (.int .i64 x1036002_1)) (fun _ hk => hk.2) (.int .i64 x1036003_1)) (fun _ hk => hk.2) (.string x1036004_1)) (fun _ hk => trivial), bel_⟩
   ·rw [if_neg c11] at H
    have c11b0 : decide (x7_1 < 4) = false := decide_eq_false c11
    clear c11
    simp only [Option.some.injEq, Prod.mk.injEq] at H
    obtain ⟨rfl, rfl, rfl, rfl, rfl, rfl⟩ := H
    try go_wp2
    have n0_ := Aside0.mk (Kd.Q_drew HO_5.out)
    have n1_ := Aside0.mk (blk_drew BK1022.out)
    have n2_ := Aside0.mk (blk_drew BK1035.out)
    have n3_ := Aside0.mk (IsS102.drew HI1025.out)
    have n4_ := Aside0.mk (below_drew1 HB.out)
    clear HO_5
    clear BK1022
    clear BK1035
    clear HI1025
    clear HB
    have HO_5 := n0_
    have BK1022 := n1_
    have BK1035 := n2_
    have HI1025 := n3_
    have HB := n4_
    clear n0_ n1_ n2_ n3_ n4_
    refine start_ (n := 4) (S := fun w' => w'.cell? ⟨gb1035, 0, none⟩ = some (.int .i64 x1036000_1) ∧ w'.cell? ⟨gb1035, 1, none⟩ = some (.int .i64 x1036001_1) ∧ w'.cell? ⟨gb1035, 2, none⟩ = some (.int .i64 x1036002_1) ∧ w'.cell? ⟨gb1035, 3, none⟩ = some (.int .i64 x1036003_1) ∧ w'.cell? ⟨gb1035, 4, none⟩ = some (.string x1036004_1)) (ds := []) #[false, false, false, false] (by kernel_rfl) rfl rfl ⟨(blk_cell BK1035.out 0).trans rfl, (blk_cell BK1035.out 1).trans rfl, (blk_cell BK1035.out 2).trans rfl, (blk_cell BK1035.out 3).trans rfl, (blk_cell BK1035.out 4).trans rfl⟩ (fun hHeld => ?_)
    generalize wr.drew = w39 at HO_5 BK1022 BK1035 HI1025 HB hHeld ⊢
    refine pure_ (i := 0) (N := some 34) (v := ?_) (a' := ?_) #[true, false, false, false] rfl rfl (by kernel_rfl) (fun _ _ _ h => h) (Or.inl ⟨by rfl, ?_⟩) ?_ ?_
    rotate_left
    ·intro w'
     go_simp
     with_reducible rfl
    rotate_left
    ·simp only [Act.put, List.setIfInBounds_toArray, List.set_cons_zero, List.set_cons_succ, i64_w, i32_w]
     rfl
    refine pure_ (i := 2) (N := some 2) (v := ?_) (a' := ?_) #[true, false, true, false] rfl rfl (by kernel_rfl) (fun _ _ _ h => h) (Or.inl ⟨by rfl, ?_⟩) ?_ ?_
    rotate_left
    ·intro w'
     go_simp
     with_reducible rfl
    rotate_left
    ·simp only [Act.put, List.setIfInBounds_toArray, List.set_cons_zero, List.set_cons_succ, i64_w, i32_w]
     rfl
    refine take_ (i := 1) (N := some 35) (v := ?_) (a' := ?_) #[true, true, true, false] rfl rfl (by kernel_rfl) (fun _ _ _ h => h) (Or.inl ⟨by rfl, ?_⟩) hHeld ?_ ?_
    rotate_left
    ·rintro w' ⟨s0, s1, s2, s3, s4⟩
     go_simp
     with_reducible rfl
    rotate_left
    ·simp only [Act.put, List.setIfInBounds_toArray, List.set_cons_zero, List.set_cons_succ, i64_w, i32_w]
     rfl
    refine one_ (i := 3) (N := none) #[true, true, true, true] rfl rfl (by kernel_rfl) (by decide) (fun K hK => ?_)
    have hs40 : w39.cell? ⟨gb1022, 0, none⟩ = some (.int .i64 0) := (blk_cell BK1022.out 0).trans rfl
    have hfs40 := blk_frozen BK1022.out 0
    have hns40_1 := NB1035_1022.out
    have hms40_1 := NB1022_1035.out
    have hs41 : w39.cell? ⟨gb1022, 1, none⟩ = some (.int .i64 0) := (blk_cell BK1022.out 1).trans rfl
    have hfs41 := blk_frozen BK1022.out 1
    have hns41_1 := NB1035_1022.out
    have hms41_1 := NB1022_1035.out
    have hs42 : w39.cell? ⟨gb1022, 2, none⟩ = some (.int .i64 0) := (blk_cell BK1022.out 2).trans rfl
    have hfs42 := blk_frozen BK1022.out 2
    have hns42_1 := NB1035_1022.out
    have hms42_1 := NB1022_1035.out
    have hs43 : w39.cell? ⟨gb1022, 3, none⟩ = some (.int .i64 0) := (blk_cell BK1022.out 3).trans rfl
    have hfs43 := blk_frozen BK1022.out 3
    have hns43_1 := NB1035_1022.out
    have hms43_1 := NB1022_1035.out
    have hs44 : w39.cell? ⟨gb1022, 4, none⟩ = some (.string (⟨#[]⟩ : ByteArray)) := (blk_cell BK1022.out 4).trans rfl
    have hfs44 := blk_frozen BK1022.out 4
    have hns44_1 := NB1035_1022.out
    have hms44_1 := NB1022_1035.out
    refine skip_ (w1 := ?_) (by rfl) rfl ?_ ?_
    rotate_left
    ·go_simp
     rfl
    refine hK.out _ _ ⟨((cell_far (p := ⟨gb1022, _, none⟩) NB1035_1022.out _).trans (((cell_far (p := ⟨gb1022, _, none⟩) NB1035_1022.out _).trans (((cell_far (p := ⟨gb1022, _, none⟩) NB1035_1022.out _).trans (((cell_far (p := ⟨gb1022, _, none⟩) NB1035_1022.out _).trans (((cell_far (p := ⟨gb1022, _, none⟩) NB1035_1022.out _).trans (hHeld.1)))))))))), ((cell_far (p := ⟨gb1022, _, none⟩) NB1035_1022.out _).trans (((cell_far (p := ⟨gb1022, _, none⟩) NB1035_1022.out _).trans (((cell_far (p := ⟨gb1022, _, none⟩) NB1035_1022.out _).trans (((cell_far (p := ⟨gb1022, _, none⟩) NB1035_1022.out _).trans (((cell_far (p := ⟨gb1022, _, none⟩) NB1035_1022.out _).trans (hHeld.2.1)))))))))), ((cell_far (p := ⟨gb1022, _, none⟩) NB1035_1022.out _).trans (((cell_far (p := ⟨gb1022, _, none⟩) NB1035_1022.out _).trans (((cell_far (p := ⟨gb1022, _, none⟩) NB1035_1022.out _).trans (((cell_far (p := ⟨gb1022, _, none⟩) NB1035_1022.out _).trans (((cell_far (p := ⟨gb1022, _, none⟩) NB1035_1022.out _).trans (hHeld.2.2.1)))))))))), ((cell_far (p := ⟨gb1022, _, none⟩) NB1035_1022.out _).trans (((cell_far (p := ⟨gb1022, _, none⟩) NB1035_1022.out _).trans (((cell_far (p := ⟨gb1022, _, none⟩) NB1035_1022.out _).trans (((cell_far (p := ⟨gb1022, _, none⟩) NB1035_1022.out _).trans (((cell_far (p := ⟨gb1022, _, none⟩) NB1035_1022.out _).trans (hHeld.2.2.2.1)))))))))), ((cell_far (p := ⟨gb1022, _, none⟩) NB1035_1022.out _).trans (((cell_far (p := ⟨gb1022, _, none⟩) NB1035_1022.out _).trans (((cell_far (p := ⟨gb1022, _, none⟩) NB1035_1022.out _).trans (((cell_far (p := ⟨gb1022, _, none⟩) NB1035_1022.out _).trans (((cell_far (p := ⟨gb1022, _, none⟩) NB1035_1022.out _).trans (hHeld.2.2.2.2))))))))))⟩ (fun hHeld => ?_)
    clear hK K
    refine done_ (by kernel_rfl) ?_
    try go_wp2
    refine bodyPost_ret (results_tc rfl _ _ gb1022 27 #[.int .i64 x1036000_1, .int .i64 x1036001_1, .int .i64 x1036002_1, .int .i64 x1036003_1, .string x1036004_1] (0, 0) _ rfl (by (with_reducible repeat (first | refine blk_drewN ?_ _ | refine blk_drew ?_ | refine blk_alloc ?_ _)); refine blk_put (cs := #[.int .i64 x1036000_1, .int .i64 x1036001_1, .int .i64 x1036002_1, .int .i64 x1036003_1, .string (⟨#[]⟩ : ByteArray)]) ?_ 4 _ rfl; (with_reducible repeat (first | refine blk_drewN ?_ _ | refine blk_drew ?_ | refine blk_alloc ?_ _)); refine blk_put (cs := #[.int .i64 x1036000_1, .int .i64 x1036001_1, .int .i64 x1036002_1, .int .i64 0, .string (⟨#[]⟩ : ByteArray)]) ?_ 3 _ rfl; (with_reducible repeat (first | refine blk_drewN ?_ _ | refine blk_drew ?_ | refine blk_alloc ?_ _)); refine blk_put (cs := #[.int .i64 x1036000_1, .int .i64 x1036001_1, .int .i64 0, .int .i64 0, .string (⟨#[]⟩ : ByteArray)]) ?_ 2 _ rfl; (with_reducible repeat (first | refine blk_drewN ?_ _ | refine blk_drew ?_ | refine blk_alloc ?_ _)); refine blk_put (cs := #[.int .i64 x1036000_1, .int .i64 0, .int .i64 0, .int .i64 0, .string (⟨#[]⟩ : ByteArray)]) ?_ 1 _ rfl; (with_reducible repeat (first | refine blk_drewN ?_ _ | refine blk_drew ?_ | refine blk_alloc ?_ _)); refine blk_put (cs := #[.int .i64 0, .int .i64 0, .int .i64 0, .int .i64 0, .string (⟨#[]⟩ : ByteArray)]) ?_ 0 _ rfl; (with_reducible repeat (first | refine blk_drewN ?_ _ | refine blk_drew ?_ | refine blk_alloc ?_ _)); exact BK1022.out) Tryd.underlying27 rfl (by kernel_rfl)) rfl ?_
    exact ⟨_, fi_, by (with_reducible repeat (first | apply Kd.Q_alloc | apply Kd.Q_drewN | apply Kd.Q_drew)); exact Kd.Q_mono (Kd.Q_far (p := ⟨gb1022, 4, none⟩) (Kd.Q_far (p := ⟨gb1022, 3, none⟩) (Kd.Q_far (p := ⟨gb1022, 2, none⟩) (Kd.Q_far (p := ⟨gb1022, 1, none⟩) (Kd.Q_far (p := ⟨gb1022, 0, none⟩) (Kd.Q_types HO_5.out BK1022.out (by decide)) (fun _ hk => hk.2) (.int .i64 x1036000_1)) (fun _ hk => hk.2) (.int .i64 x1036001_1)) (fun _ hk => hk.2) (.int .i64 x1036002_1)) (fun _ hk => hk.2) (.int .i64 x1036003_1)) (fun _ hk => hk.2) (.string x1036004_1)) (fun _ hk => trivial), bel_⟩

def spec_OpWhere.f (k : Nat) (l0 : List (S37)) (a1_0 : Int) (a1_1 : Int) (a1_2 : Int) (a1_3 : Int) (a1_4 : ByteArray) : Option (Int × Int × Bool) := (spec_TreeOk.f k l0).bind fun t1048 => (if t1048 = true then ((spec_OpOk.f k a1_0 a1_1 a1_2 a1_3 a1_4).bind fun t1049 => (if t1049 = true then ((spec_l3Where.f k l0 a1_0 a1_1 a1_2 a1_3 a1_4).bind fun bt1050 => (some (bt1050.1, bt1050.2.1, bt1050.2.2))) else (some (0, 0, false)))) else (some (0, 0, false)))
theorem spec_OpWhere.mono : ∀ a0 a1 a2 a3 a4 a5 k, LeO (spec_OpWhere.f k a0 a1 a2 a3 a4 a5) (spec_OpWhere.f (k + 1) a0 a1 a2 a3 a4 a5) := by
 intro a0 a1 a2 a3 a4 a5 k
 unfold spec_OpWhere.f
 repeat' first
   | (with_reducible exact spec_OpOk.mono _ _ _ _ _ _)
   | (with_reducible exact spec_TreeOk.mono _ _)
   | (with_reducible exact spec_l3Where.mono _ _ _ _ _ _ _)
   | (with_reducible exact LeO.refl _)
   | (with_reducible exact LeO.none _)
   | (with_reducible refine LeO.ite ?_ ?_)
   | (with_reducible refine LeO.bind ?_ (fun _ => ?_))
   | exact spec_OpOk.mono _ _ _ _ _ _
   | exact spec_TreeOk.mono _ _
   | exact spec_l3Where.mono _ _ _ _ _ _ _
   | exact LeO.none _
   | refine LeO.ite ?_ ?_
   | refine LeO.bind ?_ (fun _ => ?_)
set_option maxHeartbeats 8000000 in
set_option maxRecDepth 100000 in
theorem spec_OpWhere.calls (k : Nat) (A0 : Option Addr) (c0 : Nat) (l0 : List (S37)) (a1_0 : Int) (a1_1 : Int) (a1_2 : Int) (a1_3 : Int) (a1_4 : ByteArray) (r1 : Int) (r2 : Int) (r3 : Bool) (w : World) (hr0 : Kd.C k37 w A0 l0.length l0) (hc0 : l0.length ≤ c0) (h : spec_OpWhere.f k l0 a1_0 a1_1 a1_2 a1_3 a1_4 = some (r1, r2, r3)) :
  Calls Tryd.prog 49 #[.slice A0 l0.length c0, .agg #[.int .i64 a1_0, .int .i64 a1_1, .int .i64 a1_2, .int .i64 a1_3, .string a1_4]] w fun e w' => e = .returned (.tuple #[.int .i64 r1, .int .i64 r2, .bool r3]) ∧ Below w.heap.size w w' := by
 have hu27 := Tryd.underlying27
 have HR0 := Aside0.mk hr0
 have HC0 := Aside0.mk hc0
 clear hr0 hc0
 have HB := Aside0.mk (Below.refl w.heap.size w)
 unfold spec_OpWhere.f at h
 have H := h
 clear h
 replace H := Option.bind_eq_some_iff.mp H
 obtain ⟨t1048, A30, H⟩ := H
 try dsimp only at H
 have A3 := Aside0.mk A30
 clear A30
 by_cases c4 : t1048 = true
 ·subst c4
  have H1 : ((spec_OpOk.f k a1_0 a1_1 a1_2 a1_3 a1_4).bind fun t1049 => (if t1049 = true then ((spec_l3Where.f k l0 a1_0 a1_1 a1_2 a1_3 a1_4).bind fun bt1050 => (some (bt1050.1, bt1050.2.1, bt1050.2.2))) else (some (0, 0, false)))) = some (r1, r2, r3) := by rw [if_pos rfl] at H; exact H
  clear H
  have H := H1
  clear H1
  replace H := Option.bind_eq_some_iff.mp H
  obtain ⟨t1049, A50, H⟩ := H
  try dsimp only at H
  have A5 := Aside0.mk A50
  clear A50
  by_cases c6 : t1049 = true
  ·subst c6
   have H1 : ((spec_l3Where.f k l0 a1_0 a1_1 a1_2 a1_3 a1_4).bind fun bt1050 => (some (bt1050.1, bt1050.2.1, bt1050.2.2))) = some (r1, r2, r3) := by rw [if_pos rfl] at H; exact H
   clear H
   have H := H1
   clear H1
   replace H := Option.bind_eq_some_iff.mp H
   obtain ⟨⟨t1050, t1051, t1052⟩, A70, H⟩ := H
   try dsimp only at H
   have A7 := Aside0.mk A70
   clear A70
   simp only [Option.some.injEq, Prod.mk.injEq] at H
   obtain ⟨rfl, rfl, rfl⟩ := H
   go_enter Tryd.func49, Tryd.ntmps49
   go_wp2_with (first | ((with_reducible refine gate_dst (N := 3) rfl ?_); refine bx_ 3 (#[.int .i64 a1_0, .int .i64 a1_1, .int .i64 a1_2, .int .i64 a1_3, .string a1_4]) 27 ?_; intro gb1047 hg w8 hbox hb; have n0_ := Aside0.mk (below_step (bel_) hb); have n1_ := Aside0.mk (hbox); have n2_ := Aside0.mk ((by rw [hg]; exact (below_size (bel_)) : w.heap.size ≤ gb1047)); have n3_ := Aside0.mk ((by rw [hg]; exact (below_size (bel_)) : w.heap.size ≤ gb1047)); clear HB; have HB := n0_; have BK1047 := n1_; have GW1047 := n2_; have GE1047 := n3_; clear n0_ n1_ n2_ n3_; clear hb hbox hg) | ((with_reducible refine gate_callee (f := 19) rfl ?_); refine gl_ 8 Tryd.func19 #[.slice A0 l0.length c0] ?_; (with_reducible refine (spec_TreeOk.calls k _ _ l0 true _ ?side1 ?side2 A3.out).mono ?_); (case side1 => exact cp_ HR0.out); (case side2 => exact HC0.out); rintro e w9 ⟨rfl, hb⟩; refine ⟨_, rfl, ?_⟩; replace HB := Aside0.mk (below_step (bel_) hb); replace BK1047 := Aside0.mk (bb_ BK1047.out hb); (try clear hb); have hcz10_0 := cz_ BK1047.out 0 (.int .i64 a1_0); have hcz10_1 := cz_ BK1047.out 1 (.int .i64 a1_1); have hcz10_2 := cz_ BK1047.out 2 (.int .i64 a1_2); have hcz10_3 := cz_ BK1047.out 3 (.int .i64 a1_3); have hcz10_4 := cz_ BK1047.out 4 (.string a1_4); have hfz10_0 := blk_frozen BK1047.out 0; have hfz10_1 := blk_frozen BK1047.out 1; have hfz10_2 := blk_frozen BK1047.out 2; have hfz10_3 := blk_frozen BK1047.out 3; have hfz10_4 := blk_frozen BK1047.out 4) | (go_at_call 47; (with_reducible refine (spec_OpOk.calls k a1_0 a1_1 a1_2 a1_3 a1_4 true _ A5.out).mono ?_); rintro e w11 ⟨rfl, hb⟩; replace HB := Aside0.mk (below_step (bel_) hb); replace BK1047 := Aside0.mk (bb_ BK1047.out hb); (try clear hb); have hcz12_0 := cz_ BK1047.out 0 (.int .i64 a1_0); have hcz12_1 := cz_ BK1047.out 1 (.int .i64 a1_1); have hcz12_2 := cz_ BK1047.out 2 (.int .i64 a1_2); have hcz12_3 := cz_ BK1047.out 3 (.int .i64 a1_3); have hcz12_4 := cz_ BK1047.out 4 (.string a1_4); have hfz12_0 := blk_frozen BK1047.out 0; have hfz12_1 := blk_frozen BK1047.out 1; have hfz12_2 := blk_frozen BK1047.out 2; have hfz12_3 := blk_frozen BK1047.out 3; have hfz12_4 := blk_frozen BK1047.out 4) | ((with_reducible refine gate_callee (f := 79) rfl ?_); refine gl_ 17 Tryd.func79 #[.slice A0 l0.length c0, .agg #[.int .i64 a1_0, .int .i64 a1_1, .int .i64 a1_2, .int .i64 a1_3, .string a1_4]] ?_; (with_reducible refine (spec_l3Where.calls k _ _ l0 a1_0 a1_1 a1_2 a1_3 a1_4 t1050 t1051 t1052 _ ?side1 ?side2 A7.out).mono ?_); (case side1 => exact cp_ HR0.out); (case side2 => exact HC0.out); rintro e w13 ⟨rfl, hb⟩; refine ⟨_, rfl, ?_⟩; replace HB := Aside0.mk (below_step (bel_) hb); replace BK1047 := Aside0.mk (bb_ BK1047.out hb); (try clear hb)))
   go_ret3
   exact ⟨fi_, bel_⟩
  ·replace c6 := Bool.eq_false_iff.mpr c6
   subst c6
   have H1 : (some (0, 0, false)) = some (r1, r2, r3) := by rw [if_neg (show ¬ (false = true) by decide)] at H; exact H
   clear H
   have H := H1
   clear H1
   simp only [Option.some.injEq, Prod.mk.injEq] at H
   obtain ⟨rfl, rfl, rfl⟩ := H
   go_enter Tryd.func49, Tryd.ntmps49
   go_wp2_with (first | ((with_reducible refine gate_dst (N := 3) rfl ?_); refine bx_ 3 (#[.int .i64 a1_0, .int .i64 a1_1, .int .i64 a1_2, .int .i64 a1_3, .string a1_4]) 27 ?_; intro gb1047 hg w14 hbox hb; have n0_ := Aside0.mk (below_step (bel_) hb); have n1_ := Aside0.mk (hbox); have n2_ := Aside0.mk ((by rw [hg]; exact (below_size (bel_)) : w.heap.size ≤ gb1047)); have n3_ := Aside0.mk ((by rw [hg]; exact (below_size (bel_)) : w.heap.size ≤ gb1047)); clear HB; have HB := n0_; have BK1047 := n1_; have GW1047 := n2_; have GE1047 := n3_; clear n0_ n1_ n2_ n3_; clear hb hbox hg) | ((with_reducible refine gate_callee (f := 19) rfl ?_); refine gl_ 8 Tryd.func19 #[.slice A0 l0.length c0] ?_; (with_reducible refine (spec_TreeOk.calls k _ _ l0 true _ ?side1 ?side2 A3.out).mono ?_); (case side1 => exact cp_ HR0.out); (case side2 => exact HC0.out); rintro e w15 ⟨rfl, hb⟩; refine ⟨_, rfl, ?_⟩; replace HB := Aside0.mk (below_step (bel_) hb); replace BK1047 := Aside0.mk (bb_ BK1047.out hb); (try clear hb); have hcz16_0 := cz_ BK1047.out 0 (.int .i64 a1_0); have hcz16_1 := cz_ BK1047.out 1 (.int .i64 a1_1); have hcz16_2 := cz_ BK1047.out 2 (.int .i64 a1_2); have hcz16_3 := cz_ BK1047.out 3 (.int .i64 a1_3); have hcz16_4 := cz_ BK1047.out 4 (.string a1_4); have hfz16_0 := blk_frozen BK1047.out 0; have hfz16_1 := blk_frozen BK1047.out 1; have hfz16_2 := blk_frozen BK1047.out 2; have hfz16_3 := blk_frozen BK1047.out 3; have hfz16_4 := blk_frozen BK1047.out 4) | (go_at_call 47; (with_reducible refine (spec_OpOk.calls k a1_0 a1_1 a1_2 a1_3 a1_4 false _ A5.out).mono ?_); rintro e w17 ⟨rfl, hb⟩; replace HB := Aside0.mk (below_step (bel_) hb); replace BK1047 := Aside0.mk (bb_ BK1047.out hb); (try clear hb)))
   go_ret3
   exact ⟨fi_, bel_⟩
 ·replace c4 := Bool.eq_false_iff.mpr c4
  subst c4
  have H1 : (some (0, 0, false)) = some (r1, r2, r3) := by rw [if_neg (show ¬ (false = true) by decide)] at H; exact H
  clear H
  have H := H1
  clear H1
  simp only [Option.some.injEq, Prod.mk.injEq] at H
  obtain ⟨rfl, rfl, rfl⟩ := H
  go_enter Tryd.func49, Tryd.ntmps49
  go_wp2_with (first | ((with_reducible refine gate_dst (N := 3) rfl ?_); refine bx_ 3 (#[.int .i64 a1_0, .int .i64 a1_1, .int .i64 a1_2, .int .i64 a1_3, .string a1_4]) 27 ?_; intro gb1047 hg w18 hbox hb; have n0_ := Aside0.mk (below_step (bel_) hb); have n1_ := Aside0.mk (hbox); have n2_ := Aside0.mk ((by rw [hg]; exact (below_size (bel_)) : w.heap.size ≤ gb1047)); have n3_ := Aside0.mk ((by rw [hg]; exact (below_size (bel_)) : w.heap.size ≤ gb1047)); clear HB; have HB := n0_; have BK1047 := n1_; have GW1047 := n2_; have GE1047 := n3_; clear n0_ n1_ n2_ n3_; clear hb hbox hg) | ((with_reducible refine gate_callee (f := 19) rfl ?_); refine gl_ 8 Tryd.func19 #[.slice A0 l0.length c0] ?_; (with_reducible refine (spec_TreeOk.calls k _ _ l0 false _ ?side1 ?side2 A3.out).mono ?_); (case side1 => exact cp_ HR0.out); (case side2 => exact HC0.out); rintro e w19 ⟨rfl, hb⟩; refine ⟨_, rfl, ?_⟩; replace HB := Aside0.mk (below_step (bel_) hb); replace BK1047 := Aside0.mk (bb_ BK1047.out hb); (try clear hb)))
  go_ret3
  exact ⟨fi_, bel_⟩

end Go.Proofs.YtlkheeegkifblaaDoor.P
namespace Go.Proofs.YtlkheeegkifblaaDoor.P
open Go.RowKit
def owners : List Int := [0, 1, 1, 1, 0, 0, 0, 0, 0, 0, 0, 2, 2, 2, 2, 2, 2, 0, 0, 0, 0, 3, 3, 3, 3, 3, 3, 0, 0, 0, 0, 4, 4, 4, 4, 4, 4]
def Glob (w : World) : Prop := Lib.TabIs Tryd.prog w "loop.example/plashet/impl.rowOwners" .i64 owners
theorem gOwners : Tryd.prog.globalNamed "loop.example/plashet/impl.rowOwners" = some 0 := by kernel_rfl
theorem Glob.var {w : World} (h : Glob w) : w.var? Tryd.prog "loop.example/plashet/impl.rowOwners" = some (owners.map fun z => Value.int .i64 z).toArray := h
theorem Glob.lt {w : World} (h : Glob w) : 0 < w.heap.size := by
 have h := h.var
 unfold World.var? at h
 simp only [gOwners, Option.bind_some] at h
 rcases Nat.lt_or_ge 0 w.heap.size with hl | hl
 ·exact hl
 ·rw [Array.getElem?_eq_none hl] at h
  cases h
theorem Glob.below {w w' : World} (h : Glob w) (hb : Below w.heap.size w w') : Glob w' := by
 have hl := h.lt
 have h := h.var
 unfold Glob Lib.TabIs World.var? at *
 simp only [gOwners, Option.bind_some] at h ⊢
 rw [hb.block _ hl]
 exact h
theorem Glob.drew {w : World} (h : Glob w) : Glob w.drew := by
 have h := h.var
 unfold Glob Lib.TabIs World.var? at *
 exact h
theorem Glob.drewN {w : World} (h : Glob w) (n : Nat) : Glob (w.drewN n) := by
 induction n generalizing w with
 | zero => exact h
 | succ n ih => rw [← World.drew_drewN]; exact ih h.drew
theorem Glob.cell {w : World} (h : Glob w) (i : Nat) (hi : i < 37) : w.cell? ⟨0, i, none⟩ = some (.int .i64 (owners.getD i 0)) := by
 have hc := World.var?_cell gOwners h.var i
 rw [hc]
 have hl : i < owners.length := hi
 simp [List.getD_eq_getElem?_getD, List.getElem?_eq_getElem hl]
def ownI (id : Int) : Int := if 0 ≤ id ∧ id < 37 then owners.getD id.toNat 0 else 0
theorem Glob.at_ {w : World} (h : Glob w) (i : Int) (h0 : 0 ≤ i) (h1 : i < 37) : w.cell? ⟨0, i.toNat, none⟩ = some (.int .i64 (ownI i)) := by
 have := h.cell i.toNat (by omega)
 rw [ownI, if_pos ⟨h0, h1⟩]
 exact this
theorem owners_range : ∀ z ∈ owners, 0 ≤ z ∧ z ≤ 4 := by decide
theorem ownI_range (i : Int) : 0 ≤ ownI i ∧ ownI i ≤ 4 := by
 unfold ownI
 split
 ·rename_i h
  have hl : i.toNat < owners.length := by have : owners.length = 37 := rfl; omega
  rw [List.getD_eq_getElem?_getD, List.getElem?_eq_getElem hl]
  exact owners_range _ (List.getElem_mem hl)
 ·omega
end Go.Proofs.YtlkheeegkifblaaDoor.P
namespace Go.Proofs.YtlkheeegkifblaaDoor.FP
open Go.Proofs.YtlkheeegkifblaaDoor.P
inductive Fo where
 | nil
 | nd (i : Nat) (t : ByteArray) (k n : Fo)
structure Nd where
 t : ByteArray
 up : Nat
 first : Nat
 next : Nat
def Fo.hd : Fo → Nat
 | .nil => 0
 | .nd i _ _ _ => i
def Fo.ids : Fo → List Nat
 | .nil => []
 | .nd i _ k n => i :: (k.ids ++ n.ids)
def Fo.tops : Fo → List Nat
 | .nil => []
 | .nd i _ _ n => i :: n.tops
def Fo.fl (d : Nat) : Fo → List S37
 | .nil => []
 | .nd i t k n => ⟨(i : Int), (d : Int), t⟩ :: (k.fl (d + 1) ++ n.fl d)
def Rep (h : Nat → Nd) (up : Nat) : Fo → Prop
 | .nil => True
 | .nd i t k n => i ≠ 0 ∧ h i = ⟨t, up, k.hd, n.hd⟩ ∧ Rep h i k ∧ Rep h up n
def insAfter (a i : Nat) (t : ByteArray) (s : Fo) : Fo → Fo
 | .nil => .nil
 | .nd j u k n => if j = a then .nd j u k (.nd i t s n) else .nd j u (insAfter a i t s k) (insAfter a i t s n)
def insFirst (p i : Nat) (t : ByteArray) (s : Fo) : Fo → Fo
 | .nil => .nil
 | .nd j u k n => if j = p then .nd j u (.nd i t s k) n else .nd j u (insFirst p i t s k) (insFirst p i t s n)
def del (x : Nat) : Fo → Fo
 | .nil => .nil
 | .nd j u k n => if j = x then n else .nd j u (del x k) (del x n)
def sub (x : Nat) : Fo → Fo
 | .nil => .nil
 | .nd j u k n => if j = x then k else if x ∈ k.ids then sub x k else sub x n
def attachH (h : Nat → Nd) (i up a : Nat) : Nat → Nd := fun j =>
 if a = 0 then
  if j = up then ⟨(h up).t, (h up).up, i, (h up).next⟩ else if j = i then ⟨(h i).t, up, (h i).first, (h up).first⟩ else h j
 else
  if j = a then ⟨(h a).t, (h a).up, (h a).first, i⟩ else if j = i then ⟨(h i).t, up, (h i).first, (h a).next⟩ else h j
def detachH (h : Nat → Nd) (x a : Nat) : Nat → Nd := fun j =>
 if j = x then ⟨(h x).t, 0, (h x).first, 0⟩
 else if a = 0 then (if j = (h x).up then ⟨(h j).t, (h j).up, (h x).next, (h j).next⟩ else h j)
 else (if j = a then ⟨(h j).t, (h j).up, (h j).first, (h x).next⟩ else h j)
theorem Rep.ext {h h' : Nat → Nd} {up : Nat} : ∀ {F : Fo}, Rep h up F → (∀ i ∈ F.ids, h' i = h i) → Rep h' up F
 | .nil, _, _ => trivial
 | .nd i t k n, ⟨h1, h2, h3, h4⟩, e => ⟨h1, (e i (by simp [Fo.ids])).trans h2, Rep.ext h3 fun j hj => e j (by simp [Fo.ids, hj]), Rep.ext h4 fun j hj => e j (by simp [Fo.ids, hj])⟩
theorem Rep.ne0 {h : Nat → Nd} {up : Nat} : ∀ {F : Fo}, Rep h up F → ∀ i ∈ F.ids, i ≠ 0
 | .nil, _, i, hi => by simp [Fo.ids] at hi
 | .nd j t k n, ⟨h1, h2, h3, h4⟩, i, hi => by
  simp only [Fo.ids, List.mem_cons, List.mem_append] at hi
  rcases hi with rfl | hi | hi
  ·exact h1
  ·exact Rep.ne0 h3 i hi
  ·exact Rep.ne0 h4 i hi
theorem attachH_zero (h : Nat → Nd) (i up : Nat) (j : Nat) : attachH h i up 0 j = if j = up then ⟨(h up).t, (h up).up, i, (h up).next⟩ else if j = i then ⟨(h i).t, up, (h i).first, (h up).first⟩ else h j := rfl
theorem attachH_pos (h : Nat → Nd) (i up a : Nat) (ha : a ≠ 0) (j : Nat) : attachH h i up a j = if j = a then ⟨(h a).t, (h a).up, (h a).first, i⟩ else if j = i then ⟨(h i).t, up, (h i).first, (h a).next⟩ else h j := if_neg ha
theorem detachH_self (h : Nat → Nd) (x a : Nat) : detachH h x a x = ⟨(h x).t, 0, (h x).first, 0⟩ := if_pos rfl
theorem detachH_zero (h : Nat → Nd) (x : Nat) {j : Nat} (e : j ≠ x) : detachH h x 0 j = if j = (h x).up then ⟨(h j).t, (h j).up, (h x).next, (h j).next⟩ else h j := by unfold detachH; rw [if_neg e, if_pos rfl]
theorem detachH_pos (h : Nat → Nd) (x a : Nat) (ha : a ≠ 0) {j : Nat} (e : j ≠ x) : detachH h x a j = if j = a then ⟨(h j).t, (h j).up, (h j).first, (h x).next⟩ else h j := by unfold detachH; rw [if_neg e, if_neg ha]
structure Free (h : Nat → Nd) (i : Nat) (t : ByteArray) (s : Fo) : Prop where
 ne : i ≠ 0
 t : (h i).t = t
 first : (h i).first = s.hd
 rep : Rep h i s
 out : i ∉ s.ids
theorem insAfter_id (a i : Nat) (t : ByteArray) (s : Fo) : ∀ {F : Fo}, a ∉ F.ids → insAfter a i t s F = F
 | .nil, _ => rfl
 | .nd j u k n, h => by
  simp only [Fo.ids, List.mem_cons, List.mem_append, not_or] at h
  unfold insAfter
  rw [if_neg (fun e => h.1 e.symm), insAfter_id a i t s h.2.1, insAfter_id a i t s h.2.2]
theorem insFirst_id (p i : Nat) (t : ByteArray) (s : Fo) : ∀ {F : Fo}, p ∉ F.ids → insFirst p i t s F = F
 | .nil, _ => rfl
 | .nd j u k n, h => by
  simp only [Fo.ids, List.mem_cons, List.mem_append, not_or] at h
  unfold insFirst
  rw [if_neg (fun e => h.1 e.symm), insFirst_id p i t s h.2.1, insFirst_id p i t s h.2.2]
theorem del_id (x : Nat) : ∀ {F : Fo}, x ∉ F.ids → del x F = F
 | .nil, _ => rfl
 | .nd j u k n, h => by
  simp only [Fo.ids, List.mem_cons, List.mem_append, not_or] at h
  unfold del
  rw [if_neg (fun e => h.1 e.symm), del_id x h.2.1, del_id x h.2.2]
theorem insAfter_hd (a i : Nat) (t : ByteArray) (s : Fo) : ∀ (F : Fo), (insAfter a i t s F).hd = F.hd
 | .nil => rfl
 | .nd j u k n => by unfold insAfter; split <;> rfl
theorem insFirst_hd (p i : Nat) (t : ByteArray) (s : Fo) : ∀ (F : Fo), (insFirst p i t s F).hd = F.hd
 | .nil => rfl
 | .nd j u k n => by unfold insFirst; split <;> rfl
theorem nodup_nd {j : Nat} {u : ByteArray} {k n : Fo} (h : (Fo.nd j u k n).ids.Nodup) : j ∉ k.ids ∧ j ∉ n.ids ∧ k.ids.Nodup ∧ n.ids.Nodup ∧ (∀ x ∈ k.ids, x ∉ n.ids) := by
 simp only [Fo.ids, List.nodup_cons, List.nodup_append, List.mem_append, not_or] at h
 exact ⟨h.1.1, h.1.2, h.2.1, h.2.2.1, fun x hx hn => h.2.2.2 x hx x hn rfl⟩
theorem rep_insAfter {h : Nat → Nd} {a i q : Nat} {t : ByteArray} {s : Fo} (hf : Free h i t s) (ha0 : a ≠ 0) (hq : (h a).up = q) :
  ∀ {F : Fo} {up : Nat}, Rep h up F → F.ids.Nodup → i ∉ F.ids → a ∉ s.ids → a ≠ i → (∀ j ∈ s.ids, j ∉ F.ids) → Rep (attachH h i q a) up (insAfter a i t s F)
 | .nil, up, _, _, _, _, _, _ => trivial
 | .nd j u k n, up, ⟨h1, h2, h3, h4⟩, hn, hi, has, hai, hd => by
  obtain ⟨n1, n2, n3, n4, n5⟩ := nodup_nd hn
  have hat := attachH_pos h i q a ha0
  simp only [Fo.ids, List.mem_cons, List.mem_append, not_or] at hi
  have hs : Rep (attachH h i q a) i s := hf.rep.ext fun x hx => by
   rw [hat x, if_neg (fun (e : x = a) => has (e ▸ hx)), if_neg (fun (e : x = i) => hf.out (e ▸ hx))]
  unfold insAfter
  by_cases hj : j = a
  ·subst hj
   rw [if_pos rfl]
   have hup : q = up := by rw [← hq, h2]
   refine ⟨h1, ?_, ?_, hf.ne, ?_, hs, ?_⟩
   ·rw [hat j, if_pos rfl, h2]; rfl
   ·exact h3.ext fun x hx => by rw [hat x, if_neg (fun (e : x = j) => n1 (e ▸ hx)), if_neg (fun (e : x = i) => hi.2.1 (e ▸ hx))]
   ·rw [hat i, if_neg (fun e => hai e.symm), if_pos rfl, h2, hup]
    show Nd.mk (h i).t up (h i).first n.hd = _
    rw [hf.t, hf.first]
   ·exact h4.ext fun x hx => by rw [hat x, if_neg (fun (e : x = j) => n2 (e ▸ hx)), if_neg (fun (e : x = i) => hi.2.2 (e ▸ hx))]
  ·rw [if_neg hj]
   refine ⟨h1, ?_, ?_, ?_⟩
   ·rw [hat j, if_neg hj, if_neg (fun e => hi.1 e.symm), h2, insAfter_hd, insAfter_hd]
   ·exact rep_insAfter hf ha0 hq h3 n3 hi.2.1 has hai fun x hx hk => hd x hx (by simp [Fo.ids, hk])
   ·exact rep_insAfter hf ha0 hq h4 n4 hi.2.2 has hai fun x hx hk => hd x hx (by simp [Fo.ids, hk])
theorem rep_insFirst {h : Nat → Nd} {p i : Nat} {t : ByteArray} {s : Fo} (hf : Free h i t s) :
  ∀ {F : Fo} {up : Nat}, Rep h up F → F.ids.Nodup → i ∉ F.ids → p ∉ s.ids → p ≠ i → (∀ j ∈ s.ids, j ∉ F.ids) → Rep (attachH h i p 0) up (insFirst p i t s F)
 | .nil, up, _, _, _, _, _, _ => trivial
 | .nd j u k n, up, ⟨h1, h2, h3, h4⟩, hn, hi, has, hai, hd => by
  obtain ⟨n1, n2, n3, n4, n5⟩ := nodup_nd hn
  have hat := attachH_zero h i p
  simp only [Fo.ids, List.mem_cons, List.mem_append, not_or] at hi
  have hs : Rep (attachH h i p 0) i s := hf.rep.ext fun x hx => by
   rw [hat x, if_neg (fun (e : x = p) => has (e ▸ hx)), if_neg (fun (e : x = i) => hf.out (e ▸ hx))]
  unfold insFirst
  by_cases hj : j = p
  ·subst hj
   rw [if_pos rfl]
   refine ⟨h1, ?_, ⟨hf.ne, ?_, hs, ?_⟩, ?_⟩
   ·rw [hat j, if_pos rfl, h2]; rfl
   ·rw [hat i, if_neg (fun e => hai e.symm), if_pos rfl, h2]
    show Nd.mk (h i).t j (h i).first k.hd = _
    rw [hf.t, hf.first]
   ·exact h3.ext fun x hx => by rw [hat x, if_neg (fun (e : x = j) => n1 (e ▸ hx)), if_neg (fun (e : x = i) => hi.2.1 (e ▸ hx))]
   ·exact h4.ext fun x hx => by rw [hat x, if_neg (fun (e : x = j) => n2 (e ▸ hx)), if_neg (fun (e : x = i) => hi.2.2 (e ▸ hx))]
  ·rw [if_neg hj]
   refine ⟨h1, ?_, ?_, ?_⟩
   ·rw [hat j, if_neg hj, if_neg (fun e => hi.1 e.symm), h2, insFirst_hd, insFirst_hd]
   ·exact rep_insFirst hf h3 n3 hi.2.1 has hai fun x hx hk => hd x hx (by simp [Fo.ids, hk])
   ·exact rep_insFirst hf h4 n4 hi.2.2 has hai fun x hx hk => hd x hx (by simp [Fo.ids, hk])
def sib (x : Nat) : Nat → Fo → Nat
 | _, .nil => 0
 | p, .nd j u k n => if j = x then p else if x ∈ k.ids then sib x 0 k else sib x j n
theorem sib_mem (x : Nat) : ∀ (F : Fo) (p : Nat), sib x p F = p ∨ sib x p F = 0 ∨ sib x p F ∈ F.ids
 | .nil, p => Or.inr (Or.inl rfl)
 | .nd j u k n, p => by
  unfold sib
  by_cases h1 : j = x
  ·rw [if_pos h1]; exact Or.inl rfl
  ·rw [if_neg h1]
   by_cases h2 : x ∈ k.ids
   ·rw [if_pos h2]
    rcases sib_mem x k 0 with h | h | h
    ·exact Or.inr (Or.inl h)
    ·exact Or.inr (Or.inl h)
    ·exact Or.inr (Or.inr (by simp [Fo.ids, h]))
   ·rw [if_neg h2]
    rcases sib_mem x n j with h | h | h
    ·rw [h]; exact Or.inr (Or.inr (by simp [Fo.ids]))
    ·exact Or.inr (Or.inl h)
    ·exact Or.inr (Or.inr (by simp [Fo.ids, h]))
theorem rep_up {h : Nat → Nd} {x : Nat} : ∀ {F : Fo} {up : Nat}, Rep h up F → F.ids.Nodup → x ∈ F.ids → (h x).up = up ∨ (h x).up ∈ F.ids
 | .nil, _, _, _, hx => by simp [Fo.ids] at hx
 | .nd j u k n, up, ⟨h1, h2, h3, h4⟩, hn, hx => by
  obtain ⟨n1, n2, n3, n4, n5⟩ := nodup_nd hn
  simp only [Fo.ids, List.mem_cons, List.mem_append] at hx
  rcases hx with rfl | hx | hx
  ·left; rw [h2]
  ·rcases rep_up h3 n3 hx with e | e
   ·right; rw [e]; simp [Fo.ids]
   ·right; simp [Fo.ids, e]
  ·rcases rep_up h4 n4 hx with e | e
   ·exact Or.inl e
   ·right; simp [Fo.ids, e]
theorem sib_zero {h : Nat → Nd} {x : Nat} : ∀ {F : Fo} {up p : Nat}, Rep h up F → F.ids.Nodup → x ∈ F.ids → sib x p F = 0 → (p ≠ 0 ∨ F.hd ≠ x) → (h x).up ∈ F.ids
 | .nil, _, _, _, _, hx, _, _ => by simp [Fo.ids] at hx
 | .nd j u k n, up, p, ⟨h1, h2, h3, h4⟩, hn, hx, hs, hp => by
  obtain ⟨n1, n2, n3, n4, n5⟩ := nodup_nd hn
  unfold sib at hs
  simp only [Fo.ids, List.mem_cons, List.mem_append] at hx
  by_cases e : j = x
  ·rw [if_pos e] at hs
   rcases hp with hp | hp
   ·exact absurd hs hp
   ·exact absurd e hp
  ·rw [if_neg e] at hs
   by_cases hk : x ∈ k.ids
   ·rcases rep_up h3 n3 hk with e | e
    ·rw [e]; simp [Fo.ids]
    ·simp [Fo.ids, e]
   ·rw [if_neg hk] at hs
    have hxn : x ∈ n.ids := by
     rcases hx with e' | e' | e'
     ·exact absurd e'.symm e
     ·exact absurd e' hk
     ·exact e'
    have := sib_zero (p := j) h4 n4 hxn hs (Or.inl h1)
    simp [Fo.ids, this]
theorem del_hd (x : Nat) (F : Fo) (h : F.hd ≠ x) : (del x F).hd = F.hd := by
 cases F with
 | nil => rfl
 | nd j u k n => unfold del; rw [if_neg (show j ≠ x from h)]; rfl
theorem del_hd_self {h : Nat → Nd} {up x : Nat} {F : Fo} (hr : Rep h up F) (e : F.hd = x) (hx : x ≠ 0) : (del x F).hd = (h x).next ∧ (h x).up = up := by
 cases F with
 | nil => exact absurd e.symm hx
 | nd j u k n =>
  obtain rfl : j = x := e
  obtain ⟨h1, h2, h3, h4⟩ := hr
  unfold del
  rw [if_pos rfl, h2]
  exact ⟨rfl, rfl⟩
theorem sib_hd {x p : Nat} {F : Fo} (e : F.hd = x) (hx : x ≠ 0) : sib x p F = p := by
 cases F with
 | nil => exact absurd e.symm hx
 | nd j u k n => unfold sib; exact if_pos e
theorem up_ne {h : Nat → Nd} {x : Nat} : ∀ {F : Fo} {up : Nat}, Rep h up F → F.ids.Nodup → x ∈ F.ids → up ∉ F.ids → (h x).up ≠ x
 | .nil, _, _, _, hx, _ => by simp [Fo.ids] at hx
 | .nd j u k n, up, ⟨h1, h2, h3, h4⟩, hn, hx, hup => by
  obtain ⟨n1, n2, n3, n4, n5⟩ := nodup_nd hn
  simp only [Fo.ids, List.mem_cons, List.mem_append, not_or] at hx hup
  rcases hx with rfl | hx | hx
  ·rw [h2]; exact hup.1
  ·exact up_ne h3 n3 hx n1
  ·exact up_ne h4 n4 hx hup.2.2
theorem sib_ne {x : Nat} (hx0 : x ≠ 0) : ∀ {F : Fo} {p : Nat}, F.ids.Nodup → x ∈ F.ids → p ≠ x → sib x p F ≠ x
 | .nil, _, _, hx, _ => by simp [Fo.ids] at hx
 | .nd j u k n, p, hn, hx, hp => by
  obtain ⟨n1, n2, n3, n4, n5⟩ := nodup_nd hn
  simp only [Fo.ids, List.mem_cons, List.mem_append] at hx
  unfold sib
  by_cases e1 : j = x
  ·rw [if_pos e1]; exact hp
  ·rw [if_neg e1]
   by_cases e2 : x ∈ k.ids
   ·rw [if_pos e2]; exact sib_ne hx0 n3 e2 (fun e => hx0 e.symm)
   ·rw [if_neg e2]
    exact sib_ne hx0 n4 (by rcases hx with g | g | g; exact absurd g.symm e1; exact absurd g e2; exact g) e1
theorem rep_del {h : Nat → Nd} {x : Nat} : ∀ {F : Fo} {up p : Nat}, Rep h up F → F.ids.Nodup → x ∈ F.ids → up ∉ F.ids → p ∉ F.ids → Rep (detachH h x (sib x p F)) up (del x F)
 | .nil, _, _, _, _, hx, _, _ => by simp [Fo.ids] at hx
 | .nd j u k n, up, p, hR, hn, hx, hup, hp => by
  have hx0 : x ≠ 0 := hR.ne0 x hx
  have hxup : (h x).up ≠ x := up_ne hR hn hx hup
  obtain ⟨h1, h2, h3, h4⟩ := hR
  obtain ⟨n1, n2, n3, n4, n5⟩ := nodup_nd hn
  simp only [Fo.ids, List.mem_cons, List.mem_append, not_or] at hx hup hp
  unfold sib del
  by_cases e : j = x
  ·subst e
   rw [if_pos rfl, if_pos rfl]
   refine h4.ext fun y hy => ?_
   have hyj : y ≠ j := fun e => n2 (e ▸ hy)
   by_cases hp0 : p = 0
   ·subst hp0
    rw [detachH_zero h j hyj, h2, if_neg (fun (e : y = up) => hup.2.2 (e ▸ hy))]
   ·rw [detachH_pos h j p hp0 hyj, if_neg (fun (e : y = p) => hp.2.2 (e ▸ hy))]
  ·rw [if_neg e, if_neg e]
   by_cases hk : x ∈ k.ids
   ·rw [if_pos hk]
    have z3 : (0 : Nat) ∉ k.ids := fun h0 => h3.ne0 0 h0 rfl
    have ih := rep_del (p := 0) h3 n3 hk n1 z3
    have hnx : x ∉ n.ids := n5 x hk
    have hsx := sib_ne (p := 0) hx0 n3 hk (fun e => hx0 e.symm)
    have hsm : sib x 0 k ≠ 0 → sib x 0 k ∈ k.ids := fun hs => by
     rcases sib_mem x k 0 with h' | h' | h'
     ·exact absurd h' hs
     ·exact absurd h' hs
     ·exact h'
    rw [del_id x hnx]
    refine ⟨h1, ?_, ih, ?_⟩
    ·by_cases hh : k.hd = x
     ·have hs : sib x 0 k = 0 := sib_hd hh hx0
      obtain ⟨d1, d2⟩ := del_hd_self h3 hh hx0
      rw [hs, detachH_zero h x e, d2, if_pos rfl, d1, h2]
     ·rw [del_hd x k hh]
      by_cases hs : sib x 0 k = 0
      ·have hq := sib_zero (p := 0) h3 n3 hk hs (Or.inr hh)
       rw [hs, detachH_zero h x e, if_neg (fun (e2 : j = (h x).up) => n1 (e2 ▸ hq)), h2]
      ·rw [detachH_pos h x _ hs e, if_neg (fun (e2 : j = sib x 0 k) => n1 (e2 ▸ hsm hs)), h2]
    ·refine h4.ext fun y hy => ?_
     have hyx : y ≠ x := fun e2 => hnx (e2 ▸ hy)
     by_cases hs : sib x 0 k = 0
     ·rw [hs, detachH_zero h x hyx, if_neg]
      intro e2
      rcases rep_up h3 n3 hk with e3 | e3
      ·exact n2 (e3 ▸ e2 ▸ hy)
      ·exact n5 _ e3 (e2 ▸ hy)
     ·rw [detachH_pos h x _ hs hyx, if_neg (fun (e2 : y = sib x 0 k) => n5 _ (hsm hs) (e2 ▸ hy))]
   ·rw [if_neg hk]
    have hxn : x ∈ n.ids := by
     rcases hx with g | g | g
     ·exact absurd g.symm e
     ·exact absurd g hk
     ·exact g
    have ih := rep_del (p := j) h4 n4 hxn hup.2.2 n2
    rw [del_id x hk]
    have hsm : sib x j n ≠ j → sib x j n ≠ 0 → sib x j n ∈ n.ids := fun hj hs => by
     rcases sib_mem x n j with h' | h' | h'
     ·exact absurd h' hj
     ·exact absurd h' hs
     ·exact h'
    refine ⟨h1, ?_, ?_, ih⟩
    ·by_cases hh : n.hd = x
     ·have hs : sib x j n = j := sib_hd hh hx0
      obtain ⟨d1, d2⟩ := del_hd_self h4 hh hx0
      rw [hs, detachH_pos h x j h1 e, if_pos rfl, d1, h2]
     ·rw [del_hd x n hh]
      by_cases hs : sib x j n = 0
      ·have hq := sib_zero (p := j) h4 n4 hxn hs (Or.inl h1)
       rw [hs, detachH_zero h x e, if_neg (fun (e2 : j = (h x).up) => n2 (e2 ▸ hq)), h2]
      ·have hsj : sib x j n ≠ j := by
        cases n with
        | nil => simp [Fo.ids] at hxn
        | nd j2 u2 k2 n2' =>
         have hj2 : j2 ≠ x := hh
         unfold sib
         rw [if_neg hj2]
         obtain ⟨m1, m2, m3, m4, m5⟩ := nodup_nd n4
         simp only [Fo.ids, List.mem_cons, List.mem_append, not_or] at n2
         split
         ·rcases sib_mem x k2 0 with h' | h' | h'
          ·rw [h']; exact fun e => h1 e.symm
          ·rw [h']; exact fun e => h1 e.symm
          ·exact fun e => n2.2.1 (e ▸ h')
         ·rcases sib_mem x n2' j2 with h' | h' | h'
          ·rw [h']; exact fun e => n2.1 e.symm
          ·rw [h']; exact fun e => h1 e.symm
          ·exact fun e => n2.2.2 (e ▸ h')
       rw [detachH_pos h x _ hs e, if_neg (fun (e2 : j = sib x j n) => hsj e2.symm), h2]
    ·refine h3.ext fun y hy => ?_
     have hyx : y ≠ x := fun e2 => hk (e2 ▸ hy)
     by_cases hs : sib x j n = 0
     ·rw [hs, detachH_zero h x hyx, if_neg]
      intro e2
      have hq := sib_zero (p := j) h4 n4 hxn hs (Or.inl h1)
      exact n5 _ hy (e2 ▸ hq)
     ·rw [detachH_pos h x _ hs hyx, if_neg]
      intro e2
      by_cases hsj : sib x j n = j
      ·exact n1 (by rw [← hsj, ← e2]; exact hy)
      ·exact n5 _ hy (e2 ▸ hsm hsj hs)
def RepTop (h : Nat → Nd) : Fo → Prop
 | .nil => True
 | .nd i t k n => i ≠ 0 ∧ h i = ⟨t, 0, k.hd, 0⟩ ∧ Rep h i k ∧ RepTop h n
theorem RepTop.ext {h h' : Nat → Nd} : ∀ {F : Fo}, RepTop h F → (∀ i ∈ F.ids, h' i = h i) → RepTop h' F
 | .nil, _, _ => trivial
 | .nd i t k n, ⟨h1, h2, h3, h4⟩, e => ⟨h1, (e i (by simp [Fo.ids])).trans h2, Rep.ext h3 fun j hj => e j (by simp [Fo.ids, hj]), RepTop.ext h4 fun j hj => e j (by simp [Fo.ids, hj])⟩
theorem RepTop.ne0 {h : Nat → Nd} : ∀ {F : Fo}, RepTop h F → ∀ i ∈ F.ids, i ≠ 0
 | .nil, _, i, hi => by simp [Fo.ids] at hi
 | .nd j t k n, ⟨h1, h2, h3, h4⟩, i, hi => by
  simp only [Fo.ids, List.mem_cons, List.mem_append] at hi
  rcases hi with rfl | hi | hi
  ·exact h1
  ·exact Rep.ne0 h3 i hi
  ·exact RepTop.ne0 h4 i hi
theorem tops_ids : ∀ {F : Fo} {x : Nat}, x ∈ F.tops → x ∈ F.ids
 | .nil, x, h => by cases h
 | .nd j t k n, x, h => by
  simp only [Fo.tops, List.mem_cons] at h
  simp only [Fo.ids, List.mem_cons, List.mem_append]
  rcases h with h | h
  ·exact Or.inl h
  ·exact Or.inr (Or.inr (tops_ids h))
theorem reptop_up {h : Nat → Nd} {x : Nat} : ∀ {F : Fo}, RepTop h F → F.ids.Nodup → x ∈ F.ids → x ∉ F.tops → (h x).up ∈ F.ids ∧ (h x).up ≠ x
 | .nil, _, _, hx, _ => by simp [Fo.ids] at hx
 | .nd j u k n, ⟨h1, h2, h3, h4⟩, hn, hx, ht => by
  obtain ⟨n1, n2, n3, n4, n5⟩ := nodup_nd hn
  simp only [Fo.ids, Fo.tops, List.mem_cons, List.mem_append, not_or] at hx ht ⊢
  rcases hx with e | hx | hx
  ·exact absurd e ht.1
  ·refine ⟨?_, up_ne h3 n3 hx n1⟩
   rcases rep_up h3 n3 hx with e | e
   ·exact Or.inl e
   ·exact Or.inr (Or.inl e)
  ·obtain ⟨g1, g2⟩ := reptop_up h4 n4 hx ht.2
   exact ⟨Or.inr (Or.inr g1), g2⟩
theorem reptop_root {h : Nat → Nd} {x : Nat} : ∀ {F : Fo}, RepTop h F → x ∈ F.tops → (h x).up = 0
 | .nil, _, hx => by cases hx
 | .nd j u k n, ⟨h1, h2, h3, h4⟩, hx => by
  simp only [Fo.tops, List.mem_cons] at hx
  rcases hx with rfl | hx
  ·rw [h2]
  ·exact reptop_root h4 hx
theorem reptop_insAfter {h : Nat → Nd} {a i q : Nat} {t : ByteArray} {s : Fo} (hf : Free h i t s) (ha0 : a ≠ 0) (hq : (h a).up = q) :
  ∀ {F : Fo}, RepTop h F → F.ids.Nodup → i ∉ F.ids → a ∉ F.tops → a ∉ s.ids → a ≠ i → (∀ j ∈ s.ids, j ∉ F.ids) → RepTop (attachH h i q a) (insAfter a i t s F)
 | .nil, _, _, _, _, _, _, _ => trivial
 | .nd j u k n, ⟨h1, h2, h3, h4⟩, hn, hi, hta, has, hai, hd => by
  obtain ⟨n1, n2, n3, n4, n5⟩ := nodup_nd hn
  simp only [Fo.ids, Fo.tops, List.mem_cons, List.mem_append, not_or] at hi hta
  have hj : j ≠ a := fun e => hta.1 e.symm
  unfold insAfter
  rw [if_neg hj]
  refine ⟨h1, ?_, ?_, ?_⟩
  ·rw [attachH_pos h i q a ha0 j, if_neg hj, if_neg (fun e => hi.1 e.symm), h2, insAfter_hd]
  ·exact rep_insAfter hf ha0 hq h3 n3 hi.2.1 has hai fun x hx hk => hd x hx (by simp [Fo.ids, hk])
  ·exact reptop_insAfter hf ha0 hq h4 n4 hi.2.2 hta.2 has hai fun x hx hk => hd x hx (by simp [Fo.ids, hk])
theorem reptop_insFirst {h : Nat → Nd} {p i : Nat} {t : ByteArray} {s : Fo} (hf : Free h i t s) :
  ∀ {F : Fo}, RepTop h F → F.ids.Nodup → i ∉ F.ids → p ∉ s.ids → p ≠ i → (∀ j ∈ s.ids, j ∉ F.ids) → RepTop (attachH h i p 0) (insFirst p i t s F)
 | .nil, _, _, _, _, _, _ => trivial
 | .nd j u k n, ⟨h1, h2, h3, h4⟩, hn, hi, has, hai, hd => by
  obtain ⟨n1, n2, n3, n4, n5⟩ := nodup_nd hn
  have hat := attachH_zero h i p
  simp only [Fo.ids, List.mem_cons, List.mem_append, not_or] at hi
  unfold insFirst
  by_cases hj : j = p
  ·subst hj
   rw [if_pos rfl]
   refine ⟨h1, ?_, ⟨hf.ne, ?_, ?_, ?_⟩, ?_⟩
   ·rw [hat j, if_pos rfl, h2]; rfl
   ·rw [hat i, if_neg (fun e => hai e.symm), if_pos rfl, h2]
    show Nd.mk (h i).t j (h i).first k.hd = _
    rw [hf.t, hf.first]
   ·exact hf.rep.ext fun x hx => by
     rw [hat x, if_neg (fun (e : x = j) => has (e ▸ hx)), if_neg (fun (e : x = i) => hf.out (e ▸ hx))]
   ·exact h3.ext fun x hx => by rw [hat x, if_neg (fun (e : x = j) => n1 (e ▸ hx)), if_neg (fun (e : x = i) => hi.2.1 (e ▸ hx))]
   ·exact h4.ext fun x hx => by rw [hat x, if_neg (fun (e : x = j) => n2 (e ▸ hx)), if_neg (fun (e : x = i) => hi.2.2 (e ▸ hx))]
  ·rw [if_neg hj]
   refine ⟨h1, ?_, ?_, ?_⟩
   ·rw [hat j, if_neg hj, if_neg (fun e => hi.1 e.symm), h2, insFirst_hd]
   ·exact rep_insFirst hf h3 n3 hi.2.1 has hai fun x hx hk => hd x hx (by simp [Fo.ids, hk])
   ·exact reptop_insFirst hf h4 n4 hi.2.2 has hai fun x hx hk => hd x hx (by simp [Fo.ids, hk])
def sibT (x : Nat) : Fo → Nat
 | .nil => 0
 | .nd j u k n => if x ∈ k.ids then sib x 0 k else sibT x n
theorem sibT_mem (x : Nat) : ∀ (F : Fo), sibT x F = 0 ∨ sibT x F ∈ F.ids
 | .nil => Or.inl rfl
 | .nd j u k n => by
  unfold sibT
  split
  ·rcases sib_mem x k 0 with h | h | h
   ·exact Or.inl h
   ·exact Or.inl h
   ·exact Or.inr (by simp [Fo.ids, h])
  ·rcases sibT_mem x n with h | h
   ·exact Or.inl h
   ·exact Or.inr (by simp [Fo.ids, h])
theorem reptop_del {h : Nat → Nd} {x : Nat} : ∀ {F : Fo}, RepTop h F → F.ids.Nodup → x ∈ F.ids → x ∉ F.tops → RepTop (detachH h x (sibT x F)) (del x F)
 | .nil, _, _, hx, _ => by simp [Fo.ids] at hx
 | .nd j u k n, hR, hn, hx, ht => by
  have hx0 : x ≠ 0 := hR.ne0 x hx
  obtain ⟨h1, h2, h3, h4⟩ := hR
  obtain ⟨n1, n2, n3, n4, n5⟩ := nodup_nd hn
  simp only [Fo.ids, Fo.tops, List.mem_cons, List.mem_append, not_or] at hx ht
  have e : j ≠ x := fun e => ht.1 e.symm
  unfold sibT del
  rw [if_neg e]
  by_cases hk : x ∈ k.ids
  ·rw [if_pos hk]
   have z3 : (0 : Nat) ∉ k.ids := fun h0 => h3.ne0 0 h0 rfl
   have hxup : (h x).up ≠ x := up_ne h3 n3 hk n1
   have ih := rep_del (p := 0) h3 n3 hk n1 z3
   have hnx : x ∉ n.ids := n5 x hk
   have hsx := sib_ne (p := 0) hx0 n3 hk (fun e => hx0 e.symm)
   have hsm : sib x 0 k ≠ 0 → sib x 0 k ∈ k.ids := fun hs => by
    rcases sib_mem x k 0 with h' | h' | h'
    ·exact absurd h' hs
    ·exact absurd h' hs
    ·exact h'
   rw [del_id x hnx]
   refine ⟨h1, ?_, ih, ?_⟩
   ·by_cases hh : k.hd = x
    ·have hs : sib x 0 k = 0 := sib_hd hh hx0
     obtain ⟨d1, d2⟩ := del_hd_self h3 hh hx0
     rw [hs, detachH_zero h x e, d2, if_pos rfl, d1, h2]
    ·rw [del_hd x k hh]
     by_cases hs : sib x 0 k = 0
     ·have hq := sib_zero (p := 0) h3 n3 hk hs (Or.inr hh)
      rw [hs, detachH_zero h x e, if_neg (fun (e2 : j = (h x).up) => n1 (e2 ▸ hq)), h2]
     ·rw [detachH_pos h x _ hs e, if_neg (fun (e2 : j = sib x 0 k) => n1 (e2 ▸ hsm hs)), h2]
   ·refine h4.ext fun y hy => ?_
    have hyx : y ≠ x := fun e2 => hnx (e2 ▸ hy)
    by_cases hs : sib x 0 k = 0
    ·rw [hs, detachH_zero h x hyx, if_neg]
     intro e2
     rcases rep_up h3 n3 hk with e3 | e3
     ·exact n2 (e3 ▸ e2 ▸ hy)
     ·exact n5 _ e3 (e2 ▸ hy)
    ·rw [detachH_pos h x _ hs hyx, if_neg (fun (e2 : y = sib x 0 k) => n5 _ (hsm hs) (e2 ▸ hy))]
  ·rw [if_neg hk]
   have hxn : x ∈ n.ids := by
    rcases hx with g | g | g
    ·exact absurd g.symm e
    ·exact absurd g hk
    ·exact g
   have ih := reptop_del h4 n4 hxn ht.2
   obtain ⟨u1, u2⟩ := reptop_up h4 n4 hxn ht.2
   have hsm : sibT x n ≠ 0 → sibT x n ∈ n.ids := fun hs => by
    rcases sibT_mem x n with h' | h'
    ·exact absurd h' hs
    ·exact h'
   rw [del_id x hk]
   refine ⟨h1, ?_, ?_, ih⟩
   ·by_cases hs : sibT x n = 0
    ·rw [hs, detachH_zero h x e, if_neg (fun (e2 : j = (h x).up) => n2 (e2 ▸ u1)), h2]
    ·rw [detachH_pos h x _ hs e, if_neg (fun (e2 : j = sibT x n) => n2 (e2 ▸ hsm hs)), h2]
   ·refine h3.ext fun y hy => ?_
    have hyx : y ≠ x := fun e2 => hk (e2 ▸ hy)
    by_cases hs : sibT x n = 0
    ·rw [hs, detachH_zero h x hyx, if_neg (fun (e2 : y = (h x).up) => n5 _ hy (e2 ▸ u1))]
    ·rw [detachH_pos h x _ hs hyx, if_neg (fun (e2 : y = sibT x n) => n5 _ hy (e2 ▸ hsm hs))]
theorem free_detach {h : Nat → Nd} {x a : Nat} : ∀ {F : Fo} {up : Nat}, Rep h up F → F.ids.Nodup → x ∈ F.ids → a ∉ (sub x F).ids → (h x).up ∉ (sub x F).ids → Free (detachH h x a) x (h x).t (sub x F)
 | .nil, _, _, _, hx, _, _ => by simp [Fo.ids] at hx
 | .nd j u k n, up, ⟨h1, h2, h3, h4⟩, hn, hx, ha, hu => by
  obtain ⟨n1, n2, n3, n4, n5⟩ := nodup_nd hn
  unfold sub at ha hu ⊢
  by_cases e : j = x
  ·subst e
   rw [if_pos rfl] at ha hu ⊢
   refine ⟨h1, by rw [detachH_self], by rw [detachH_self, h2], h3.ext fun y hy => ?_, n1⟩
   have hyj : y ≠ j := fun e => n1 (e ▸ hy)
   by_cases ha0 : a = 0
   ·subst ha0; rw [detachH_zero h j hyj, if_neg (fun (e : y = (h j).up) => hu (e ▸ hy))]
   ·rw [detachH_pos h j a ha0 hyj, if_neg (fun (e : y = a) => ha (e ▸ hy))]
  ·rw [if_neg e] at ha hu ⊢
   by_cases hk : x ∈ k.ids
   ·rw [if_pos hk] at ha hu ⊢
    exact free_detach h3 n3 hk ha hu
   ·rw [if_neg hk] at ha hu ⊢
    simp only [Fo.ids, List.mem_cons, List.mem_append] at hx
    exact free_detach h4 n4 (by rcases hx with g | g | g; exact absurd g.symm e; exact absurd g hk; exact g) ha hu
def dpth : Fo → Nat
 | .nil => 0
 | .nd _ _ k .nil => dpth k + 1
 | .nd _ _ _ (.nd i t k n) => dpth (.nd i t k n)
def sp : Nat → Fo → Nat
 | _, .nil => 0
 | 0, .nd i _ _ .nil => i
 | e + 1, .nd _ _ k .nil => sp e k
 | e, .nd _ _ _ (.nd i t k n) => sp e (.nd i t k n)
def snoc (i : Nat) (t : ByteArray) : Nat → Fo → Fo
 | _, .nil => .nd i t .nil .nil
 | 0, .nd j u k .nil => .nd j u k (.nd i t .nil .nil)
 | e + 1, .nd j u k .nil => .nd j u (snoc i t e k) .nil
 | e, .nd j u k (.nd j2 u2 k2 n2) => .nd j u k (snoc i t e (.nd j2 u2 k2 n2))
theorem snoc_ne (i : Nat) (t : ByteArray) : ∀ (e : Nat) (G : Fo), ∃ j u k n, snoc i t e G = .nd j u k n
 | e, .nil => ⟨_, _, _, _, by unfold snoc; rfl⟩
 | 0, .nd j u k .nil => ⟨_, _, _, _, by unfold snoc; rfl⟩
 | e + 1, .nd j u k .nil => ⟨_, _, _, _, by unfold snoc; rfl⟩
 | e, .nd j u k (.nd j2 u2 k2 n2) => ⟨_, _, _, _, by unfold snoc; rfl⟩
theorem snoc_fl (i : Nat) (t : ByteArray) : ∀ (G : Fo) (e d : Nat), e ≤ dpth G → (snoc i t e G).fl d = G.fl d ++ [⟨(i : Int), ((d + e : Nat) : Int), t⟩]
 | .nil, e, d, h => by
  have : e = 0 := by simpa [dpth] using h
  subst this
  simp [snoc, Fo.fl]
 | .nd j u k .nil, 0, d, h => by simp [snoc, Fo.fl]
 | .nd j u k .nil, e + 1, d, h => by
  have := snoc_fl i t k e (d + 1) (by simp only [dpth] at h; omega)
  simp only [snoc, Fo.fl, this]
  rw [show d + 1 + e = d + (e + 1) by omega]
  simp
 | .nd j u k (.nd j2 u2 k2 n2), e, d, h => by
  have := snoc_fl i t (.nd j2 u2 k2 n2) e d h
  have e1 : snoc i t e (.nd j u k (.nd j2 u2 k2 n2)) = .nd j u k (snoc i t e (.nd j2 u2 k2 n2)) := by cases e <;> rfl
  rw [e1]
  simp only [Fo.fl] at this ⊢
  rw [this]
  simp
theorem snoc_ids (i : Nat) (t : ByteArray) : ∀ (G : Fo) (e : Nat), (snoc i t e G).ids = G.ids ++ [i]
 | .nil, e => by simp [snoc, Fo.ids]
 | .nd j u k .nil, 0 => by simp [snoc, Fo.ids]
 | .nd j u k .nil, e + 1 => by simp [snoc, Fo.ids, snoc_ids i t k e]
 | .nd j u k (.nd j2 u2 k2 n2), e => by
  have e1 : snoc i t e (.nd j u k (.nd j2 u2 k2 n2)) = .nd j u k (snoc i t e (.nd j2 u2 k2 n2)) := by cases e <;> rfl
  rw [e1]
  show j :: (k.ids ++ (snoc i t e (.nd j2 u2 k2 n2)).ids) = _
  rw [snoc_ids i t (.nd j2 u2 k2 n2) e]
  simp [Fo.ids]
theorem snoc_tops (i : Nat) (t : ByteArray) : ∀ (G : Fo) (e : Nat), e ≤ dpth G → (snoc i t e G).tops = if e = 0 then G.tops ++ [i] else G.tops
 | .nil, e, h => by
  have : e = 0 := by simpa [dpth] using h
  subst this
  simp [snoc, Fo.tops]
 | .nd j u k .nil, 0, _ => by simp [snoc, Fo.tops]
 | .nd j u k .nil, e + 1, _ => by simp [snoc, Fo.tops]
 | .nd j u k (.nd j2 u2 k2 n2), e, h => by
  have e1 : snoc i t e (.nd j u k (.nd j2 u2 k2 n2)) = .nd j u k (snoc i t e (.nd j2 u2 k2 n2)) := by cases e <;> rfl
  rw [e1]
  show j :: (snoc i t e (.nd j2 u2 k2 n2)).tops = _
  rw [snoc_tops i t (.nd j2 u2 k2 n2) e h]
  by_cases he : e = 0 <;> simp [he, Fo.tops]
theorem dpth_nd {j : Nat} {u : ByteArray} {k n : Fo} (h : ∃ a b c d, n = .nd a b c d) : dpth (.nd j u k n) = dpth n := by
 obtain ⟨a, b, c, d, rfl⟩ := h
 rfl
theorem sp_nd {e j : Nat} {u : ByteArray} {k n : Fo} (h : ∃ a b c d, n = .nd a b c d) : sp e (.nd j u k n) = sp e n := by
 obtain ⟨a, b, c, d, rfl⟩ := h
 cases e <;> rfl
theorem snoc_dpth (i : Nat) (t : ByteArray) : ∀ (G : Fo) (e : Nat), e ≤ dpth G → dpth (snoc i t e G) = e + 1
 | .nil, e, h => by
  have : e = 0 := by simpa [dpth] using h
  subst this
  rfl
 | .nd j u k .nil, 0, _ => rfl
 | .nd j u k .nil, e + 1, h => by
  show dpth (.nd j u (snoc i t e k) .nil) = _
  show dpth (snoc i t e k) + 1 = _
  rw [snoc_dpth i t k e (by simp only [dpth] at h; omega)]
 | .nd j u k (.nd j2 u2 k2 n2), e, h => by
  have e1 : snoc i t e (.nd j u k (.nd j2 u2 k2 n2)) = .nd j u k (snoc i t e (.nd j2 u2 k2 n2)) := by cases e <;> rfl
  rw [e1, dpth_nd (snoc_ne i t e _)]
  exact snoc_dpth i t (.nd j2 u2 k2 n2) e h
theorem snoc_sp (i : Nat) (t : ByteArray) : ∀ (G : Fo) (e : Nat), e ≤ dpth G → sp e (snoc i t e G) = i ∧ ∀ d, d < e → sp d (snoc i t e G) = sp d G
 | .nil, e, h => by
  have : e = 0 := by simpa [dpth] using h
  subst this
  exact ⟨rfl, fun d hd => by omega⟩
 | .nd j u k .nil, 0, _ => ⟨rfl, fun d hd => by omega⟩
 | .nd j u k .nil, e + 1, h => by
  obtain ⟨h1, h2⟩ := snoc_sp i t k e (by simp only [dpth] at h; omega)
  refine ⟨h1, fun d hd => ?_⟩
  cases d with
  | zero => rfl
  | succ d => exact h2 d (by omega)
 | .nd j u k (.nd j2 u2 k2 n2), e, h => by
  have e1 : snoc i t e (.nd j u k (.nd j2 u2 k2 n2)) = .nd j u k (snoc i t e (.nd j2 u2 k2 n2)) := by cases e <;> rfl
  obtain ⟨h1, h2⟩ := snoc_sp i t (.nd j2 u2 k2 n2) e h
  rw [e1]
  refine ⟨(sp_nd (snoc_ne i t e _)).trans h1, fun d hd => ?_⟩
  rw [sp_nd (snoc_ne i t e _), h2 d hd]
  exact (sp_nd ⟨_, _, _, _, rfl⟩).symm
theorem sp_mem : ∀ (G : Fo) (e : Nat), e < dpth G → sp e G ∈ G.ids
 | .nil, e, h => by simp [dpth] at h
 | .nd j u k .nil, 0, _ => by simp [sp, Fo.ids]
 | .nd j u k .nil, e + 1, h => by
  have := sp_mem k e (by simp only [dpth] at h; omega)
  show sp e k ∈ _
  simp [Fo.ids, this]
 | .nd j u k (.nd j2 u2 k2 n2), e, h => by
  have := sp_mem (.nd j2 u2 k2 n2) e h
  rw [sp_nd ⟨_, _, _, _, rfl⟩]
  show _ ∈ j :: (k.ids ++ (Fo.nd j2 u2 k2 n2).ids)
  simp only [List.mem_cons, List.mem_append]
  exact Or.inr (Or.inr this)
theorem rep_sp {h : Nat → Nd} : ∀ (G : Fo) {up : Nat} (e : Nat), Rep h up G → e < dpth G → (h (sp e G)).up = if e = 0 then up else sp (e - 1) G
 | .nil, up, e, _, hl => by simp [dpth] at hl
 | .nd j u k .nil, up, 0, ⟨h1, h2, h3, h4⟩, _ => by show (h j).up = _; rw [h2]; rfl
 | .nd j u k .nil, up, e + 1, ⟨h1, h2, h3, h4⟩, hl => by
  have := rep_sp k e h3 (by simp only [dpth] at hl; omega)
  show (h (sp e k)).up = _
  rw [this, if_neg (by omega : ¬ e + 1 = 0)]
  cases e with
  | zero => rfl
  | succ e => rfl
 | .nd j u k (.nd j2 u2 k2 n2), up, e, ⟨h1, h2, h3, h4⟩, hl => by
  have := rep_sp (.nd j2 u2 k2 n2) e h4 hl
  rw [sp_nd ⟨_, _, _, _, rfl⟩, sp_nd ⟨_, _, _, _, rfl⟩]
  exact this
theorem reptop_sp {h : Nat → Nd} : ∀ (G : Fo) (e : Nat), RepTop h G → e + 1 < dpth G → (h (sp (e + 1) G)).up = sp e G
 | .nil, e, _, hl => by simp [dpth] at hl
 | .nd j u k .nil, e, ⟨h1, h2, h3, h4⟩, hl => by
  have := rep_sp k e h3 (by simp only [dpth] at hl; omega)
  show (h (sp e k)).up = _
  rw [this]
  cases e with
  | zero => rfl
  | succ e => rfl
 | .nd j u k (.nd j2 u2 k2 n2), e, ⟨h1, h2, h3, h4⟩, hl => by
  have := reptop_sp (.nd j2 u2 k2 n2) e h4 hl
  rw [sp_nd ⟨_, _, _, _, rfl⟩, sp_nd ⟨_, _, _, _, rfl⟩]
  exact this
theorem sp_not_top : ∀ (G : Fo) (e : Nat), G.ids.Nodup → e + 1 < dpth G → sp (e + 1) G ∉ G.tops
 | .nil, e, _, hl => by simp [dpth] at hl
 | .nd j u k .nil, e, hn, hl => by
  obtain ⟨n1, n2, n3, n4, n5⟩ := nodup_nd hn
  have hm := sp_mem k e (by simp only [dpth] at hl; omega)
  show sp e k ∉ [j]
  intro hc
  rw [List.mem_singleton.1 hc] at hm
  exact n1 hm
 | .nd j u k (.nd j2 u2 k2 n2), e, hn, hl => by
  obtain ⟨n1, m2, n3, n4, n5⟩ := nodup_nd hn
  have := sp_not_top (.nd j2 u2 k2 n2) e n4 hl
  have hm := sp_mem (.nd j2 u2 k2 n2) (e + 1) hl
  rw [sp_nd ⟨_, _, _, _, rfl⟩]
  intro hc
  rcases List.mem_cons.1 hc with hc | hc
  ·rw [hc] at hm; exact m2 hm
  ·exact this hc
theorem snoc_after (i : Nat) (t : ByteArray) : ∀ (G : Fo) (e : Nat), G.ids.Nodup → e < dpth G → snoc i t e G = insAfter (sp e G) i t .nil G
 | .nil, e, _, hl => by simp [dpth] at hl
 | .nd j u k .nil, 0, hn, _ => by
  show Fo.nd j u k (.nd i t .nil .nil) = insAfter j i t .nil (.nd j u k .nil)
  unfold insAfter
  rw [if_pos rfl]
 | .nd j u k .nil, e + 1, hn, hl => by
  obtain ⟨n1, n2, n3, n4, n5⟩ := nodup_nd hn
  have hl' : e < dpth k := by simp only [dpth] at hl; omega
  have hm := sp_mem k e hl'
  show Fo.nd j u (snoc i t e k) .nil = insAfter (sp e k) i t .nil (.nd j u k .nil)
  unfold insAfter
  rw [if_neg (fun (e2 : j = sp e k) => n1 (e2 ▸ hm)), snoc_after i t k e n3 hl']
  rfl
 | .nd j u k (.nd j2 u2 k2 n2), e, hn, hl => by
  obtain ⟨n1, n2', n3, n4, n5⟩ := nodup_nd hn
  have e1 : snoc i t e (.nd j u k (.nd j2 u2 k2 n2)) = .nd j u k (snoc i t e (.nd j2 u2 k2 n2)) := by cases e <;> rfl
  have hm := sp_mem (.nd j2 u2 k2 n2) e hl
  have e2 : sp e (.nd j u k (.nd j2 u2 k2 n2)) = sp e (.nd j2 u2 k2 n2) := sp_nd ⟨_, _, _, _, rfl⟩
  rw [e1, e2, snoc_after i t _ e n4 hl]
  have e3 : insAfter (sp e (.nd j2 u2 k2 n2)) i t .nil (.nd j u k (.nd j2 u2 k2 n2)) = .nd j u (insAfter (sp e (.nd j2 u2 k2 n2)) i t .nil k) (insAfter (sp e (.nd j2 u2 k2 n2)) i t .nil (.nd j2 u2 k2 n2)) := by
   conv => lhs; unfold insAfter
   rw [if_neg (fun (e2 : j = sp e (.nd j2 u2 k2 n2)) => n2' (e2 ▸ hm))]
  rw [e3, insAfter_id _ i t .nil (fun hk => n5 _ hk hm)]
theorem snoc_first (i : Nat) (t : ByteArray) : ∀ (G : Fo) (e : Nat), G.ids.Nodup → dpth G = e + 1 → snoc i t (e + 1) G = insFirst (sp e G) i t .nil G
 | .nil, e, _, hl => by simp [dpth] at hl
 | .nd j u k .nil, 0, hn, hl => by
  have : dpth k = 0 := by simp only [dpth] at hl; omega
  have hk : k = .nil := by
   cases k with
   | nil => rfl
   | nd a b c d =>
    exfalso
    have : ∀ (F : Fo), dpth F = 0 → F = .nil := by
     intro F
     induction F with
     | nil => intro _; rfl
     | nd a b c d _ ihd =>
      intro h0
      cases d with
      | nil => simp [dpth] at h0
      | nd a2 b2 c2 d2 =>
       have := ihd (by simpa [dpth] using h0)
       cases this
    have h3 := this _ ‹dpth (Fo.nd a b c d) = 0›
    cases h3
  subst hk
  show Fo.nd j u (.nd i t .nil .nil) .nil = insFirst j i t .nil (.nd j u .nil .nil)
  unfold insFirst
  rw [if_pos rfl]
 | .nd j u k .nil, e + 1, hn, hl => by
  obtain ⟨n1, n2, n3, n4, n5⟩ := nodup_nd hn
  have hl' : dpth k = e + 1 := by simp only [dpth] at hl; omega
  have hm := sp_mem k e (by omega)
  show Fo.nd j u (snoc i t (e + 1) k) .nil = insFirst (sp e k) i t .nil (.nd j u k .nil)
  unfold insFirst
  rw [if_neg (fun (e2 : j = sp e k) => n1 (e2 ▸ hm)), snoc_first i t k e n3 hl']
  rfl
 | .nd j u k (.nd j2 u2 k2 n2), e, hn, hl => by
  obtain ⟨n1, n2', n3, n4, n5⟩ := nodup_nd hn
  have e1 : snoc i t (e + 1) (.nd j u k (.nd j2 u2 k2 n2)) = .nd j u k (snoc i t (e + 1) (.nd j2 u2 k2 n2)) := rfl
  have hl' : dpth (.nd j2 u2 k2 n2) = e + 1 := hl
  have hm := sp_mem (.nd j2 u2 k2 n2) e (by omega)
  have e2 : sp e (.nd j u k (.nd j2 u2 k2 n2)) = sp e (.nd j2 u2 k2 n2) := sp_nd ⟨_, _, _, _, rfl⟩
  rw [e1, e2, snoc_first i t _ e n4 hl']
  have e3 : insFirst (sp e (.nd j2 u2 k2 n2)) i t .nil (.nd j u k (.nd j2 u2 k2 n2)) = .nd j u (insFirst (sp e (.nd j2 u2 k2 n2)) i t .nil k) (insFirst (sp e (.nd j2 u2 k2 n2)) i t .nil (.nd j2 u2 k2 n2)) := by
   conv => lhs; unfold insFirst
   rw [if_neg (fun (e2 : j = sp e (.nd j2 u2 k2 n2)) => n2' (e2 ▸ hm))]
  rw [e3, insFirst_id _ i t .nil (fun hk => n5 _ hk hm)]
theorem reptop_snoc0 {h : Nat → Nd} {i : Nat} {t : ByteArray} (h0 : i ≠ 0) (hi : h i = ⟨t, 0, 0, 0⟩) : ∀ (G : Fo), RepTop h G → RepTop h (snoc i t 0 G)
 | .nil, _ => ⟨h0, hi, trivial, trivial⟩
 | .nd j u k .nil, ⟨h1, h2, h3, h4⟩ => ⟨h1, h2, h3, h0, hi, trivial, trivial⟩
 | .nd j u k (.nd j2 u2 k2 n2), ⟨h1, h2, h3, h4⟩ => ⟨h1, h2, h3, reptop_snoc0 h0 hi _ h4⟩
end Go.Proofs.YtlkheeegkifblaaDoor.FP
namespace Go.Proofs.YtlkheeegkifblaaDoor.P
open Go.RowKit Go.Proofs.YtlkheeegkifblaaDoorW.PrintWords Go.Proofs.YtlkheeegkifblaaDoorW.PrintLast Go.Proofs.YtlkheeegkifblaaDoorW.PrintMore Go.Proofs.YtlkheeegkifblaaDoor.FP
def pa (o : Option Nat) : Option Addr := o.map fun b => ⟨b, 0, none⟩
theorem pa_none : pa none = none := rfl
theorem pa_some (b : Nat) : pa (some b) = some ⟨b, 0, none⟩ := rfl
theorem pa_inj {o o' : Option Nat} (h : pa o = pa o') : o = o' := by
 cases o <;> cases o' <;> simp [pa] at h ⊢
 exact h
def nodeC (A : Nat → Option Nat) (i : Nat) (x : Nd) : Array Value := #[.int .i64 (i : Int), .string x.t, .pointer (pa (A x.up)), .pointer (pa (A x.first)), .pointer (pa (A x.next))]
def tabC (A : Nat → Option Nat) : Array Value := ((List.range 37).map fun i => Value.pointer (pa (A i))).toArray
structure Mem (w : World) (n0 F : Nat) (A : Nat → Option Nat) (h : Nat → Nd) : Prop where
 z : A 0 = none
 rng : ∀ i b, A i = some b → i < 37
 inj : ∀ i j b, A i = some b → A j = some b → i = j
 ne : ∀ i b, A i = some b → b ≠ F
 lo : ∀ i b, A i = some b → n0 ≤ b
 loF : n0 ≤ F
 tab : w.heap[F]? = some (.cells (tabC A) 110 (0, 0))
 nod : ∀ i b, A i = some b → w.heap[b]? = some (.cells (nodeC A i (h i)) 85 (0, 0))
 cu : ∀ i, A i ≠ none → (h i).up = 0 ∨ A (h i).up ≠ none
 cf : ∀ i, A i ≠ none → (h i).first = 0 ∨ A (h i).first ≠ none
 cn : ∀ i, A i ≠ none → (h i).next = 0 ∨ A (h i).next ≠ none
theorem Mem.kept {w w' : World} {n0 F : Nat} {A : Nat → Option Nat} {h : Nat → Nd} (m : Mem w n0 F A h) (hk : ∀ b, b < w.heap.size → w'.heap[b]? = w.heap[b]?) : Mem w' n0 F A h :=
 { m with tab := (hk F (blk_lt m.tab)).trans m.tab, nod := fun i b e => (hk b (blk_lt (m.nod i b e))).trans (m.nod i b e) }
theorem Mem.below {w w' : World} {n0 F : Nat} {A : Nat → Option Nat} {h : Nat → Nd} (m : Mem w n0 F A h) (hb : Below w.heap.size w w') : Mem w' n0 F A h := m.kept fun b hl => hb.block b hl
theorem Mem.alloc {w : World} {n0 F : Nat} {A : Nat → Option Nat} {h : Nat → Nd} (m : Mem w n0 F A h) (o : Obj) : Mem (w.alloc o) n0 F A h := m.kept fun b hl => Below.heap_alloc w o b hl
theorem Mem.drew {w : World} {n0 F : Nat} {A : Nat → Option Nat} {h : Nat → Nd} (m : Mem w n0 F A h) : Mem w.drew n0 F A h := m.kept fun _ _ => rfl
theorem Mem.drewN {w : World} {n0 F : Nat} {A : Nat → Option Nat} {h : Nat → Nd} (m : Mem w n0 F A h) (n : Nat) : Mem (w.drewN n) n0 F A h := m.kept fun _ _ => rfl
theorem Mem.lt {w : World} {n0 F : Nat} {A : Nat → Option Nat} {h : Nat → Nd} (m : Mem w n0 F A h) {i b : Nat} (e : A i = some b) : b < w.heap.size := blk_lt (m.nod i b e)
theorem Mem.ltF {w : World} {n0 F : Nat} {A : Nat → Option Nat} {h : Nat → Nd} (m : Mem w n0 F A h) : F < w.heap.size := blk_lt m.tab
theorem Mem.c0 {w : World} {n0 F : Nat} {A : Nat → Option Nat} {h : Nat → Nd} (m : Mem w n0 F A h) {i b : Nat} (e : A i = some b) : w.cell? ⟨b, 0, none⟩ = some (.int .i64 (i : Int)) := (blk_cell (m.nod i b e) 0).trans rfl
theorem Mem.c1 {w : World} {n0 F : Nat} {A : Nat → Option Nat} {h : Nat → Nd} (m : Mem w n0 F A h) {i b : Nat} (e : A i = some b) : w.cell? ⟨b, 1, none⟩ = some (.string (h i).t) := (blk_cell (m.nod i b e) 1).trans rfl
theorem Mem.c2 {w : World} {n0 F : Nat} {A : Nat → Option Nat} {h : Nat → Nd} (m : Mem w n0 F A h) {i b : Nat} (e : A i = some b) : w.cell? ⟨b, 2, none⟩ = some (.pointer (pa (A (h i).up))) := (blk_cell (m.nod i b e) 2).trans rfl
theorem Mem.c3 {w : World} {n0 F : Nat} {A : Nat → Option Nat} {h : Nat → Nd} (m : Mem w n0 F A h) {i b : Nat} (e : A i = some b) : w.cell? ⟨b, 3, none⟩ = some (.pointer (pa (A (h i).first))) := (blk_cell (m.nod i b e) 3).trans rfl
theorem Mem.c4 {w : World} {n0 F : Nat} {A : Nat → Option Nat} {h : Nat → Nd} (m : Mem w n0 F A h) {i b : Nat} (e : A i = some b) : w.cell? ⟨b, 4, none⟩ = some (.pointer (pa (A (h i).next))) := (blk_cell (m.nod i b e) 4).trans rfl
theorem Mem.fz {w : World} {n0 F : Nat} {A : Nat → Option Nat} {h : Nat → Nd} (m : Mem w n0 F A h) {i b : Nat} (e : A i = some b) (j : Nat) : w.frozen? ⟨b, j, none⟩ = false := blk_frozen (m.nod i b e) j
theorem Mem.fzF {w : World} {n0 F : Nat} {A : Nat → Option Nat} {h : Nat → Nd} (m : Mem w n0 F A h) (j : Nat) : w.frozen? ⟨F, j, none⟩ = false := blk_frozen m.tab j
theorem tabC_get (A : Nat → Option Nat) (i : Nat) (hi : i < 37) : (tabC A)[i]? = some (.pointer (pa (A i))) := by
 simp [tabC, hi]
theorem Mem.cF {w : World} {n0 F : Nat} {A : Nat → Option Nat} {h : Nat → Nd} (m : Mem w n0 F A h) (i : Nat) (hi : i < 37) : w.cell? ⟨F, i, none⟩ = some (.pointer (pa (A i))) := (blk_cell m.tab i).trans (tabC_get A i hi)
theorem Mem.eqv {w : World} {n0 F : Nat} {A : Nat → Option Nat} {h : Nat → Nd} (m : Mem w n0 F A h) {i j : Nat} (hi : i = 0 ∨ A i ≠ none) (hj : j = 0 ∨ A j ≠ none) : pa (A i) = pa (A j) ↔ i = j := by
 constructor
 ·intro e
  have e := pa_inj e
  rcases hi with rfl | hi
  ·rcases hj with rfl | hj
   ·rfl
   ·rw [m.z] at e; exact absurd e.symm hj
  ·obtain ⟨b, hb⟩ := Option.ne_none_iff_exists'.1 hi
   exact m.inj i j b hb (e ▸ hb)
 ·intro e; rw [e]
def upN (h : Nat → Nd) (i : Nat) (x : Nd) : Nat → Nd := fun j => if j = i then x else h j
theorem Mem.set {w : World} {n0 F : Nat} {A : Nat → Option Nat} {h : Nat → Nd} (m : Mem w n0 F A h) {i b : Nat} (e : A i = some b) (k : Nat) (v : Value) (x : Nd) (hx : (nodeC A i (h i)).setIfInBounds k v = nodeC A i x)
  (xu : x.up = 0 ∨ A x.up ≠ none) (xf : x.first = 0 ∨ A x.first ≠ none) (xn : x.next = 0 ∨ A x.next ≠ none) : Mem (w.setCell ⟨b, k, none⟩ v) n0 F A (upN h i x) where
 z := m.z
 rng := m.rng
 inj := m.inj
 ne := m.ne
 lo := m.lo
 loF := m.loF
 tab := blk_far m.tab (fun e2 => m.ne i b e e2.symm) v
 nod := fun j c ec => by
  unfold upN
  by_cases hj : j = i
  ·subst hj
   obtain rfl : c = b := by rw [e] at ec; exact (Option.some.inj ec).symm
   rw [if_pos rfl, ← hx]
   exact blk_set (m.nod j c e) k v
  ·rw [if_neg hj]
   exact blk_far (m.nod j c ec) (fun (e2 : c = b) => hj (m.inj j i c ec (e2 ▸ e))) v
 cu := fun j hj => by unfold upN; split; exact xu; exact m.cu j hj
 cf := fun j hj => by unfold upN; split; exact xf; exact m.cf j hj
 cn := fun j hj => by unfold upN; split; exact xn; exact m.cn j hj
theorem Mem.ext {w : World} {n0 F : Nat} {A : Nat → Option Nat} {h h' : Nat → Nd} (m : Mem w n0 F A h) (e : ∀ j, h j = h' j) : Mem w n0 F A h' := (funext e : h = h') ▸ m
def upA (A : Nat → Option Nat) (i b : Nat) : Nat → Option Nat := fun j => if j = i then some b else A j
theorem tabC_up (A : Nat → Option Nat) (i b : Nat) (hi : i < 37) : (tabC A).setIfInBounds i (.pointer (some ⟨b, 0, none⟩)) = tabC (upA A i b) := by
 unfold tabC
 rw [List.setIfInBounds_toArray]
 congr 1
 apply List.ext_getElem (by simp)
 intro k h1 h2
 simp only [List.getElem_set, List.getElem_map, List.getElem_range, upA]
 by_cases hk : i = k
 ·rw [if_pos hk, if_pos hk.symm]; rfl
 ·rw [if_neg hk, if_neg (fun e => hk e.symm)]
theorem Mem.add {w : World} {n0 F : Nat} {A : Nat → Option Nat} {h : Nat → Nd} (m : Mem w n0 F A h) {i : Nat} (h0 : i ≠ 0) (hi : i < 37) (hA : A i = none) (hne : ∀ j, A j ≠ none → (h j).up ≠ i ∧ (h j).first ≠ i ∧ (h j).next ≠ i) {b : Nat} {t : ByteArray} (hb : ∀ j, A j ≠ some b) (hbF : b ≠ F) (hlo : n0 ≤ b)
  (hnew : w.heap[b]? = some (.cells #[.int .i64 (i : Int), .string t, .pointer none, .pointer none, .pointer none] 85 (0, 0))) :
  Mem (w.setCell ⟨F, i, none⟩ (.pointer (some ⟨b, 0, none⟩))) n0 F (upA A i b) (upN h i ⟨t, 0, 0, 0⟩) where
 z := by unfold upA; rw [if_neg (fun e => h0 e.symm)]; exact m.z
 rng := fun j c e => by
  unfold upA at e
  by_cases hj : j = i
  ·rw [hj]; exact hi
  ·rw [if_neg hj] at e; exact m.rng j c e
 inj := fun j k c ej ek => by
  unfold upA at ej ek
  by_cases hj : j = i
  ·by_cases hk : k = i
   ·rw [hj, hk]
   ·rw [if_pos hj] at ej; rw [if_neg hk] at ek
    exact absurd (ek.trans ej.symm) (hb k)
  ·by_cases hk : k = i
   ·rw [if_neg hj] at ej; rw [if_pos hk] at ek
    exact absurd (ej.trans ek.symm) (hb j)
   ·rw [if_neg hj] at ej; rw [if_neg hk] at ek
    exact m.inj j k c ej ek
 ne := fun j c e => by
  unfold upA at e
  by_cases hj : j = i
  ·rw [if_pos hj] at e; rw [← Option.some.inj e]; exact hbF
  ·rw [if_neg hj] at e; exact m.ne j c e
 lo := fun j c e => by
  unfold upA at e
  by_cases hj : j = i
  ·rw [if_pos hj] at e; rw [← Option.some.inj e]; exact hlo
  ·rw [if_neg hj] at e; exact m.lo j c e
 loF := m.loF
 tab := by
  rw [← tabC_up A i b hi]
  exact blk_set m.tab i _
 nod := fun j c e => by
  have hF : ∀ {c : Nat} {cs : Array Value} {t : TypeId}, c ≠ F → w.heap[c]? = some (.cells cs t (0, 0)) → (w.setCell ⟨F, i, none⟩ (.pointer (some ⟨b, 0, none⟩))).heap[c]? = some (.cells cs t (0, 0)) := fun hc hh => blk_far hh (p := ⟨F, i, none⟩) hc _
  unfold upA at e
  by_cases hj : j = i
  ·rw [if_pos hj] at e
   obtain rfl := Option.some.inj e
   subst hj
   have : nodeC (upA A j b) j (upN h j ⟨t, 0, 0, 0⟩ j) = #[.int .i64 (j : Int), .string t, .pointer none, .pointer none, .pointer none] := by
    have h0' : ¬ (0 = j) := fun e => h0 e.symm
    simp [nodeC, upN, upA, h0', m.z, pa]
   rw [this]
   exact hF hbF hnew
  ·rw [if_neg hj] at e
   have hn := m.nod j c e
   have e2 : nodeC (upA A i b) j (upN h i ⟨t, 0, 0, 0⟩ j) = nodeC A j (h j) := by
    obtain ⟨n1, n2, n3⟩ := hne j (by rw [e]; simp)
    unfold nodeC upN upA
    rw [if_neg hj, if_neg n1, if_neg n2, if_neg n3]
   rw [e2]
   exact hF (m.ne j c e) hn
 cu := fun j hj => by
  unfold upN
  by_cases hji : j = i
  ·rw [if_pos hji]; exact Or.inl rfl
  ·rw [if_neg hji]
   have hj' : A j ≠ none := by unfold upA at hj; rw [if_neg hji] at hj; exact hj
   rcases m.cu j hj' with h1 | h1
   ·exact Or.inl h1
   ·right; unfold upA; split; simp; exact h1
 cf := fun j hj => by
  unfold upN
  by_cases hji : j = i
  ·rw [if_pos hji]; exact Or.inl rfl
  ·rw [if_neg hji]
   have hj' : A j ≠ none := by unfold upA at hj; rw [if_neg hji] at hj; exact hj
   rcases m.cf j hj' with h1 | h1
   ·exact Or.inl h1
   ·right; unfold upA; split; simp; exact h1
 cn := fun j hj => by
  unfold upN
  by_cases hji : j = i
  ·rw [if_pos hji]; exact Or.inl rfl
  ·rw [if_neg hji]
   have hj' : A j ≠ none := by unfold upA at hj; rw [if_neg hji] at hj; exact hj
   rcases m.cn j hj' with h1 | h1
   ·exact Or.inl h1
   ·right; unfold upA; split; simp; exact h1
theorem nodeSize : (Tryd.prog.info? 85).map (·.size) = some 5 := by kernel_rfl
theorem equalS (a : Addr) (w : World) : (Op.equal 70 (.pointer (some a)) (.pointer (some a))).run Tryd.prog w = .ok true w := by
 obtain ⟨j, hj, hjs⟩ := Option.map_eq_some_iff.1 nodeSize
 have h : ∀ d : Nat, (Op.equalIn (d + 1) 70 (.pointer (some a)) (.pointer (some a))).run Tryd.prog w = .ok true w := fun d => by
  simp [Op.equalIn, run_underlying Tryd.underlying70, sizeOf, typeInfo, hj, run_sameAddr_same]
 simp [Op.equal, Op.maxDepth, h 9999]
theorem equalO {a b : Addr} {ca cb : Array Value} {ta tb : TypeId} (w : World) (hne : a ≠ b) (ha : w.heap[a.block]? = some (.cells ca ta (0, 0))) (hb : w.heap[b.block]? = some (.cells cb tb (0, 0))) :
  (Op.equal 70 (.pointer (some a)) (.pointer (some b))).run Tryd.prog w = .ok false w := by
 obtain ⟨j, hj, hjs⟩ := Option.map_eq_some_iff.1 nodeSize
 have hsz : j.size ≠ 0 := by rw [hjs]; decide
 have h : ∀ d : Nat, (Op.equalIn (d + 1) 70 (.pointer (some a)) (.pointer (some b))).run Tryd.prog w = .ok false w := fun d => by
  simp [Op.equalIn, run_underlying Tryd.underlying70, sizeOf, typeInfo, hj, hsz, run_sameAddr_other w hne ha hb]
 simp [Op.equal, Op.maxDepth, h 9999]
theorem eqS (a : Addr) (w : World) : (binOp .eql 70 (.pointer (some a)) (.pointer (some a))).run Tryd.prog w = .ok (.bool true) w := by
 simp only [binOp]; simp [equalS]
theorem neS (a : Addr) (w : World) : (binOp .neq 70 (.pointer (some a)) (.pointer (some a))).run Tryd.prog w = .ok (.bool false) w := by
 simp only [binOp]; simp [equalS]
theorem eqO {a b : Addr} {ca cb : Array Value} {ta tb : TypeId} (w : World) (hne : a ≠ b) (ha : w.heap[a.block]? = some (.cells ca ta (0, 0))) (hb : w.heap[b.block]? = some (.cells cb tb (0, 0))) :
  (binOp .eql 70 (.pointer (some a)) (.pointer (some b))).run Tryd.prog w = .ok (.bool false) w := by
 simp only [binOp]; simp [equalO w hne ha hb]
theorem neO {a b : Addr} {ca cb : Array Value} {ta tb : TypeId} (w : World) (hne : a ≠ b) (ha : w.heap[a.block]? = some (.cells ca ta (0, 0))) (hb : w.heap[b.block]? = some (.cells cb tb (0, 0))) :
  (binOp .neq 70 (.pointer (some a)) (.pointer (some b))).run Tryd.prog w = .ok (.bool true) w := by
 simp only [binOp]; simp [equalO w hne ha hb]
theorem blk_ne {b c : Nat} (h : b ≠ c) : (⟨b, 0, none⟩ : Addr) ≠ ⟨c, 0, none⟩ := fun e => h (congrArg Addr.block e)
theorem Mem.eqn {w : World} {n0 F : Nat} {A : Nat → Option Nat} {h : Nat → Nd} (m : Mem w n0 F A h) {i j b c : Nat} (hi : A i = some b) (hj : A j = some c) (hne : i ≠ j) : (binOp .eql 70 (.pointer (some ⟨b, 0, none⟩)) (.pointer (some ⟨c, 0, none⟩))).run Tryd.prog w = .ok (.bool false) w :=
 eqO w (blk_ne fun e => hne (m.inj i j b hi (e ▸ hj))) (m.nod i b hi) (m.nod j c hj)
theorem Mem.nen {w : World} {n0 F : Nat} {A : Nat → Option Nat} {h : Nat → Nd} (m : Mem w n0 F A h) {i j b c : Nat} (hi : A i = some b) (hj : A j = some c) (hne : i ≠ j) : (binOp .neq 70 (.pointer (some ⟨b, 0, none⟩)) (.pointer (some ⟨c, 0, none⟩))).run Tryd.prog w = .ok (.bool true) w :=
 neO w (blk_ne fun e => hne (m.inj i j b hi (e ▸ hj))) (m.nod i b hi) (m.nod j c hj)
def findA (A : Nat → Option Nat) (id : Int) : Option Nat := if 0 ≤ id ∧ id < 37 then A id.toNat else none
theorem find_any {w : World} {n0 F : Nat} {A : Nat → Option Nat} {h : Nat → Nd} (m : Mem w n0 F A h) (id : Int) :
  Calls Tryd.prog 61 #[.pointer (some ⟨F, 0, none⟩), .int .i64 id] w fun e w' => e = .returned (.pointer (pa (findA A id))) ∧ w' = w := by
 unfold findA
 by_cases h0 : id < 0
 ·rw [if_neg (by omega)]
  have hd : decide (id < 0) = true := decide_eq_true h0
  go_enter Tryd.func61, Tryd.ntmps61
  go_wp2
  go_ret
  exact ⟨rfl, rfl⟩
 ·by_cases h1 : 37 ≤ id
  ·rw [if_neg (by omega)]
   have hd : decide (id < 0) = false := decide_eq_false h0
   have hd1 : decide (37 ≤ id) = true := decide_eq_true h1
   go_enter Tryd.func61, Tryd.ntmps61
   go_wp2
   go_ret
   exact ⟨rfl, rfl⟩
  ·rw [if_pos (by omega)]
   obtain ⟨i, rfl⟩ := Int.eq_ofNat_of_zero_le (show 0 ≤ id by omega)
   have hd : decide ((i : Int) < 0) = false := decide_eq_false h0
   have hd1 : decide (37 ≤ (i : Int)) = false := decide_eq_false h1
   have hc := m.cF i (by omega)
   have hi : (i : Int) < 37 := by omega
   have hi0 : 0 ≤ (i : Int) := by omega
   rw [Int.toNat_natCast]
   go_enter Tryd.func61, Tryd.ntmps61
   go_wp2
   go_ret
   exact ⟨rfl, rfl⟩
theorem idOf_any {w : World} {n0 F : Nat} {A : Nat → Option Nat} {h : Nat → Nd} (m : Mem w n0 F A h) (i : Nat) (hi : i = 0 ∨ A i ≠ none) :
  Calls Tryd.prog 75 #[.pointer (pa (A i))] w fun e w' => e = .returned (.int .i64 (i : Int)) ∧ w' = w := by
 rcases hi with rfl | hi
 ·rw [m.z, pa_none]
  go_enter Tryd.func75, Tryd.ntmps75
  go_wp2
  go_ret
  exact ⟨rfl, rfl⟩
 ·obtain ⟨b, hb⟩ := Option.ne_none_iff_exists'.1 hi
  have hc := m.c0 hb
  rw [hb, pa_some]
  go_enter Tryd.func75, Tryd.ntmps75
  go_wp2
  go_ret
  exact ⟨rfl, rfl⟩
theorem nodeC_2 (A : Nat → Option Nat) (i : Nat) (x : Nd) (u : Nat) : (nodeC A i x).setIfInBounds 2 (.pointer (pa (A u))) = nodeC A i ⟨x.t, u, x.first, x.next⟩ := rfl
theorem nodeC_3 (A : Nat → Option Nat) (i : Nat) (x : Nd) (u : Nat) : (nodeC A i x).setIfInBounds 3 (.pointer (pa (A u))) = nodeC A i ⟨x.t, x.up, u, x.next⟩ := rfl
theorem nodeC_4 (A : Nat → Option Nat) (i : Nat) (x : Nd) (u : Nat) : (nodeC A i x).setIfInBounds 4 (.pointer (pa (A u))) = nodeC A i ⟨x.t, x.up, x.first, u⟩ := rfl
theorem nodeC_1 (A : Nat → Option Nat) (i : Nat) (x : Nd) (t : ByteArray) : (nodeC A i x).setIfInBounds 1 (.string t) = nodeC A i ⟨t, x.up, x.first, x.next⟩ := rfl
theorem Mem.setU {w : World} {n0 F : Nat} {A : Nat → Option Nat} {h : Nat → Nd} (m : Mem w n0 F A h) {i b : Nat} (e : A i = some b) (u : Nat) (hu : u = 0 ∨ A u ≠ none) : Mem (w.setCell ⟨b, 2, none⟩ (.pointer (pa (A u)))) n0 F A (upN h i ⟨(h i).t, u, (h i).first, (h i).next⟩) :=
 m.set e 2 _ _ (nodeC_2 A i (h i) u) hu (m.cf i (by rw [e]; simp)) (m.cn i (by rw [e]; simp))
theorem Mem.setF {w : World} {n0 F : Nat} {A : Nat → Option Nat} {h : Nat → Nd} (m : Mem w n0 F A h) {i b : Nat} (e : A i = some b) (u : Nat) (hu : u = 0 ∨ A u ≠ none) : Mem (w.setCell ⟨b, 3, none⟩ (.pointer (pa (A u)))) n0 F A (upN h i ⟨(h i).t, (h i).up, u, (h i).next⟩) :=
 m.set e 3 _ _ (nodeC_3 A i (h i) u) (m.cu i (by rw [e]; simp)) hu (m.cn i (by rw [e]; simp))
theorem Mem.setN {w : World} {n0 F : Nat} {A : Nat → Option Nat} {h : Nat → Nd} (m : Mem w n0 F A h) {i b : Nat} (e : A i = some b) (u : Nat) (hu : u = 0 ∨ A u ≠ none) : Mem (w.setCell ⟨b, 4, none⟩ (.pointer (pa (A u)))) n0 F A (upN h i ⟨(h i).t, (h i).up, (h i).first, u⟩) :=
 m.set e 4 _ _ (nodeC_4 A i (h i) u) (m.cu i (by rw [e]; simp)) (m.cf i (by rw [e]; simp)) hu
theorem Mem.setT {w : World} {n0 F : Nat} {A : Nat → Option Nat} {h : Nat → Nd} (m : Mem w n0 F A h) {i b : Nat} (e : A i = some b) (t : ByteArray) : Mem (w.setCell ⟨b, 1, none⟩ (.string t)) n0 F A (upN h i ⟨t, (h i).up, (h i).first, (h i).next⟩) :=
 m.set e 1 _ _ (nodeC_1 A i (h i) t) (m.cu i (by rw [e]; simp)) (m.cf i (by rw [e]; simp)) (m.cn i (by rw [e]; simp))
theorem attach_first {w : World} {n0 F : Nat} {A : Nat → Option Nat} {h : Nat → Nd} (m : Mem w n0 F A h) {i u bi bu : Nat} (hi : A i = some bi) (hu : A u = some bu) (hne : u ≠ i) :
  Calls Tryd.prog 96 #[.pointer (some ⟨bi, 0, none⟩), .pointer (some ⟨bu, 0, none⟩), .pointer none] w fun e w' => (∃ v, e = .returned v) ∧ Mem w' n0 F A (attachH h i u 0) ∧ Below n0 w w' ∧ (∀ k, (∀ x, A x ≠ some k) → w'.heap[k]? = w.heap[k]?) := by
 have hnb : bu ≠ bi := fun e => hne (m.inj u i bu hu (e ▸ hi))
 have hnb' : bi ≠ bu := fun e => hnb e.symm
 have c3 := m.c3 hu
 have c4 := m.c4 hi
 have c2 := m.c2 hi
 have z2 := m.fz hi 2
 have z4 := m.fz hi 4
 have z3 := m.fz hu 3
 have M3 := Aside0.mk (((m.setU hi u (Or.inr (by rw [hu]; simp))).setN hi (h u).first (m.cf u (by rw [hu]; simp))).setF hu i (Or.inr (by rw [hi]; simp)))
 rw [hu, hi, pa_some, pa_some] at M3
 have L1 := m.lo i bi hi
 have L2 := m.lo u bu hu
 have HI := Aside0.mk hi
 have HU := Aside0.mk hu
 clear m hi hu
 go_enter Tryd.func96, Tryd.ntmps96
 go_wp2
 refine bodyPost_ret (results_none rfl _ _ _) rfl ?_
 refine ⟨⟨_, rfl⟩, M3.out.ext (fun j => ?_), (((Below.refl n0 w).setCell (p := ⟨bi, 2, none⟩) L1 _).setCell (p := ⟨bi, 4, none⟩) L1 _).setCell (p := ⟨bu, 3, none⟩) L2 _, fun k hk => by
  rw [Below.heap_setCell _ _ _ _ (fun e => hk u (by rw [HU.out, e])), Below.heap_setCell _ _ _ _ (fun e => hk i (by rw [HI.out, e])), Below.heap_setCell _ _ _ _ (fun e => hk i (by rw [HI.out, e]))]⟩
 unfold attachH upN
 by_cases e1 : j = u
 ·subst e1; simp [hne]
 ·by_cases e2 : j = i
  ·subst e2; simp [e1]
  ·simp [e1, e2]
theorem attach_behind {w : World} {n0 F : Nat} {A : Nat → Option Nat} {h : Nat → Nd} (m : Mem w n0 F A h) {i u a bi bu ba : Nat} (hi : A i = some bi) (hu : A u = some bu) (ha : A a = some ba) (hne : a ≠ i) :
  Calls Tryd.prog 96 #[.pointer (some ⟨bi, 0, none⟩), .pointer (some ⟨bu, 0, none⟩), .pointer (some ⟨ba, 0, none⟩)] w fun e w' => (∃ v, e = .returned v) ∧ Mem w' n0 F A (attachH h i u a) ∧ Below n0 w w' ∧ (∀ k, (∀ x, A x ≠ some k) → w'.heap[k]? = w.heap[k]?) := by
 have hnb : ba ≠ bi := fun e => hne (m.inj a i ba ha (e ▸ hi))
 have hnb' : bi ≠ ba := fun e => hnb e.symm
 have ha0 : a ≠ 0 := fun e => by rw [e, m.z] at ha; cases ha
 have c4 := m.c4 hi
 have c2 := m.c2 hi
 have d4 := m.c4 ha
 have z2 := m.fz hi 2
 have z4 := m.fz hi 4
 have z3 := m.fz ha 4
 have M3 := Aside0.mk (((m.setU hi u (Or.inr (by rw [hu]; simp))).setN hi (h a).next (m.cn a (by rw [ha]; simp))).setN ha i (Or.inr (by rw [hi]; simp)))
 rw [hu, hi, pa_some, pa_some] at M3
 have L1 := m.lo i bi hi
 have L2 := m.lo a ba ha
 have HI := Aside0.mk hi
 have HA := Aside0.mk ha
 clear m hi hu ha
 go_enter Tryd.func96, Tryd.ntmps96
 go_wp2
 go_end0
 refine ⟨⟨_, rfl⟩, M3.out.ext (fun j => ?_), (((Below.refl n0 w).setCell (p := ⟨bi, 2, none⟩) L1 _).setCell (p := ⟨bi, 4, none⟩) L1 _).setCell (p := ⟨ba, 4, none⟩) L2 _, fun k hk => by
  rw [Below.heap_setCell _ _ _ _ (fun e => hk a (by rw [HA.out, e])), Below.heap_setCell _ _ _ _ (fun e => hk i (by rw [HI.out, e])), Below.heap_setCell _ _ _ _ (fun e => hk i (by rw [HI.out, e]))]⟩
 unfold attachH upN
 rw [if_neg ha0]
 by_cases e1 : j = a
 ·subst e1; simp [hne]
 ·by_cases e2 : j = i
  ·subst e2; simp [e1]
  ·simp [e1, e2]
def withinF (h : Nat → Nd) (u : Nat) : Nat → Nat → Option Bool
 | 0, _ => none
 | k + 1, x => if x = 0 then some false else if x = u then some true else withinF h u k (h x).up
set_option maxRecDepth 100000 in
set_option maxHeartbeats 1000000 in
theorem within_any {w : World} {n0 F : Nat} {A : Nat → Option Nat} {h : Nat → Nd} (m : Mem w n0 F A h) (x u : Nat) (hx : x = 0 ∨ A x ≠ none) {c : Nat} (hu : A u = some c) (k : Nat) (r : Bool) (hr : withinF h u k x = some r) :
  Calls Tryd.prog 62 #[.pointer (pa (A x)), .pointer (some ⟨c, 0, none⟩)] w fun e w' => e = .returned (.bool r) ∧ w' = w := by
 have HX := Aside0.mk hx
 have HR := Aside0.mk hr
 have M := Aside0.mk m
 have HU := Aside0.mk hu
 clear hx hr m hu
 go_enter Tryd.func62, Tryd.ntmps62
 go_wp2
 go_loopg [0] k (fun kq v w' => ∃ y : Nat, v = .pointer (pa (A y)) ∧ Aside0 (y = 0 ∨ A y ≠ none) ∧ Aside0 (withinF h u kq y = some r) ∧ w' = w)
 case atStart => exact ⟨x, rfl, HX, HR, rfl⟩
 case round =>
  obtain ⟨y, rfl, HY, HQ, rfl⟩ := hrel
  clear HX HR
  cases gk with
  | zero => exact absurd HQ.out (by simp [withinF])
  | succ k1 =>
   have hq := HQ.out
   clear HQ
   unfold withinF at hq
   by_cases hy0 : y = 0
   ·rw [if_pos hy0] at hq
    obtain rfl := Option.some.inj hq
    subst hy0
    have hz := M.out.z
    rw [hz, pa_none]
    clear hq hz HY
    go_wp2
    go_ret
    exact ⟨rfl, rfl⟩
   ·rw [if_neg hy0] at hq
    obtain ⟨b, hb⟩ := Option.ne_none_iff_exists'.1 (HY.out.resolve_left hy0)
    have HB := Aside0.mk hb
    have HC := HU
    clear hb
    by_cases hyu : y = u
    ·rw [if_pos hyu] at hq
     obtain rfl := Option.some.inj hq
     subst hyu
     obtain rfl : b = c := Option.some.inj (HB.out.symm.trans HC.out)
     rw [HB.out, pa_some]
     have hE := eqS ⟨b, 0, none⟩ wr
     clear hq
     go_wp2
     go_ret
     exact ⟨rfl, rfl⟩
    ·rw [if_neg hyu] at hq
     have hbc : b ≠ c := fun e => hyu (M.out.inj y u b HB.out (e ▸ HC.out))
     have c2 := M.out.c2 HB.out
     have HQ := Aside0.mk hq
     have HUP := Aside0.mk (M.out.cu y (by rw [HB.out]; simp))
     have hE := M.out.eqn HB.out HC.out hyu
     rw [HB.out, pa_some]
     clear hq
     go_wp2
     go_roundg k1
     case measure => exact Nat.lt_succ_self _
     case rel => exact ⟨(h y).up, rfl, HUP, HQ, rfl⟩
end Go.Proofs.YtlkheeegkifblaaDoor.P
namespace Go.Proofs.YtlkheeegkifblaaDoor.P
open Go.RowKit Go.Shelf Go.Proofs.YtlkheeegkifblaaDoorW.PrintWords Go.Proofs.YtlkheeegkifblaaDoorW.PrintLast Go.Proofs.YtlkheeegkifblaaDoorW.PrintMore Go.Proofs.YtlkheeegkifblaaDoor.FP
attribute [local go_sem] Oper.semAt_some

def NList (A : Nat → Option Nat) (n0 : Nat) (W : World) : Option Addr → List Nat → Prop
 | p, [] => p = none
 | p, x :: rest => ∃ b q, A x = some b ∧ p = some ⟨b, 0, none⟩ ∧ b < n0 ∧ W.cell? ⟨b, 4, none⟩ = some (.pointer q) ∧ NList A n0 W q rest
theorem NList.below {A : Nat → Option Nat} {n0 : Nat} {V W : World} (h : Below n0 V W) : ∀ {p : Option Addr} {xs : List Nat}, NList A n0 V p xs → NList A n0 W p xs
 | _, [], hl => hl
 | _, _ :: _, ⟨b, q, h1, h2, h3, h4, h5⟩ => ⟨b, q, h1, h2, h3, (h.cell (p := ⟨b, 4, none⟩) h3).trans h4, NList.below h h5⟩
theorem NList.len {A : Nat → Option Nat} {n0 : Nat} {W : World} : ∀ {xs ys : List Nat} {p : Option Addr}, NList A n0 W p xs → NList A n0 W p ys → xs.length = ys.length
 | [], [], _, _, _ => rfl
 | [], _ :: _, _, h, ⟨b, q, _, h2, _⟩ => by rw [show _ = none from h] at h2; cases h2
 | _ :: _, [], _, ⟨b, q, _, h2, _⟩, h => by rw [show _ = none from h] at h2; cases h2
 | _ :: _, _ :: _, _, ⟨b, q, h1, h2, h3, h4, h5⟩, ⟨c, r, g1, g2, g3, g4, g5⟩ => by
  rw [h2] at g2
  obtain rfl : b = c := congrArg Addr.block (Option.some.inj g2)
  rw [h4] at g4
  obtain rfl : q = r := by injection g4 with e; injection e
  rw [List.length_cons, List.length_cons, NList.len h5 g5]
open Classical in
noncomputable def nleft (A : Nat → Option Nat) (n0 : Nat) (W : World) (v : Value) : Nat :=
 if h : ∃ r : Option Addr × List Nat, v = .pointer r.1 ∧ NList A n0 W r.1 r.2 then (Classical.choose h).2.length else 0
theorem nleft_eq {A : Nat → Option Nat} {n0 : Nat} {W : World} {q : Option Addr} {xs : List Nat} (h : NList A n0 W q xs) : nleft A n0 W (.pointer q) = xs.length := by
 have hex : ∃ r : Option Addr × List Nat, Value.pointer q = .pointer r.1 ∧ NList A n0 W r.1 r.2 := ⟨(q, xs), rfl, h⟩
 unfold nleft
 rw [dif_pos hex]
 obtain ⟨e, hl⟩ := Classical.choose_spec hex
 have e' : q = (Classical.choose hex).1 := by simpa using e
 rw [← e'] at hl
 exact NList.len hl h
theorem nlist_of {w : World} {n0 F : Nat} {A : Nat → Option Nat} {h : Nat → Nd} (m : Mem w n0 F A h) {up : Nat} : ∀ {G : Fo}, Rep h up G → (∀ x ∈ G.ids, A x ≠ none) → NList A w.heap.size w (pa (A G.hd)) G.tops
 | .nil, _, _ => by show pa (A 0) = none; rw [m.z]; rfl
 | .nd i t k n, ⟨h1, h2, h3, h4⟩, hA => by
  obtain ⟨b, hb⟩ := Option.ne_none_iff_exists'.1 (hA i (by simp [Fo.ids]))
  refine ⟨b, pa (A n.hd), hb, by show pa (A i) = _; rw [hb]; rfl, m.lt hb, ?_, nlist_of m h4 fun x hx => hA x (by simp [Fo.ids, hx])⟩
  rw [m.c4 hb, h2]
theorem kids_in (F : Fence) (n : Nat) (hf : F.fn 77) (hro : F.round = none) (p0 : Option Addr) (w : World) :
  CallsIn F n Tryd.prog 77 #[.pointer p0] w fun e w' => e = .returned (.func (.func 105) #[] #[.pointer (some ⟨w.heap.size, 0, none⟩)]) ∧ w' = w.alloc (.cells #[.pointer p0] 70) := by
 refine callsIn_of_wp Tryd.func77 rfl hf ?_ hro
 simp only [Tryd.ntmps77, List.size_toArray, List.length_cons, List.length_nil, Nat.reduceAdd, Nat.reduceSub, Array.replicate_succ, Array.replicate_zero, List.push_toArray, List.append_toArray, List.nil_append, List.cons_append]
 gi_wp2
 go_ret
 exact ⟨rfl, rfl⟩
structure KA (Q : Nat → Prop) where
 val : Nat
 ok : Q val
set_option maxRecDepth 100000 in
set_option maxHeartbeats 1000000 in
theorem kids1_in (F : Fence) (n : Nat) (hf : F.fn 105) (hro : F.round = none) (hn : 1 ≤ n) (l Bn n0 b : Nat) (Q : Nat → Prop) (A : Nat → Option Nat) (p0 : Option Addr) (xs : List (KA Q)) (J Jx : List (KA Q) → World → Prop)
  (hY : ∀ pre x W, J pre W → pre.length < xs.length → YieldAt F (n - 1) Tryd.prog l #[.pointer (pa (A x.val))] W fun e W' =>
   (e = .returned (.bool true) ∧ J (pre ++ [x]) W' ∧ Below n0 W W') ∨ (e = .returned (.bool false) ∧ Jx (pre ++ [x]) W'))
  (W : World) (hBn : W.cell? ⟨Bn, 0, none⟩ = some (.pointer (some ⟨b, 0, none⟩))) (hb3 : W.cell? ⟨b, 3, none⟩ = some (.pointer p0)) (hL : NList A n0 W p0 (xs.map KA.val)) (h0 : J [] W) :
  CallsIn F n Tryd.prog 105 #[.func (.yield l) #[] #[], .pointer (some ⟨Bn, 0, none⟩)] W fun e W' => (∃ v, e = .returned v) ∧
   ((∃ ys, ys = xs ∧ J ys W') ∨ (∃ pre, pre <+: xs ∧ Jx pre W')) := by
 refine callsIn_of_wp Tryd.func105 rfl hf ?_ hro
 simp only [Tryd.ntmps105, List.size_toArray, List.length_cons, List.length_nil, Nat.reduceAdd, Nat.reduceSub, Array.replicate_succ, Array.replicate_zero, List.push_toArray, List.append_toArray, List.nil_append, List.cons_append]
 gi_wp2
 gi_loopw [3] (fun p wr => ∃ (pre rest : List (KA Q)) (q : Option Addr), p = .pointer q ∧ xs = pre ++ rest ∧ NList A n0 wr q (rest.map KA.val) ∧ J pre wr)
  (fun p wr => nleft A n0 wr p)
 case atStart =>
  exact ⟨[], xs, p0, rfl, rfl, hL, h0⟩
 case round =>
  obtain ⟨pre, rest, q, rfl, hx, hl, hJs⟩ := hrel
  cases rest with
  | nil =>
   obtain rfl : q = none := hl
   gi_wp2
   go_end0
   exact ⟨⟨_, rfl⟩, .inl ⟨pre, by simp [hx], hJs⟩⟩
  | cons x rest =>
   have hl' := hl
   obtain ⟨c, q', hA, rfl, hc, hq, hr⟩ := hl
   obtain ⟨fn, tmps, assign, body, hy, hR⟩ := hY pre x wr hJs (by rw [hx]; simp)
   rw [hA, pa_some] at hy
   have HA := Aside0.mk hA
   clear hA
   gi_wp2
   refine hR.mono ?_
   rintro e W3 (⟨rfl, hJ3, hk3⟩ | ⟨rfl, hJx3⟩)
   ·have hq3 : W3.cell? ⟨c, 4, none⟩ = some (.pointer q') := (hk3.cell (p := ⟨c, 4, none⟩) hc).trans hq
    gi_wp2
    go_roundw
    case rel => exact ⟨pre ++ [x], rest, q', rfl, by simp [hx], hr.below hk3, hJ3⟩
    case measure => rw [nleft_eq (hr.below hk3), nleft_eq hl']; simp
   ·gi_wp2
    refine bodyPost_ret (results_none rfl _ _ _) rfl ?_
    exact ⟨⟨_, rfl⟩, .inr ⟨pre ++ [x], ⟨rest, by simp [hx]⟩, hJx3⟩⟩
theorem kids_stops (F : Fence) (n : Nat) (hf : F.fn 105) (hro : F.round = none) (hn : 1 ≤ n) (Bn n0 b : Nat) (Q : Nat → Prop) (A : Nat → Option Nat) (p0 : Option Addr) (xs : List (KA Q)) (w : World) (hBn : Bn < w.heap.size) (hn0 : n0 ≤ w.heap.size) (hb : b < w.heap.size)
  (hc : w.cell? ⟨Bn, 0, none⟩ = some (.pointer (some ⟨b, 0, none⟩))) (hb3 : w.cell? ⟨b, 3, none⟩ = some (.pointer p0)) (hL : NList A n0 w p0 (xs.map KA.val)) :
  SeqStopsK F n Tryd.prog 105 #[.pointer (some ⟨Bn, 0, none⟩)] (fun x : KA Q => #[.pointer (pa (A x.val))]) (Below n0) (fun ys => ys = xs) (fun pre => pre <+: xs) xs.length w := fun l J Jx W hW _ _ hY h0 =>
 kids1_in F n hf hro hn l Bn n0 b Q A p0 xs J Jx hY W ((hW.cell (p := ⟨Bn, 0, none⟩) hBn).trans hc) ((hW.cell (p := ⟨b, 3, none⟩) hb).trans hb3) (hL.below (hW.mono hn0)) h0
theorem attach_val {Q : Nat → Prop} : ∀ {l : List Nat} (h : ∀ x ∈ l, Q x), ∃ xs : List (KA Q), xs.map KA.val = l
 | [], _ => ⟨[], rfl⟩
 | x :: l, h => by
  obtain ⟨xs, hx⟩ := attach_val (l := l) fun y hy => h y (List.mem_cons_of_mem _ hy)
  exact ⟨⟨x, h x List.mem_cons_self⟩ :: xs, by rw [List.map_cons, hx]⟩
def pv (i : Nat) : Nat → List Nat → Nat
 | p, [] => p
 | p, y :: r => if y = i then p else pv i y r
def lastN (p : Nat) (l : List Nat) : Nat := l.foldl (fun _ y => y) p
theorem pv_done (i : Nat) : ∀ (l : List Nat) (p : Nat), (∀ y ∈ l, y ≠ i) → pv i p l = lastN p l
 | [], p, _ => rfl
 | y :: r, p, h => by
  unfold pv
  rw [if_neg (h y List.mem_cons_self), pv_done i r y fun z hz => h z (List.mem_cons_of_mem _ hz)]
  rfl
theorem pv_stop (i : Nat) (rest : List Nat) : ∀ (l : List Nat) (p : Nat), (∀ y ∈ l, y ≠ i) → pv i p (l ++ i :: rest) = lastN p l
 | [], p, _ => by show pv i p (i :: rest) = p; unfold pv; rw [if_pos rfl]
 | y :: r, p, h => by
  show pv i p (y :: (r ++ i :: rest)) = _
  unfold pv
  rw [if_neg (h y List.mem_cons_self), pv_stop i rest r y fun z hz => h z (List.mem_cons_of_mem _ hz)]
  rfl
theorem lastN_snoc (p : Nat) (l : List Nat) (x : Nat) : lastN p (l ++ [x]) = x := by simp [lastN]
theorem cell_of_box_f {W : World} {B : Nat} {v : Value} {t : TypeId} (h : W.heap[B]? = some (.cells #[v] t (0, 0))) : W.cell? ⟨B, 0, none⟩ = some v ∧ W.frozen? ⟨B, 0, none⟩ = false := by
 constructor <;> simp [World.cell?, World.frozen?, h]
theorem cell_new_f (W : World) (v : Value) (t : TypeId) : (W.alloc (.cells #[v] t)).cell? ⟨W.heap.size, 0, none⟩ = some v ∧ (W.alloc (.cells #[v] t)).frozen? ⟨W.heap.size, 0, none⟩ = false :=
 cell_of_box_f (World.alloc_heap_new W _)
theorem cell_alloc_f {W : World} {a : Addr} {v : Value} (o : Obj) (h : W.cell? a = some v) : (W.alloc o).cell? a = some v := cell_kept h (World.grownBy_alloc W o none) (fun r e => by cases e)
theorem frozen_alloc_f {W : World} {a : Addr} {v : Value} (o : Obj) (h : W.cell? a = some v) (hf : W.frozen? a = false) : (W.alloc o).frozen? a = false := (frozen_kept h (World.grownBy_alloc W o none) (fun r e => by cases e)).trans hf
def AheadI (w : World) (A : Nat → Option Nat) (i b : Nat) (pre : List (KA fun x => A x ≠ none)) (W : World) : Prop :=
 (∀ y ∈ pre, y.val ≠ i) ∧ W.cell? ⟨w.heap.size, 0, none⟩ = some (.pointer (some ⟨b, 0, none⟩)) ∧ W.cell? ⟨w.heap.size + 1, 0, none⟩ = some (.pointer (pa (A (lastN 0 (pre.map KA.val))))) ∧ W.frozen? ⟨w.heap.size + 1, 0, none⟩ = false
def AheadX (w : World) (A : Nat → Option Nat) (i : Nat) (c : Code) (pre : List (KA fun x => A x ≠ none)) (W : World) : Prop :=
 c = .exit 0 ∧ ∃ (pre' : List (KA fun x => A x ≠ none)) (x : KA fun x => A x ≠ none), pre = pre' ++ [x] ∧ x.val = i ∧ (∀ y ∈ pre', y.val ≠ i) ∧ W.cell? ⟨w.heap.size + 1, 0, none⟩ = some (.pointer (pa (A (lastN 0 (pre'.map KA.val)))))
theorem aheadI_own (w : World) (A : Nat → Option Nat) (i b : Nat) : Own (AheadI w A i b) := fun s V W row hs hg hr => ⟨hs.1, cell_kept hs.2.1 hg hr, cell_kept hs.2.2.1 hg hr, (frozen_kept hs.2.2.1 hg hr).trans hs.2.2.2⟩
theorem aheadX_own (w : World) (A : Nat → Option Nat) (i : Nat) (c : Code) : Own (AheadX w A i c) := fun s V W row hs hg hr => by
 obtain ⟨e1, p', x, e2, e3, e4, e5⟩ := hs
 exact ⟨e1, p', x, e2, e3, e4, cell_kept e5 hg hr⟩
set_option maxRecDepth 100000 in
set_option maxHeartbeats 2000000 in
theorem ahead_in (F : Fence) (n : Nat) (h79 : F.fn 76) (h56 : F.fn 77) (h76 : F.fn 105) (hro : F.round = none) (hn : 3 ≤ n) {w : World} {n0 Fb : Nat} {A : Nat → Option Nat} {h : Nat → Nd} (m : Mem w n0 Fb A h)
  {i u b bu : Nat} (hi : A i = some b) (hu : A u = some bu) (hup : (h i).up = u) (xs : List Nat) (hxs : ∀ x ∈ xs, A x ≠ none) (hL : NList A w.heap.size w (pa (A (h u).first)) xs) :
  CallsIn F n Tryd.prog 76 #[.pointer (some ⟨b, 0, none⟩)] w fun e W' => e = .returned (.pointer (pa (A (pv i 0 xs)))) ∧ Below w.heap.size w W' := by
 have h1 : 1 ≤ n := by omega
 obtain ⟨ys, hys⟩ := attach_val (Q := fun x => A x ≠ none) hxs
 subst hys
 have hz := m.z
 have c2 := m.c2 hi
 rw [hup, hu, pa_some] at c2
 replace c2 := cell_alloc_f (.cells #[.pointer none] 70) (cell_alloc_f (.cells #[.pointer (some ⟨b, 0, none⟩)] 70) c2)
 have c3 := m.c3 hu
 have HBU := Aside0.mk (m.lt hu)
 have HB := Aside0.mk (m.lt hi)
 have M := Aside0.mk m
 have HI := Aside0.mk hi
 have HZ := Aside0.mk hz
 clear hz hi hu hup m
 refine callsIn_of_wp_marks Tryd.func76 rfl h79 ?_ hro
 simp only [Tryd.ntmps76, List.size_toArray, List.length_cons, List.length_nil, Nat.reduceAdd, Nat.reduceSub, Array.replicate_succ, Array.replicate_zero, List.push_toArray, List.append_toArray, List.nil_append, List.cons_append]
 gi_wp2_with (gi_at_call 77; refine (kids_in F (n - 1) h56 hro _ _).mono ?_; rintro e w' ⟨rfl, rfl⟩)
 have b0 := cell_new_f w (.pointer (some ⟨b, 0, none⟩)) 70
 have b1 := cell_new_f (w.alloc (.cells #[.pointer (some ⟨b, 0, none⟩)] 70)) (.pointer none) 70
 have b2 := cell_new_f ((w.alloc (.cells #[.pointer (some ⟨b, 0, none⟩)] 70)).alloc (.cells #[.pointer none] 70)) (.pointer (some ⟨bu, 0, none⟩)) 70
 simp only [World.size_alloc] at b1 b2
 have hB0 : Below w.heap.size w (((w.alloc (.cells #[.pointer (some ⟨b, 0, none⟩)] 70)).alloc (.cells #[.pointer none] 70)).alloc (.cells #[.pointer (some ⟨bu, 0, none⟩)] 70)) := (((Below.refl _ w).alloc (Nat.le_refl _) _).alloc (by simp) _).alloc (by simp; omega) _
 refine wpIn_rangeFunc_ownF hro h1 (gf := 105) (lb := #[.pointer (some ⟨w.heap.size + 1 + 1, 0, none⟩)]) rfl h76 (enters_of Tryd.func105 (by kernel_rfl) rfl)
  (kids_stops F (n - 1) h76 hro (by omega) (w.heap.size + 1 + 1) w.heap.size bu _ A _ ys _ (by simp) (by simp; omega) (by simp; have := HBU.out; omega) b2.1 (cell_alloc_f _ (cell_alloc_f _ (cell_alloc_f _ c3))) (hL.below hB0)) belowK_t (belowK_b (by simp; omega)) (Below.refl _ _) (fun _ => by rfl)
  (fun pre W => AheadI w A i b pre W ∧ Below w.heap.size w W)
  (fun c pre W => AheadX w A i c pre W ∧ Below w.heap.size w W)
  (OwnFrom.and (Own.from (aheadI_own w A i b) _) (ownFrom_below (Nat.le_refl _) (by simp; omega)))
  (fun c => OwnFrom.and (Own.from (aheadX_own w A i c) _) (ownFrom_below (Nat.le_refl _) (by simp; omega)))
  ⟨⟨by simp, cell_alloc_f _ (cell_alloc_f _ b0.1), by rw [show lastN 0 (([] : List (KA fun x => A x ≠ none)).map KA.val) = 0 from rfl, HZ.out]; exact cell_alloc_f _ b1.1, frozen_alloc_f _ b1.1 b1.2⟩, hB0⟩
  (fun x => { tmps := #[.pointer (some ⟨b, 0, none⟩), .pointer (some ⟨w.heap.size, 0, none⟩), .pointer none, .pointer (some ⟨w.heap.size + 1, 0, none⟩), .pointer (pa (A x.val)), .pointer (some ⟨b, 0, none⟩), .pointer (some ⟨b, 0, none⟩), .pointer (some ⟨b, 2, none⟩), .pointer (some ⟨bu, 0, none⟩), .func (.func 105) #[] #[.pointer (some ⟨w.heap.size + 1 + 1, 0, none⟩)], .pointer (pa (A x.val)), undef, undef, undef, undef, undef], defers := [] }) ?assign ?body ?done ?stop
 case assign =>
  intro l x W K hK
  gi_wp2
  exact hK
 case body =>
  rintro l pre x W ⟨⟨hp, hcn, hca, hfa⟩, hB⟩ _
  obtain ⟨c, hc⟩ := Option.ne_none_iff_exists'.1 x.ok
  have MW := M.out.below hB
  have hbelow : Below w.heap.size W (W.setCell ⟨w.heap.size + 1, 0, none⟩ (.pointer (some ⟨c, 0, none⟩))) := (Below.refl _ W).setCell (p := ⟨w.heap.size + 1, 0, none⟩) (by simp) _
  by_cases hx : x.val = i
  ·obtain rfl : c = b := by rw [hx, HI.out] at hc; exact (Option.some.inj hc).symm
   have hE := eqS ⟨c, 0, none⟩ W
   have HX := Aside0.mk hx
   rw [hc, pa_some]
   clear hx hc
   gi_wp2
   exact ⟨KeepsOthers.refl _, ⟨rfl, pre, x, rfl, HX.out, hp, hca⟩, hB⟩
  ·have hE := MW.eqn hc HI.out hx
   have HX := Aside0.mk hx
   have HC := Aside0.mk hc
   rw [hc, pa_some]
   clear hx hc
   gi_wp2
   refine ⟨KeepsOthers.setCell _ _ _, hbelow, ⟨fun y hy => ?_, ?_, ?_, ?_⟩, hB.trans hbelow⟩
   ·rcases List.mem_append.1 hy with hy | hy
    ·exact hp y hy
    ·rw [List.mem_singleton.1 hy]; exact HX.out
   ·rw [World.cell?_setCell_other _ _ _ _ (by intro e; have := congrArg Addr.block e; simp at this)]; exact hcn
   ·rw [List.map_append, List.map_cons, List.map_nil, lastN_snoc, HC.out]
    exact World.cell?_setCell_same' _ _ _ (by rw [hca]; rfl)
   ·rw [World.frozen?_setCell]; exact hfa
 case done =>
  rintro D zs W hD rfl ⟨⟨hp, _, hca, _⟩, hB⟩ hK
  gi_wp2
  refine ⟨by simp, .inl ⟨_, _, rfl, run_takeDeferred hK, ?_⟩⟩
  refine ⟨_, results_tmp rfl _ _ _, ?_, hB.trans (belowK_b (w := w) (Nat.le_refl _) W D _ _ (by simp at hD; omega) hK rfl rfl)⟩
  rw [pv_done i _ 0 (fun y hy => by obtain ⟨z, hz, rfl⟩ := List.mem_map.1 hy; exact hp z hz)]
  rfl
 case stop =>
  rintro D c pre W hD hpre ⟨⟨rfl, pre', x, rfl, hx, hp, hca⟩, hB⟩ hK
  gi_wp2
  refine ⟨by simp, .inl ⟨_, _, rfl, run_takeDeferred hK, ?_⟩⟩
  refine ⟨_, results_tmp rfl _ _ _, ?_, hB.trans (belowK_b (w := w) (Nat.le_refl _) W D _ _ (by simp at hD; omega) hK rfl rfl)⟩
  obtain ⟨rest, rfl⟩ := hpre
  rw [List.map_append, List.map_append, List.map_cons, List.map_nil, hx, List.append_assoc, List.singleton_append, pv_stop i _ _ 0 (fun y hy => by obtain ⟨z, hz, rfl⟩ := List.mem_map.1 hy; exact hp z hz)]
  rfl
end Go.Proofs.YtlkheeegkifblaaDoor.P
