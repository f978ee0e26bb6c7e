/- Joined by a program (wip/shake.py): the declarations that 'YtkopimbbgckcnaaDoorCardFnMoveAll' reaches. -/
import Derived.Test.YtkopimbbgckcnaaDoorZDk4
set_option linter.unusedVariables false
set_option linter.unusedSimpArgs false
set_option linter.unusedSectionVars false
namespace Go.Proofs.YtkopimbbgckcnaaDoor.P
open Go.RowKit Go.Proofs.YtkopimbbgckcnaaDoorW.PrintWords Go.Proofs.YtkopimbbgckcnaaDoorW.PrintLast
set_option maxHeartbeats 8000000 in
set_option maxRecDepth 100000 in
theorem spec_l71Op.calls (k : Nat) (g : Nat) (s0_0 : List Int) (s0_1 : Int) (r1 : Int) (r2 : Int) (r3 : Int) (r4 : Int) (r5 : ByteArray) (r6 : Int) (w0 w : World) (hI : IsS106 w0 w g s0_0 s0_1) (hB : Below w0.heap.size w0 w) (h : spec_l71Op.f k s0_0 s0_1 = some (r1, r2, r3, r4, r5, r6)) :
  Calls Tryd.prog 71 #[.pointer (some ⟨g, 0, none⟩)] w fun e w' => e = .returned (.agg #[.int .i64 r1, .int .i64 r2, .int .i64 r3, .int .i64 r4, .string r5]) ∧ IsS106 w0 w' g s0_0 r6 ∧ Below w0.heap.size w0 w' ∧ KeepBut w w' g none := by
 have hu30 := Tryd.underlying30
 have HI0 := Aside0.mk hI
 have HK := Aside0.mk (KeepBut.refl w g none)
 have HL := Aside0.mk hB.size
 clear hI
 have HW0 := Aside0.mk hB.size
 have HB := Aside0.mk hB
 clear hB
 unfold spec_l71Op.f at h
 have H := h
 clear h
 replace H := Option.bind_eq_some_iff.mp H
 obtain ⟨⟨t447, t448⟩, A20, H⟩ := H
 try dsimp only at H
 have A2 := Aside0.mk A20
 clear A20
 replace H := Option.bind_eq_some_iff.mp H
 obtain ⟨⟨t449, t450⟩, A30, H⟩ := H
 try dsimp only at H
 have A3 := Aside0.mk A30
 clear A30
 replace H := Option.bind_eq_some_iff.mp H
 obtain ⟨⟨t452, t453⟩, A40, H⟩ := H
 try dsimp only at H
 have A4 := Aside0.mk A40
 clear A40
 obtain ⟨y454, hy454⟩ : ∃ y_ : List Int, y_ = (([1, 1, t452, 2, 3] : List Int)) := ⟨_, rfl⟩
 replace H : ((spec_l6Rd_pick.f k s0_0 t453 5).bind fun bt457 => (if 0 ≤ bt457.1 then (if bt457.1 < (y454.length : Int) then ((spec_l71Id.f k s0_0 bt457.2).bind fun bt460 => ((some (([0, bt460.1] : List Int) : List Int)).bind fun y462 => ((spec_l6Rd_pick.f k s0_0 bt460.2 2).bind fun bt465 => (if 0 ≤ bt465.1 then (if bt465.1 < (y462.length : Int) then ((spec_l6Rd_pick.f k s0_0 bt465.2 5).bind fun bt468 => (if bt468.1 = 0 then (spec_l71Op.j0 k (rd y454 bt457.1) (rd y462 bt465.1) bt468.1 (bt468.1 == 0) s0_0 bt468.2 2 t447 0 0 t449) else (spec_l71Op.j0 k (rd y454 bt457.1) (rd y462 bt465.1) bt468.1 (bt468.1 == 1) s0_0 bt468.2 2 t447 0 0 t449))) else (none)) else (none))))) else (none)) else (none))) = some (r1, r2, r3, r4, r5, r6) := by first | (rw [hy454]; with_reducible exact H) | (have H2_ := (Option.bind_some _ _).symm.trans H; rw [hy454]; with_reducible exact H2_) | (have H2_ := (Option.bind_some _ _).symm.trans H; with_reducible exact H2_) | with_reducible exact H | (rw [hy454]; exact H) | exact H
 have Ny454 := Aside0.mk hy454
 clear hy454
 replace H := Option.bind_eq_some_iff.mp H
 obtain ⟨⟨t457, t458⟩, A50, H⟩ := H
 try dsimp only at H
 have A5 := Aside0.mk A50
 clear A50
 by_cases c6 : 0 ≤ t457
 ·rw [if_pos c6] at H
  have c6b0 : decide (0 ≤ t457) = true := decide_eq_true c6
  clear c6
  by_cases c7 : t457 < (y454.length : Int)
  ·rw [if_pos c7] at H
   have c7b0 : decide (t457 < (y454.length : Int)) = true := decide_eq_true c7
   clear c7
   replace H := Option.bind_eq_some_iff.mp H
   obtain ⟨⟨t460, t461⟩, A80, H⟩ := H
   try dsimp only at H
   have A8 := Aside0.mk A80
   clear A80
   obtain ⟨y462, hy462⟩ : ∃ y_ : List Int, y_ = (([0, t460] : List Int)) := ⟨_, rfl⟩
   replace H : ((spec_l6Rd_pick.f k s0_0 t461 2).bind fun bt465 => (if 0 ≤ bt465.1 then (if bt465.1 < (y462.length : Int) then ((spec_l6Rd_pick.f k s0_0 bt465.2 5).bind fun bt468 => (if bt468.1 = 0 then (spec_l71Op.j0 k (rd y454 t457) (rd y462 bt465.1) bt468.1 (bt468.1 == 0) s0_0 bt468.2 2 t447 0 0 t449) else (spec_l71Op.j0 k (rd y454 t457) (rd y462 bt465.1) bt468.1 (bt468.1 == 1) s0_0 bt468.2 2 t447 0 0 t449))) else (none)) else (none))) = some (r1, r2, r3, r4, r5, r6) := by first | (rw [hy462]; with_reducible exact H) | (have H2_ := (Option.bind_some _ _).symm.trans H; rw [hy462]; with_reducible exact H2_) | (have H2_ := (Option.bind_some _ _).symm.trans H; with_reducible exact H2_) | with_reducible exact H | (rw [hy462]; exact H) | exact H
   have Ny462 := Aside0.mk hy462
   clear hy462
   replace H := Option.bind_eq_some_iff.mp H
   obtain ⟨⟨t465, t466⟩, A90, H⟩ := H
   try dsimp only at H
   have A9 := Aside0.mk A90
   clear A90
   by_cases c10 : 0 ≤ t465
   ·rw [if_pos c10] at H
    have c10b0 : decide (0 ≤ t465) = true := decide_eq_true c10
    clear c10
    by_cases c11 : t465 < (y462.length : Int)
    ·rw [if_pos c11] at H
     have c11b0 : decide (t465 < (y462.length : Int)) = true := decide_eq_true c11
     clear c11
     replace H := Option.bind_eq_some_iff.mp H
     obtain ⟨⟨t468, t469⟩, A120, H⟩ := H
     try dsimp only at H
     have A12 := Aside0.mk A120
     clear A120
     have HC13 := Aside0.mk H
     clear H
     go_enter Tryd.func71, Tryd.ntmps71
     go_upto_block 0 with (first | ((with_reducible refine gate_dst (N := 2) rfl ?_); refine bx_ 2 (#[.int .i64 0, .int .i64 0, .int .i64 0, .int .i64 0, .string (⟨#[]⟩ : ByteArray)]) 30 ?_; intro gb446 hg w14 hbox hb; have n0_ := Aside0.mk (IsS106.below (is_HI0) hb); have n1_ := Aside0.mk (KeepBut.trans (ke_) (KeepBut.of_below hb g none) (.inl rfl)); have n2_ := Aside0.mk (below_step (bel_) hb); have n3_ := Aside0.mk (hbox); have n4_ := Aside0.mk ((by rw [hg]; exact (keep_size (w := w) (g := g) (row := none) (ke_)) : w.heap.size ≤ gb446)); have n5_ := Aside0.mk ((Nat.le_trans HW0.out (by rw [hg]; exact (keep_size (w := w) (g := g) (row := none) (ke_)) : w.heap.size ≤ gb446) : w0.heap.size ≤ gb446)); have n6_ := Aside0.mk ((by rw [hg]; exact Nat.ne_of_lt (IsS106.lt (show IsS106 w0 _ g s0_0 s0_1 from is_HI0)) : g ≠ gb446)); have n7_ := Aside0.mk ((by rw [hg]; exact Nat.ne_of_gt (IsS106.lt (show IsS106 w0 _ g s0_0 s0_1 from is_HI0)) : gb446 ≠ g)); clear HI0; clear HK; clear HB; have HI0 := n0_; have HK := n1_; have HB := n2_; have BK446 := n3_; have GW446 := n4_; have GE446 := n5_; have NB0_446 := n6_; have NB446_0 := n7_; clear n0_ n1_ n2_ n3_ n4_ n5_ n6_ n7_; clear hb hbox hg) | ((with_reducible refine gate_callee (f := 83) rfl ?_); refine gl_ 7 Tryd.func83 #[.pointer (some ⟨g, 0, none⟩)] ?_; (with_reducible refine (spec_l71Id.calls k g s0_0 s0_1 t447 t448 w0 _ ?side1 ?side2 A2.out).mono ?_); (case side1 => exact is_HI0); (case side2 => exact bel_); rintro e w15 ⟨rfl, hi, hb, hk⟩; refine ⟨_, rfl, ?_⟩; replace BK446 := Aside0.mk (kb_ hk BK446.out NB446_0.out); replace HK := Aside0.mk (KeepBut.trans (kf_ HK.out) hk (.inl rfl)); replace HB := Aside0.mk (hb); replace HI0 := Aside0.mk (hi); (try clear hb hk hi)) | ((with_reducible refine gate_callee (f := 84) rfl ?_); refine gl_ 9 Tryd.func84 #[.pointer (some ⟨g, 0, none⟩)] ?_; (with_reducible refine (spec_l71Text.calls k g s0_0 t448 t449 t450 w0 _ ?side1 ?side2 A3.out).mono ?_); (case side1 => exact is_HI0); (case side2 => exact bel_); rintro e w16 ⟨rfl, hi, hb, hk⟩; refine ⟨_, rfl, ?_⟩; replace BK446 := Aside0.mk (kb_ hk BK446.out NB446_0.out); replace HK := Aside0.mk (KeepBut.trans (kf_ HK.out) hk (.inl rfl)); replace HB := Aside0.mk (hb); replace HI0 := Aside0.mk (hi); (try clear hb hk hi)) | ((with_reducible refine gate_dst (N := 3) rfl ?_); refine bx_ 3 (#[.int .i64 0, .int .i64 0, .int .i64 0, .int .i64 0, .string (⟨#[]⟩ : ByteArray)]) 30 ?_; intro gb451 hg w17 hbox hb; have n0_ := Aside0.mk (IsS106.below (is_HI0) hb); have n1_ := Aside0.mk (bb_ BK446.out hb); have n2_ := Aside0.mk (KeepBut.trans (kf_ HK.out) (KeepBut.of_below hb g none) (.inl rfl)); have n3_ := Aside0.mk (below_step (bel_) hb); have n4_ := Aside0.mk (hbox); have n5_ := Aside0.mk ((by rw [hg]; exact (keep_size (w := w) (g := g) (row := none) (kf_ HK.out)) : w.heap.size ≤ gb451)); have n6_ := Aside0.mk ((Nat.le_trans HW0.out (by rw [hg]; exact (keep_size (w := w) (g := g) (row := none) (kf_ HK.out)) : w.heap.size ≤ gb451) : w0.heap.size ≤ gb451)); have n7_ := Aside0.mk ((by rw [hg]; exact Nat.ne_of_lt (blk_lt (g := gb446) (o := .cells #[.int .i64 0, .int .i64 0, .int .i64 0, .int .i64 0, .string (⟨#[]⟩ : ByteArray)] 30 (0, 0)) (bp_ BK446.out)) : gb446 ≠ gb451)); have n8_ := Aside0.mk ((by rw [hg]; exact Nat.ne_of_gt (blk_lt (g := gb446) (o := .cells #[.int .i64 0, .int .i64 0, .int .i64 0, .int .i64 0, .string (⟨#[]⟩ : ByteArray)] 30 (0, 0)) (bp_ BK446.out)) : gb451 ≠ gb446)); have n9_ := Aside0.mk ((by rw [hg]; exact Nat.ne_of_lt (IsS106.lt (show IsS106 w0 _ g s0_0 t450 from is_HI0)) : g ≠ gb451)); have n10_ := Aside0.mk ((by rw [hg]; exact Nat.ne_of_gt (IsS106.lt (show IsS106 w0 _ g s0_0 t450 from is_HI0)) : gb451 ≠ g)); clear HI0; clear BK446; clear HK; clear HB; have HI0 := n0_; have BK446 := n1_; have HK := n2_; have HB := n3_; have BK451 := n4_; have GW451 := n5_; have GE451 := n6_; have NB446_451 := n7_; have NB451_446 := n8_; have NB0_451 := n9_; have NB451_0 := n10_; clear n0_ n1_ n2_ n3_ n4_ n5_ n6_ n7_ n8_ n9_ n10_; clear hb hbox hg; have hnb18 := NB451_446.out; have hnc18 := NB446_451.out; have hnb19 := NB451_0.out; have hnc19 := NB0_451.out; have hcz20_0 := cz_ BK451.out 0 (.int .i64 0); have hcz20_1 := cz_ BK451.out 1 (.int .i64 0); have hcz20_2 := cz_ BK451.out 2 (.int .i64 0); have hcz20_3 := cz_ BK451.out 3 (.int .i64 0); have hcz20_4 := cz_ BK451.out 4 (.string (⟨#[]⟩ : ByteArray)); have hfz20_0 := blk_frozen BK451.out 0; have hfz20_1 := blk_frozen BK451.out 1; have hfz20_2 := blk_frozen BK451.out 2; have hfz20_3 := blk_frozen BK451.out 3; have hfz20_4 := blk_frozen BK451.out 4) | ((with_reducible refine gate_callee (f := 83) rfl ?_); refine gl_ 12 Tryd.func83 #[.pointer (some ⟨g, 0, none⟩)] ?_; (with_reducible refine (spec_l71Id.calls k g s0_0 t450 t452 t453 w0 _ ?side1 ?side2 A4.out).mono ?_); (case side1 => exact is_HI0); (case side2 => exact bel_); rintro e w21 ⟨rfl, hi, hb, hk⟩; refine ⟨_, rfl, ?_⟩; have n0_ := Aside0.mk (KeepBut.blk hk (g' := gb446) (o := .cells #[.int .i64 0, .int .i64 0, .int .i64 0, .int .i64 0, .string (⟨#[]⟩ : ByteArray)] 30 (0, 0)) (by (with_reducible repeat (first | refine blk_drewN ?_ _ | refine blk_drew ?_ | refine blk_alloc ?_ _)); refine blk_far ?_ NB446_451.out _; (with_reducible repeat (first | refine blk_drewN ?_ _ | refine blk_drew ?_ | refine blk_alloc ?_ _)); refine blk_far ?_ NB446_451.out _; (with_reducible repeat (first | refine blk_drewN ?_ _ | refine blk_drew ?_ | refine blk_alloc ?_ _)); refine blk_far ?_ NB446_451.out _; (with_reducible repeat (first | refine blk_drewN ?_ _ | refine blk_drew ?_ | refine blk_alloc ?_ _)); refine blk_far ?_ NB446_451.out _; (with_reducible repeat (first | refine blk_drewN ?_ _ | refine blk_drew ?_ | refine blk_alloc ?_ _)); refine blk_far ?_ NB446_451.out _; (with_reducible repeat (first | refine blk_drewN ?_ _ | refine blk_drew ?_ | refine blk_alloc ?_ _)); exact BK446.out) NB446_0.out (by simp)); have n1_ := Aside0.mk (KeepBut.blk hk (g' := gb451) (o := .cells #[.int .i64 2, .int .i64 t447, .int .i64 0, .int .i64 0, .string t449] 30 (0, 0)) (by (with_reducible repeat (first | refine blk_drewN ?_ _ | refine blk_drew ?_ | refine blk_alloc ?_ _)); refine blk_put (cs := #[.int .i64 2, .int .i64 t447, .int .i64 0, .int .i64 0, .string (⟨#[]⟩ : ByteArray)]) ?_ 4 _ rfl; (with_reducible repeat (first | refine blk_drewN ?_ _ | refine blk_drew ?_ | refine blk_alloc ?_ _)); refine blk_put (cs := #[.int .i64 2, .int .i64 t447, .int .i64 0, .int .i64 0, .string (⟨#[]⟩ : ByteArray)]) ?_ 3 _ rfl; (with_reducible repeat (first | refine blk_drewN ?_ _ | refine blk_drew ?_ | refine blk_alloc ?_ _)); refine blk_put (cs := #[.int .i64 2, .int .i64 t447, .int .i64 0, .int .i64 0, .string (⟨#[]⟩ : ByteArray)]) ?_ 2 _ rfl; (with_reducible repeat (first | refine blk_drewN ?_ _ | refine blk_drew ?_ | refine blk_alloc ?_ _)); refine blk_put (cs := #[.int .i64 2, .int .i64 0, .int .i64 0, .int .i64 0, .string (⟨#[]⟩ : ByteArray)]) ?_ 1 _ rfl; (with_reducible repeat (first | refine blk_drewN ?_ _ | refine blk_drew ?_ | refine blk_alloc ?_ _)); refine blk_put (cs := #[.int .i64 0, .int .i64 0, .int .i64 0, .int .i64 0, .string (⟨#[]⟩ : ByteArray)]) ?_ 0 _ rfl; (with_reducible repeat (first | refine blk_drewN ?_ _ | refine blk_drew ?_ | refine blk_alloc ?_ _)); exact BK451.out) NB451_0.out (by simp)); have n2_ := Aside0.mk (KeepBut.trans (kf_ HK.out) hk (.inl rfl)); have n3_ := Aside0.mk (hb); have n4_ := Aside0.mk (hi); clear BK446; clear BK451; clear HK; clear HB; clear HI0; have BK446 := n0_; have BK451 := n1_; have HK := n2_; have HB := n3_; have HI0 := n4_; clear n0_ n1_ n2_ n3_ n4_; (try clear hb hk hi)) | ((with_reducible refine gate_dst (N := 13) rfl ?_); refine Kd.R_lit (Kd.int .i64) _ 3 ?hg (N := 13) ?hd (xs := ([1, 1, t452, 2, 3] : List Int)) (inner := [.int .i64 1, .int .i64 1, .int .i64 t452, .int .i64 2, .int .i64 3]) (ok := fun _ => True) (okp := fun _ => True) ?hr ?hp (fun _ hk => hk) trivial (Below.refl _ _) (Nat.le_refl _) (by simp) ?_; (case hd => rfl); (case hg => rfl); (case hr => first | (go_simp; done) | (go_simp; rfl)); (case hp => exact (Reps.one (show Kd.M (Kd.int .i64) _ _ _ 1 [.int .i64 1] from rfl) (Reps.one (show Kd.M (Kd.int .i64) _ _ _ 1 [.int .i64 1] from rfl) (Reps.one (show Kd.M (Kd.int .i64) _ _ _ t452 [.int .i64 t452] from rfl) (Reps.one (show Kd.M (Kd.int .i64) _ _ _ 2 [.int .i64 2] from rfl) (Reps.one (show Kd.M (Kd.int .i64) _ _ _ 3 [.int .i64 3] from rfl) (Reps.none _ _))))))); intro v455 w22 ho23 hb hg_ hnew_; clear hg_ hnew_; (first | rw [← Ny454.out] at ho23 | (simp only [Int.reduceToNat] at ho23; rw [← Ny454.out] at ho23)); have HO456 := Aside0.mk (Kd.R_lower ho23 (keep_size (w := w) (g := g) (row := none) (kf_ HK.out))); replace HK := Aside0.mk (KeepBut.trans (kf_ HK.out) (KeepBut.of_below hb g none) (.inl rfl)); replace HB := Aside0.mk (below_step (bel_) hb); replace HI0 := Aside0.mk (IsS106.below (is_HI0) hb); replace BK446 := Aside0.mk (bb_ BK446.out hb); replace BK451 := Aside0.mk (bb_ BK451.out hb); clear hb ho23) | ((with_reducible refine gate_callee (f := 72) rfl ?_); refine gl_ 15 Tryd.func72 #[.pointer (some ⟨g, 0, none⟩), .int .i64 5] ?_; (with_reducible refine (spec_l6Rd_pick.calls k g s0_0 t453 5 t457 t458 w0 _ ?side1 ?side2 A5.out).mono ?_); (case side1 => exact is_HI0); (case side2 => exact bel_); rintro e w24 ⟨rfl, hi, hb, hk⟩; refine ⟨_, rfl, ?_⟩; replace BK446 := Aside0.mk (kb_ hk BK446.out NB446_0.out); replace BK451 := Aside0.mk (kb_ hk BK451.out NB451_0.out); replace HO456 := Aside0.mk (Kd.R_mono (Kd.R_keep (IsS106.apart (show IsS106 w0 _ g s0_0 t453 from is_HI0) (rp_ HO456.out) (by decide)) hk (fun _ h => h.2)) (fun _ h => h.1)); replace HK := Aside0.mk (KeepBut.trans (kf_ HK.out) hk (.inl rfl)); replace HB := Aside0.mk (hb); replace HI0 := Aside0.mk (hi); (try clear hb hk hi); obtain ⟨Ao25, co25, eo25⟩ := Kd.R_slice HO456.out; subst eo25; have p459 : 0 ≤ (t457 : Int) := od_; have q459 : t457 < (y454.length : Int) := od_; obtain ⟨ad459, e459, hx459_0⟩ := Kd.at_int (Kd.R_reads' HO456.out).2.2 t457 p459 q459; cases e459; replace p459 := eq_true p459; replace q459 := eq_true q459) | ((with_reducible refine gate_callee (f := 83) rfl ?_); refine gl_ 19 Tryd.func83 #[.pointer (some ⟨g, 0, none⟩)] ?_; (with_reducible refine (spec_l71Id.calls k g s0_0 t458 t460 t461 w0 _ ?side1 ?side2 A8.out).mono ?_); (case side1 => exact is_HI0); (case side2 => exact bel_); rintro e w26 ⟨rfl, hi, hb, hk⟩; refine ⟨_, rfl, ?_⟩; replace BK446 := Aside0.mk (kb_ hk BK446.out NB446_0.out); replace BK451 := Aside0.mk (kb_ hk BK451.out NB451_0.out); replace HO456 := Aside0.mk (Kd.R_mono (Kd.R_keep (IsS106.apart (show IsS106 w0 _ g s0_0 t458 from is_HI0) (rp_ HO456.out) (by decide)) hk (fun _ h => h.2)) (fun _ h => h.1)); replace HK := Aside0.mk (KeepBut.trans (kf_ HK.out) hk (.inl rfl)); replace HB := Aside0.mk (hb); replace HI0 := Aside0.mk (hi); (try clear hb hk hi)) | ((with_reducible refine gate_dst (N := 20) rfl ?_); refine Kd.R_lit (Kd.int .i64) _ 3 ?hg (N := 20) ?hd (xs := ([0, t460] : List Int)) (inner := [.int .i64 0, .int .i64 t460]) (ok := fun _ => True) (okp := fun _ => True) ?hr ?hp (fun _ hk => hk) trivial (Below.refl _ _) (Nat.le_refl _) (by simp) ?_; (case hd => rfl); (case hg => rfl); (case hr => first | (go_simp; done) | (go_simp; rfl)); (case hp => exact (Reps.one (show Kd.M (Kd.int .i64) _ _ _ 0 [.int .i64 0] from rfl) (Reps.one (show Kd.M (Kd.int .i64) _ _ _ t460 [.int .i64 t460] from rfl) (Reps.none _ _)))); intro v463 w27 ho28 hb hg_ hnew_; clear hg_ hnew_; (first | rw [← Ny462.out] at ho28 | (simp only [Int.reduceToNat] at ho28; rw [← Ny462.out] at ho28)); have HO464 := Aside0.mk (Kd.R_lower (Kd.R_new' ho28 (Kd.R_lt (rp_ HO456.out))) (keep_size (w := w) (g := g) (row := none) (kf_ HK.out))); replace HO456 := Aside0.mk (Kd.R_elder' (rp_ HO456.out) (Kd.R_base ho28) hb); replace HK := Aside0.mk (KeepBut.trans (kf_ HK.out) (KeepBut.of_below hb g none) (.inl rfl)); replace HB := Aside0.mk (below_step (bel_) hb); replace HI0 := Aside0.mk (IsS106.below (is_HI0) hb); replace BK446 := Aside0.mk (bb_ BK446.out hb); replace BK451 := Aside0.mk (bb_ BK451.out hb); clear hb ho28) | ((with_reducible refine gate_callee (f := 72) rfl ?_); refine gl_ 22 Tryd.func72 #[.pointer (some ⟨g, 0, none⟩), .int .i64 2] ?_; (with_reducible refine (spec_l6Rd_pick.calls k g s0_0 t461 2 t465 t466 w0 _ ?side1 ?side2 A9.out).mono ?_); (case side1 => exact is_HI0); (case side2 => exact bel_); rintro e w29 ⟨rfl, hi, hb, hk⟩; refine ⟨_, rfl, ?_⟩; replace BK446 := Aside0.mk (kb_ hk BK446.out NB446_0.out); replace BK451 := Aside0.mk (kb_ hk BK451.out NB451_0.out); replace HO456 := Aside0.mk (Kd.R_mono (Kd.R_keep (IsS106.apart (show IsS106 w0 _ g s0_0 t461 from is_HI0) (rp_ HO456.out) (by decide)) hk (fun _ h => h.2)) (fun _ h => h.1)); replace HO464 := Aside0.mk (Kd.R_mono (Kd.R_keep (IsS106.apart (show IsS106 w0 _ g s0_0 t461 from is_HI0) (rp_ HO464.out) (by decide)) hk (fun _ h => h.2)) (fun _ h => h.1)); replace HK := Aside0.mk (KeepBut.trans (kf_ HK.out) hk (.inl rfl)); replace HB := Aside0.mk (hb); replace HI0 := Aside0.mk (hi); (try clear hb hk hi); obtain ⟨Ao30, co30, eo30⟩ := Kd.R_slice HO464.out; subst eo30; have p467 : 0 ≤ (t465 : Int) := od_; have q467 : t465 < (y462.length : Int) := od_; obtain ⟨ad467, e467, hx467_0⟩ := Kd.at_int (Kd.R_reads' HO464.out).2.2 t465 p467 q467; cases e467; replace p467 := eq_true p467; replace q467 := eq_true q467) | ((with_reducible refine gate_callee (f := 72) rfl ?_); refine gl_ 26 Tryd.func72 #[.pointer (some ⟨g, 0, none⟩), .int .i64 5] ?_; (with_reducible refine (spec_l6Rd_pick.calls k g s0_0 t466 5 t468 t469 w0 _ ?side1 ?side2 A12.out).mono ?_); (case side1 => exact is_HI0); (case side2 => exact bel_); rintro e w31 ⟨rfl, hi, hb, hk⟩; refine ⟨_, rfl, ?_⟩; replace BK446 := Aside0.mk (kb_ hk BK446.out NB446_0.out); replace BK451 := Aside0.mk (kb_ hk BK451.out NB451_0.out); replace HO456 := Aside0.mk (Kd.R_mono (Kd.R_keep (IsS106.apart (show IsS106 w0 _ g s0_0 t466 from is_HI0) (rp_ HO456.out) (by decide)) hk (fun _ h => h.2)) (fun _ h => h.1)); replace HO464 := Aside0.mk (Kd.R_mono (Kd.R_keep (IsS106.apart (show IsS106 w0 _ g s0_0 t466 from is_HI0) (rp_ HO464.out) (by decide)) hk (fun _ h => h.2)) (fun _ h => h.1)); replace HK := Aside0.mk (KeepBut.trans (kf_ HK.out) hk (.inl rfl)); replace HB := Aside0.mk (hb); replace HI0 := Aside0.mk (hi); (try clear hb hk hi)))
     (try simp only [Act.put, List.setIfInBounds_toArray, List.set_cons_zero, List.set_cons_succ])
     go_cut [] (fun wc => ∃ (kq : Nat) (x452000_12 : Int) (x452001_12 : Int) (x452002_12 : Int) (x452003_12 : Int) (x452004_12 : ByteArray), Aside0 (spec_l71Op.j1 kq s0_0 t469 x452000_12 x452001_12 x452002_12 x452003_12 x452004_12 = some (r1, r2, r3, r4, r5, r6)) ∧ Aside0 (kq ≤ k) ∧ Aside0 (wc.heap[gb446]? = some (.cells #[.int .i64 0, .int .i64 0, .int .i64 0, .int .i64 0, .string (⟨#[]⟩ : ByteArray)] 30 (0, 0))) ∧ Aside0 (wc.heap[gb451]? = some (.cells #[.int .i64 x452000_12, .int .i64 x452001_12, .int .i64 x452002_12, .int .i64 x452003_12, .string x452004_12] 30 (0, 0))) ∧ Aside0 (IsS106 w0 wc g s0_0 t469) ∧ Aside0 (KeepBut w wc g none) ∧ Aside0 (Below w0.heap.size w0 wc))
     case first =>
      have H := HC13.out
      clear HC13
      have HC32 := Aside0.mk H
      clear H
      go_upto_if 27 with (fail)
      go_cut [27] (fun v27 wc => ∃ (kq : Nat) (x27_31 : Bool), v27 = .bool x27_31 ∧ Aside0 (spec_l71Op.j0 kq (rd y454 t457) (rd y462 t465) t468 x27_31 s0_0 t469 2 t447 0 0 t449 = some (r1, r2, r3, r4, r5, r6)) ∧ Aside0 (kq ≤ k) ∧ Aside0 (wc.heap[gb446]? = some (.cells #[.int .i64 0, .int .i64 0, .int .i64 0, .int .i64 0, .string (⟨#[]⟩ : ByteArray)] 30 (0, 0))) ∧ Aside0 (wc.heap[gb451]? = some (.cells #[.int .i64 2, .int .i64 t447, .int .i64 0, .int .i64 0, .string t449] 30 (0, 0))) ∧ Aside0 (IsS106 w0 wc g s0_0 t469) ∧ Aside0 (KeepBut w wc g none) ∧ Aside0 (Below w0.heap.size w0 wc))
      case first =>
       have H := HC32.out
       clear HC32
       by_cases c33 : t468 = 0
       ·rw [if_pos c33] at H
        have c33b0 : (t468 == 0) = true := beq_iff_eq.mpr c33
        have c33b1 : (t468 != 0) = false := bne_eq_false_iff_eq.mpr c33
        clear c33
        (first | rw [c33b0] | (simp only [i64_w, i32_w]; rw [c33b0]) | skip)
        have H' := Aside0.mk H
        clear H
        go_wp2
        go_meet
        case rel => exact ⟨_, ((t468 == 0)), (si_), H', ⟨by first | omega | exact Nat.le_refl _⟩, ⟨by (with_reducible repeat (first | refine blk_drewN ?_ _ | refine blk_drew ?_ | refine blk_alloc ?_ _)); exact BK446.out⟩, ⟨by (with_reducible repeat (first | refine blk_drewN ?_ _ | refine blk_drew ?_ | refine blk_alloc ?_ _)); exact BK451.out⟩, ⟨is_HI0⟩, ⟨kf_ HK.out⟩, ⟨bel_⟩⟩
       ·rw [if_neg c33] at H
        have c33b0 : (t468 == 0) = false := beq_eq_false_iff_ne.mpr c33
        have c33b1 : (t468 != 0) = true := bne_iff_ne.mpr c33
        (first | rw [c33b0] | (simp only [i64_w, i32_w]; rw [c33b0]) | skip)
        have H' := Aside0.mk H
        clear H
        go_wp2
        go_meet
        case rel => exact ⟨_, ((t468 == 1)), (si_), H', ⟨by first | omega | exact Nat.le_refl _⟩, ⟨by (with_reducible repeat (first | refine blk_drewN ?_ _ | refine blk_drew ?_ | refine blk_alloc ?_ _)); exact BK446.out⟩, ⟨by (with_reducible repeat (first | refine blk_drewN ?_ _ | refine blk_drew ?_ | refine blk_alloc ?_ _)); exact BK451.out⟩, ⟨is_HI0⟩, ⟨kf_ HK.out⟩, ⟨bel_⟩⟩
      case rest =>
       clear HC32
       try clear c1
       try clear p2
       try clear c3
       try clear p4
       try clear q4
       try clear hx4
       try clear c6
       try clear c6b0
       try clear c7
       try clear c7b0
       try clear c8
       try clear c10
       try clear c10b0
       try clear c11
       try clear c11b0
       try clear c18
       try clear c19
       try clear c33
       try clear c33b0
       try clear c33b1
       try clear hcz20_0
       try clear hcz20_1
       try clear hcz20_2
       try clear hcz20_3
       try clear hcz20_4
       try clear hfz20_0
       try clear hfz20_1
       try clear hfz20_2
       try clear hfz20_3
       try clear hfz20_4
       try clear hx459_0
       try clear hx467_0
       try clear p459
       try clear p467
       try clear q459
       try clear q467
       obtain ⟨kq, x27_31, rfl, HA, HJ31, BK446, BK451, HI0, HK, HB⟩ := hcut
       cases kq with
       | zero => exact absurd HA.out (by simp [spec_l71Op.j0])
       | succ kj31 =>
        have H := HA.out
        clear HA
        simp only [spec_l71Op.j0] at H
        by_cases c34 : x27_31 = true
        ·subst c34
         have H1 : (spec_l71Op.j1 kj31 s0_0 t469 1 t447 (rd y454 t457) (rd y462 t465) t449) = some (r1, r2, r3, r4, r5, r6) := by rw [if_pos rfl] at H; exact H
         clear H
         have H := H1
         clear H1
         have H' := Aside0.mk H
         clear H
         have hnb35 := NB451_446.out
         have hnc35 := NB446_451.out
         have hnb36 := NB451_0.out
         have hnc36 := NB0_451.out
         have hcz37_0 : wc.cell? ⟨gb451, 0, none⟩ = some (.int .i64 2) := (blk_cell BK451.out 0).trans rfl
         have hcz37_1 : wc.cell? ⟨gb451, 1, none⟩ = some (.int .i64 t447) := (blk_cell BK451.out 1).trans rfl
         have hcz37_2 : wc.cell? ⟨gb451, 2, none⟩ = some (.int .i64 0) := (blk_cell BK451.out 2).trans rfl
         have hcz37_3 : wc.cell? ⟨gb451, 3, none⟩ = some (.int .i64 0) := (blk_cell BK451.out 3).trans rfl
         have hcz37_4 : wc.cell? ⟨gb451, 4, none⟩ = some (.string t449) := (blk_cell BK451.out 4).trans rfl
         have hfz37_0 := blk_frozen BK451.out 0
         have hfz37_1 := blk_frozen BK451.out 1
         have hfz37_2 := blk_frozen BK451.out 2
         have hfz37_3 := blk_frozen BK451.out 3
         have hfz37_4 := blk_frozen BK451.out 4
         go_wp2
         go_meet
         case rel => exact ⟨_, (1), (t447), ((rd y454 t457)), ((rd y462 t465)), (t449), H', ⟨by have := HJ31.out; first | omega | exact Nat.le_refl _⟩, ⟨by (with_reducible repeat (first | refine blk_drewN ?_ _ | refine blk_drew ?_ | refine blk_alloc ?_ _)); refine blk_far ?_ NB446_451.out _; (with_reducible repeat (first | refine blk_drewN ?_ _ | refine blk_drew ?_ | refine blk_alloc ?_ _)); refine blk_far ?_ NB446_451.out _; (with_reducible repeat (first | refine blk_drewN ?_ _ | refine blk_drew ?_ | refine blk_alloc ?_ _)); refine blk_far ?_ NB446_451.out _; (with_reducible repeat (first | refine blk_drewN ?_ _ | refine blk_drew ?_ | refine blk_alloc ?_ _)); refine blk_far ?_ NB446_451.out _; (with_reducible repeat (first | refine blk_drewN ?_ _ | refine blk_drew ?_ | refine blk_alloc ?_ _)); refine blk_far ?_ NB446_451.out _; (with_reducible repeat (first | refine blk_drewN ?_ _ | refine blk_drew ?_ | refine blk_alloc ?_ _)); exact BK446.out⟩, ⟨by (with_reducible repeat (first | refine blk_drewN ?_ _ | refine blk_drew ?_ | refine blk_alloc ?_ _)); refine blk_put (cs := #[.int .i64 1, .int .i64 t447, .int .i64 (rd y454 t457), .int .i64 (rd y462 t465), .string t449]) ?_ 4 _ rfl; (with_reducible repeat (first | refine blk_drewN ?_ _ | refine blk_drew ?_ | refine blk_alloc ?_ _)); refine blk_put (cs := #[.int .i64 1, .int .i64 t447, .int .i64 (rd y454 t457), .int .i64 0, .string t449]) ?_ 3 _ rfl; (with_reducible repeat (first | refine blk_drewN ?_ _ | refine blk_drew ?_ | refine blk_alloc ?_ _)); refine blk_put (cs := #[.int .i64 1, .int .i64 t447, .int .i64 0, .int .i64 0, .string t449]) ?_ 2 _ rfl; (with_reducible repeat (first | refine blk_drewN ?_ _ | refine blk_drew ?_ | refine blk_alloc ?_ _)); refine blk_put (cs := #[.int .i64 1, .int .i64 t447, .int .i64 0, .int .i64 0, .string t449]) ?_ 1 _ rfl; (with_reducible repeat (first | refine blk_drewN ?_ _ | refine blk_drew ?_ | refine blk_alloc ?_ _)); refine blk_put (cs := #[.int .i64 2, .int .i64 t447, .int .i64 0, .int .i64 0, .string t449]) ?_ 0 _ rfl; (with_reducible repeat (first | refine blk_drewN ?_ _ | refine blk_drew ?_ | refine blk_alloc ?_ _)); exact BK451.out⟩, ⟨is_HI0⟩, ⟨kf_ HK.out⟩, ⟨bel_⟩⟩
        ·replace c34 := Bool.eq_false_iff.mpr c34
         subst c34
         have H1 : (if t468 = 2 then (spec_l71Op.j1 kj31 s0_0 t469 3 t447 (rd y454 t457) (rd y462 t465) (⟨#[]⟩ : ByteArray)) else (if t468 = 3 then (spec_l71Op.j1 kj31 s0_0 t469 3 t447 (rd y454 t457) (rd y462 t465) (⟨#[]⟩ : ByteArray)) else (spec_l71Op.j1 kj31 s0_0 t469 2 t447 0 0 t449))) = some (r1, r2, r3, r4, r5, r6) := by rw [if_neg (show ¬ (false = true) by decide)] at H; exact H
         clear H
         have H := H1
         clear H1
         by_cases c38 : t468 = 2
         ·rw [if_pos c38] at H
          have c38b0 : (t468 == 2) = true := beq_iff_eq.mpr c38
          have c38b1 : (t468 != 2) = false := bne_eq_false_iff_eq.mpr c38
          clear c38
          have H' := Aside0.mk H
          clear H
          have hnb39 := NB451_446.out
          have hnc39 := NB446_451.out
          have hnb40 := NB451_0.out
          have hnc40 := NB0_451.out
          have hcz41_0 : wc.cell? ⟨gb451, 0, none⟩ = some (.int .i64 2) := (blk_cell BK451.out 0).trans rfl
          have hcz41_1 : wc.cell? ⟨gb451, 1, none⟩ = some (.int .i64 t447) := (blk_cell BK451.out 1).trans rfl
          have hcz41_2 : wc.cell? ⟨gb451, 2, none⟩ = some (.int .i64 0) := (blk_cell BK451.out 2).trans rfl
          have hcz41_3 : wc.cell? ⟨gb451, 3, none⟩ = some (.int .i64 0) := (blk_cell BK451.out 3).trans rfl
          have hcz41_4 : wc.cell? ⟨gb451, 4, none⟩ = some (.string t449) := (blk_cell BK451.out 4).trans rfl
          have hfz41_0 := blk_frozen BK451.out 0
          have hfz41_1 := blk_frozen BK451.out 1
          have hfz41_2 := blk_frozen BK451.out 2
          have hfz41_3 := blk_frozen BK451.out 3
          have hfz41_4 := blk_frozen BK451.out 4
          go_wp2
          go_meet
          case rel => exact ⟨_, (3), (t447), ((rd y454 t457)), ((rd y462 t465)), ((⟨#[]⟩ : ByteArray)), H', ⟨by have := HJ31.out; first | omega | exact Nat.le_refl _⟩, ⟨by (with_reducible repeat (first | refine blk_drewN ?_ _ | refine blk_drew ?_ | refine blk_alloc ?_ _)); refine blk_far ?_ NB446_451.out _; (with_reducible repeat (first | refine blk_drewN ?_ _ | refine blk_drew ?_ | refine blk_alloc ?_ _)); refine blk_far ?_ NB446_451.out _; (with_reducible repeat (first | refine blk_drewN ?_ _ | refine blk_drew ?_ | refine blk_alloc ?_ _)); refine blk_far ?_ NB446_451.out _; (with_reducible repeat (first | refine blk_drewN ?_ _ | refine blk_drew ?_ | refine blk_alloc ?_ _)); refine blk_far ?_ NB446_451.out _; (with_reducible repeat (first | refine blk_drewN ?_ _ | refine blk_drew ?_ | refine blk_alloc ?_ _)); refine blk_far ?_ NB446_451.out _; (with_reducible repeat (first | refine blk_drewN ?_ _ | refine blk_drew ?_ | refine blk_alloc ?_ _)); exact BK446.out⟩, ⟨by (with_reducible repeat (first | refine blk_drewN ?_ _ | refine blk_drew ?_ | refine blk_alloc ?_ _)); refine blk_put (cs := #[.int .i64 3, .int .i64 t447, .int .i64 (rd y454 t457), .int .i64 (rd y462 t465), .string t449]) ?_ 4 _ rfl; (with_reducible repeat (first | refine blk_drewN ?_ _ | refine blk_drew ?_ | refine blk_alloc ?_ _)); refine blk_put (cs := #[.int .i64 3, .int .i64 t447, .int .i64 (rd y454 t457), .int .i64 0, .string t449]) ?_ 3 _ rfl; (with_reducible repeat (first | refine blk_drewN ?_ _ | refine blk_drew ?_ | refine blk_alloc ?_ _)); refine blk_put (cs := #[.int .i64 3, .int .i64 t447, .int .i64 0, .int .i64 0, .string t449]) ?_ 2 _ rfl; (with_reducible repeat (first | refine blk_drewN ?_ _ | refine blk_drew ?_ | refine blk_alloc ?_ _)); refine blk_put (cs := #[.int .i64 3, .int .i64 t447, .int .i64 0, .int .i64 0, .string t449]) ?_ 1 _ rfl; (with_reducible repeat (first | refine blk_drewN ?_ _ | refine blk_drew ?_ | refine blk_alloc ?_ _)); refine blk_put (cs := #[.int .i64 2, .int .i64 t447, .int .i64 0, .int .i64 0, .string t449]) ?_ 0 _ rfl; (with_reducible repeat (first | refine blk_drewN ?_ _ | refine blk_drew ?_ | refine blk_alloc ?_ _)); exact BK451.out⟩, ⟨is_HI0⟩, ⟨kf_ HK.out⟩, ⟨bel_⟩⟩
         ·rw [if_neg c38] at H
          have c38b0 : (t468 == 2) = false := beq_eq_false_iff_ne.mpr c38
          have c38b1 : (t468 != 2) = true := bne_iff_ne.mpr c38
          by_cases c42 : t468 = 3
          ·rw [if_pos c42] at H
           have c42b0 : (t468 == 3) = true := beq_iff_eq.mpr c42
           have c42b1 : (t468 != 3) = false := bne_eq_false_iff_eq.mpr c42
           clear c42
           have H' := Aside0.mk H
           clear H
           have hnb43 := NB451_446.out
           have hnc43 := NB446_451.out
           have hnb44 := NB451_0.out
           have hnc44 := NB0_451.out
           have hcz45_0 : wc.cell? ⟨gb451, 0, none⟩ = some (.int .i64 2) := (blk_cell BK451.out 0).trans rfl
           have hcz45_1 : wc.cell? ⟨gb451, 1, none⟩ = some (.int .i64 t447) := (blk_cell BK451.out 1).trans rfl
           have hcz45_2 : wc.cell? ⟨gb451, 2, none⟩ = some (.int .i64 0) := (blk_cell BK451.out 2).trans rfl
           have hcz45_3 : wc.cell? ⟨gb451, 3, none⟩ = some (.int .i64 0) := (blk_cell BK451.out 3).trans rfl
           have hcz45_4 : wc.cell? ⟨gb451, 4, none⟩ = some (.string t449) := (blk_cell BK451.out 4).trans rfl
           have hfz45_0 := blk_frozen BK451.out 0
           have hfz45_1 := blk_frozen BK451.out 1
           have hfz45_2 := blk_frozen BK451.out 2
           have hfz45_3 := blk_frozen BK451.out 3
           have hfz45_4 := blk_frozen BK451.out 4
           go_wp2
           go_meet
           case rel => exact ⟨_, (3), (t447), ((rd y454 t457)), ((rd y462 t465)), ((⟨#[]⟩ : ByteArray)), H', ⟨by have := HJ31.out; first | omega | exact Nat.le_refl _⟩, ⟨by (with_reducible repeat (first | refine blk_drewN ?_ _ | refine blk_drew ?_ | refine blk_alloc ?_ _)); refine blk_far ?_ NB446_451.out _; (with_reducible repeat (first | refine blk_drewN ?_ _ | refine blk_drew ?_ | refine blk_alloc ?_ _)); refine blk_far ?_ NB446_451.out _; (with_reducible repeat (first | refine blk_drewN ?_ _ | refine blk_drew ?_ | refine blk_alloc ?_ _)); refine blk_far ?_ NB446_451.out _; (with_reducible repeat (first | refine blk_drewN ?_ _ | refine blk_drew ?_ | refine blk_alloc ?_ _)); refine blk_far ?_ NB446_451.out _; (with_reducible repeat (first | refine blk_drewN ?_ _ | refine blk_drew ?_ | refine blk_alloc ?_ _)); refine blk_far ?_ NB446_451.out _; (with_reducible repeat (first | refine blk_drewN ?_ _ | refine blk_drew ?_ | refine blk_alloc ?_ _)); exact BK446.out⟩, ⟨by (with_reducible repeat (first | refine blk_drewN ?_ _ | refine blk_drew ?_ | refine blk_alloc ?_ _)); refine blk_put (cs := #[.int .i64 3, .int .i64 t447, .int .i64 (rd y454 t457), .int .i64 (rd y462 t465), .string t449]) ?_ 4 _ rfl; (with_reducible repeat (first | refine blk_drewN ?_ _ | refine blk_drew ?_ | refine blk_alloc ?_ _)); refine blk_put (cs := #[.int .i64 3, .int .i64 t447, .int .i64 (rd y454 t457), .int .i64 0, .string t449]) ?_ 3 _ rfl; (with_reducible repeat (first | refine blk_drewN ?_ _ | refine blk_drew ?_ | refine blk_alloc ?_ _)); refine blk_put (cs := #[.int .i64 3, .int .i64 t447, .int .i64 0, .int .i64 0, .string t449]) ?_ 2 _ rfl; (with_reducible repeat (first | refine blk_drewN ?_ _ | refine blk_drew ?_ | refine blk_alloc ?_ _)); refine blk_put (cs := #[.int .i64 3, .int .i64 t447, .int .i64 0, .int .i64 0, .string t449]) ?_ 1 _ rfl; (with_reducible repeat (first | refine blk_drewN ?_ _ | refine blk_drew ?_ | refine blk_alloc ?_ _)); refine blk_put (cs := #[.int .i64 2, .int .i64 t447, .int .i64 0, .int .i64 0, .string t449]) ?_ 0 _ rfl; (with_reducible repeat (first | refine blk_drewN ?_ _ | refine blk_drew ?_ | refine blk_alloc ?_ _)); exact BK451.out⟩, ⟨is_HI0⟩, ⟨kf_ HK.out⟩, ⟨bel_⟩⟩
          ·rw [if_neg c42] at H
           have c42b0 : (t468 == 3) = false := beq_eq_false_iff_ne.mpr c42
           have c42b1 : (t468 != 3) = true := bne_iff_ne.mpr c42
           have H' := Aside0.mk H
           clear H
           go_wp2
           go_meet
           case rel => exact ⟨_, (2), (t447), (0), (0), (t449), H', ⟨by have := HJ31.out; first | omega | exact Nat.le_refl _⟩, ⟨by (with_reducible repeat (first | refine blk_drewN ?_ _ | refine blk_drew ?_ | refine blk_alloc ?_ _)); exact BK446.out⟩, ⟨by (with_reducible repeat (first | refine blk_drewN ?_ _ | refine blk_drew ?_ | refine blk_alloc ?_ _)); exact BK451.out⟩, ⟨is_HI0⟩, ⟨kf_ HK.out⟩, ⟨bel_⟩⟩
     case rest =>
      clear HC13
      try clear c1
      try clear p2
      try clear c3
      try clear c4
      try clear p4
      try clear q4
      try clear hx4
      try clear c6
      try clear c6b0
      try clear c7
      try clear c7b0
      try clear c8
      try clear c10
      try clear c10b0
      try clear c11
      try clear c11b0
      try clear c18
      try clear c19
      try clear c33
      try clear c33b0
      try clear c33b1
      try clear c34
      try clear c35
      try clear c36
      try clear c38
      try clear c38b0
      try clear c38b1
      try clear c39
      try clear c40
      try clear c42
      try clear c42b0
      try clear c42b1
      try clear c43
      try clear c44
      try clear p45
      try clear q45
      try clear hx45
      try clear hcz20_0
      try clear hcz20_1
      try clear hcz20_2
      try clear hcz20_3
      try clear hcz20_4
      try clear hcz37_0
      try clear hcz37_1
      try clear hcz37_2
      try clear hcz37_3
      try clear hcz37_4
      try clear hcz41_0
      try clear hcz41_1
      try clear hcz41_2
      try clear hcz41_3
      try clear hcz41_4
      try clear hcz45_0
      try clear hcz45_1
      try clear hcz45_2
      try clear hcz45_3
      try clear hcz45_4
      try clear hfz20_0
      try clear hfz20_1
      try clear hfz20_2
      try clear hfz20_3
      try clear hfz20_4
      try clear hfz37_0
      try clear hfz37_1
      try clear hfz37_2
      try clear hfz37_3
      try clear hfz37_4
      try clear hfz41_0
      try clear hfz41_1
      try clear hfz41_2
      try clear hfz41_3
      try clear hfz41_4
      try clear hfz45_0
      try clear hfz45_1
      try clear hfz45_2
      try clear hfz45_3
      try clear hfz45_4
      try clear hx459_0
      try clear hx467_0
      try clear p2
      try clear p4
      try clear p459
      try clear p467
      try clear q4
      try clear q459
      try clear q467
      obtain ⟨kq, x452000_12, x452001_12, x452002_12, x452003_12, x452004_12, HA, HJ12, BK446, BK451, HI0, HK, HB⟩ := hcut
      cases kq with
      | zero => exact absurd HA.out (by simp [spec_l71Op.j1])
      | succ kj12 =>
       have H := HA.out
       clear HA
       simp only [spec_l71Op.j1] at H
       replace H := Option.bind_eq_some_iff.mp H
       obtain ⟨⟨t470, t471⟩, A460, H⟩ := H
       try dsimp only at H
       have A46 := Aside0.mk A460
       clear A460
       by_cases c47 : t470 = 0
       ·rw [if_pos c47] at H
        have c47b0 : (t470 == 0) = true := beq_iff_eq.mpr c47
        have c47b1 : (t470 != 0) = false := bne_eq_false_iff_eq.mpr c47
        clear c47
        replace H := Option.bind_eq_some_iff.mp H
        obtain ⟨⟨t472, t473⟩, A480, H⟩ := H
        try dsimp only at H
        have A48 := Aside0.mk A480
        clear A480
        simp only [Option.some.injEq, Prod.mk.injEq] at H
        obtain ⟨rfl, rfl, rfl, rfl, rfl, rfl⟩ := H
        go_wp2_with (first | ((with_reducible refine gate_callee (f := 72) rfl ?_); refine gl_ 46 Tryd.func72 #[.pointer (some ⟨g, 0, none⟩), .int .i64 30] ?_; (with_reducible refine (spec_l6Rd_pick.calls kj12 g s0_0 t469 30 t470 t471 w0 _ ?side1 ?side2 A46.out).mono ?_); (case side1 => exact is_HI0); (case side2 => exact bel_); rintro e w49 ⟨rfl, hi, hb, hk⟩; refine ⟨_, rfl, ?_⟩; replace BK446 := Aside0.mk (kb_ hk BK446.out NB446_0.out); replace BK451 := Aside0.mk (kb_ hk BK451.out NB451_0.out); replace HK := Aside0.mk (KeepBut.trans (kf_ HK.out) hk (.inl rfl)); replace HB := Aside0.mk (hb); replace HI0 := Aside0.mk (hi); (try clear hb hk hi)) | ((with_reducible refine gate_callee (f := 72) rfl ?_); refine gl_ 50 Tryd.func72 #[.pointer (some ⟨g, 0, none⟩), .int .i64 5] ?_; (with_reducible refine (spec_l6Rd_pick.calls kj12 g s0_0 t471 5 t472 t473 w0 _ ?side1 ?side2 A48.out).mono ?_); (case side1 => exact is_HI0); (case side2 => exact bel_); rintro e w50 ⟨rfl, hi, hb, hk⟩; refine ⟨_, rfl, ?_⟩; replace BK446 := Aside0.mk (kb_ hk BK446.out NB446_0.out); replace BK451 := Aside0.mk (kb_ hk BK451.out NB451_0.out); replace HK := Aside0.mk (KeepBut.trans (kf_ HK.out) hk (.inl rfl)); replace HB := Aside0.mk (hb); replace HI0 := Aside0.mk (hi); (try clear hb hk hi); have hnb51 := NB451_446.out; have hnc51 := NB446_451.out; have hnb52 := NB451_0.out; have hnc52 := NB0_451.out; have hcz53_0 := cz_ BK451.out 0 (.int .i64 x452000_12); have hcz53_1 := cz_ BK451.out 1 (.int .i64 x452001_12); have hcz53_2 := cz_ BK451.out 2 (.int .i64 x452002_12); have hcz53_3 := cz_ BK451.out 3 (.int .i64 x452003_12); have hcz53_4 := cz_ BK451.out 4 (.string x452004_12); have hfz53_0 := blk_frozen BK451.out 0; have hfz53_1 := blk_frozen BK451.out 1; have hfz53_2 := blk_frozen BK451.out 2; have hfz53_3 := blk_frozen BK451.out 3; have hfz53_4 := blk_frozen BK451.out 4; have hnb54 := NB446_0.out; have hnc54 := NB0_446.out; have hcz55_0 := cz_ BK446.out 0 (.int .i64 0); have hcz55_1 := cz_ BK446.out 1 (.int .i64 0); have hcz55_2 := cz_ BK446.out 2 (.int .i64 0); have hcz55_3 := cz_ BK446.out 3 (.int .i64 0); have hcz55_4 := cz_ BK446.out 4 (.string (⟨#[]⟩ : ByteArray)); have hfz55_0 := blk_frozen BK446.out 0; have hfz55_1 := blk_frozen BK446.out 1; have hfz55_2 := blk_frozen BK446.out 2; have hfz55_3 := blk_frozen BK446.out 3; have hfz55_4 := blk_frozen BK446.out 4))
        refine bodyPost_ret (results_cell_row rfl _ _ gb446 30 #[.int .i64 t472, .int .i64 x452001_12, .int .i64 x452002_12, .int .i64 x452003_12, .string x452004_12] (0, 0) _ rfl (by (with_reducible repeat (first | refine blk_drewN ?_ _ | refine blk_drew ?_ | refine blk_alloc ?_ _)); refine blk_put (cs := #[.int .i64 t472, .int .i64 x452001_12, .int .i64 x452002_12, .int .i64 x452003_12, .string (⟨#[]⟩ : ByteArray)]) ?_ 4 _ rfl; (with_reducible repeat (first | refine blk_drewN ?_ _ | refine blk_drew ?_ | refine blk_alloc ?_ _)); refine blk_put (cs := #[.int .i64 t472, .int .i64 x452001_12, .int .i64 x452002_12, .int .i64 0, .string (⟨#[]⟩ : ByteArray)]) ?_ 3 _ rfl; (with_reducible repeat (first | refine blk_drewN ?_ _ | refine blk_drew ?_ | refine blk_alloc ?_ _)); refine blk_put (cs := #[.int .i64 t472, .int .i64 x452001_12, .int .i64 0, .int .i64 0, .string (⟨#[]⟩ : ByteArray)]) ?_ 2 _ rfl; (with_reducible repeat (first | refine blk_drewN ?_ _ | refine blk_drew ?_ | refine blk_alloc ?_ _)); refine blk_put (cs := #[.int .i64 t472, .int .i64 0, .int .i64 0, .int .i64 0, .string (⟨#[]⟩ : ByteArray)]) ?_ 1 _ rfl; (with_reducible repeat (first | refine blk_drewN ?_ _ | refine blk_drew ?_ | refine blk_alloc ?_ _)); refine blk_put (cs := #[.int .i64 0, .int .i64 0, .int .i64 0, .int .i64 0, .string (⟨#[]⟩ : ByteArray)]) ?_ 0 _ rfl; (with_reducible repeat (first | refine blk_drewN ?_ _ | refine blk_drew ?_ | refine blk_alloc ?_ _)); refine blk_far ?_ NB446_451.out _; (with_reducible repeat (first | refine blk_drewN ?_ _ | refine blk_drew ?_ | refine blk_alloc ?_ _)); exact BK446.out) Tryd.underlying30 rfl (by kernel_rfl)) rfl ?_
        exact ⟨fi_, is_HI0, bel_, kf_ HK.out⟩
       ·rw [if_neg c47] at H
        have c47b0 : (t470 == 0) = false := beq_eq_false_iff_ne.mpr c47
        have c47b1 : (t470 != 0) = true := bne_iff_ne.mpr c47
        by_cases c56 : t470 = 1
        ·rw [if_pos c56] at H
         have c56b0 : (t470 == 1) = true := beq_iff_eq.mpr c56
         have c56b1 : (t470 != 1) = false := bne_eq_false_iff_eq.mpr c56
         clear c56
         replace H := Option.bind_eq_some_iff.mp H
         obtain ⟨⟨t474, t475⟩, A570, H⟩ := H
         try dsimp only at H
         have A57 := Aside0.mk A570
         clear A570
         simp only [Option.some.injEq, Prod.mk.injEq] at H
         obtain ⟨rfl, rfl, rfl, rfl, rfl, rfl⟩ := H
         go_wp2_with (first | ((with_reducible refine gate_callee (f := 72) rfl ?_); refine gl_ 46 Tryd.func72 #[.pointer (some ⟨g, 0, none⟩), .int .i64 30] ?_; (with_reducible refine (spec_l6Rd_pick.calls kj12 g s0_0 t469 30 t470 t471 w0 _ ?side1 ?side2 A46.out).mono ?_); (case side1 => exact is_HI0); (case side2 => exact bel_); rintro e w58 ⟨rfl, hi, hb, hk⟩; refine ⟨_, rfl, ?_⟩; replace BK446 := Aside0.mk (kb_ hk BK446.out NB446_0.out); replace BK451 := Aside0.mk (kb_ hk BK451.out NB451_0.out); replace HK := Aside0.mk (KeepBut.trans (kf_ HK.out) hk (.inl rfl)); replace HB := Aside0.mk (hb); replace HI0 := Aside0.mk (hi); (try clear hb hk hi)) | ((with_reducible refine gate_callee (f := 72) rfl ?_); refine gl_ 55 Tryd.func72 #[.pointer (some ⟨g, 0, none⟩), .int .i64 50] ?_; (with_reducible refine (spec_l6Rd_pick.calls kj12 g s0_0 t471 50 t474 t475 w0 _ ?side1 ?side2 A57.out).mono ?_); (case side1 => exact is_HI0); (case side2 => exact bel_); rintro e w59 ⟨rfl, hi, hb, hk⟩; refine ⟨_, rfl, ?_⟩; replace BK446 := Aside0.mk (kb_ hk BK446.out NB446_0.out); replace BK451 := Aside0.mk (kb_ hk BK451.out NB451_0.out); replace HK := Aside0.mk (KeepBut.trans (kf_ HK.out) hk (.inl rfl)); replace HB := Aside0.mk (hb); replace HI0 := Aside0.mk (hi); (try clear hb hk hi); have hnb60 := NB451_446.out; have hnc60 := NB446_451.out; have hnb61 := NB451_0.out; have hnc61 := NB0_451.out; have hcz62_0 := cz_ BK451.out 0 (.int .i64 x452000_12); have hcz62_1 := cz_ BK451.out 1 (.int .i64 x452001_12); have hcz62_2 := cz_ BK451.out 2 (.int .i64 x452002_12); have hcz62_3 := cz_ BK451.out 3 (.int .i64 x452003_12); have hcz62_4 := cz_ BK451.out 4 (.string x452004_12); have hfz62_0 := blk_frozen BK451.out 0; have hfz62_1 := blk_frozen BK451.out 1; have hfz62_2 := blk_frozen BK451.out 2; have hfz62_3 := blk_frozen BK451.out 3; have hfz62_4 := blk_frozen BK451.out 4; have hnb63 := NB446_0.out; have hnc63 := NB0_446.out; have hcz64_0 := cz_ BK446.out 0 (.int .i64 0); have hcz64_1 := cz_ BK446.out 1 (.int .i64 0); have hcz64_2 := cz_ BK446.out 2 (.int .i64 0); have hcz64_3 := cz_ BK446.out 3 (.int .i64 0); have hcz64_4 := cz_ BK446.out 4 (.string (⟨#[]⟩ : ByteArray)); have hfz64_0 := blk_frozen BK446.out 0; have hfz64_1 := blk_frozen BK446.out 1; have hfz64_2 := blk_frozen BK446.out 2; have hfz64_3 := blk_frozen BK446.out 3; have hfz64_4 := blk_frozen BK446.out 4))
         refine bodyPost_ret (results_cell_row rfl _ _ gb446 30 #[.int .i64 x452000_12, .int .i64 t474, .int .i64 x452002_12, .int .i64 x452003_12, .string x452004_12] (0, 0) _ rfl (by (with_reducible repeat (first | refine blk_drewN ?_ _ | refine blk_drew ?_ | refine blk_alloc ?_ _)); refine blk_put (cs := #[.int .i64 x452000_12, .int .i64 t474, .int .i64 x452002_12, .int .i64 x452003_12, .string (⟨#[]⟩ : ByteArray)]) ?_ 4 _ rfl; (with_reducible repeat (first | refine blk_drewN ?_ _ | refine blk_drew ?_ | refine blk_alloc ?_ _)); refine blk_put (cs := #[.int .i64 x452000_12, .int .i64 t474, .int .i64 x452002_12, .int .i64 0, .string (⟨#[]⟩ : ByteArray)]) ?_ 3 _ rfl; (with_reducible repeat (first | refine blk_drewN ?_ _ | refine blk_drew ?_ | refine blk_alloc ?_ _)); refine blk_put (cs := #[.int .i64 x452000_12, .int .i64 t474, .int .i64 0, .int .i64 0, .string (⟨#[]⟩ : ByteArray)]) ?_ 2 _ rfl; (with_reducible repeat (first | refine blk_drewN ?_ _ | refine blk_drew ?_ | refine blk_alloc ?_ _)); refine blk_put (cs := #[.int .i64 x452000_12, .int .i64 0, .int .i64 0, .int .i64 0, .string (⟨#[]⟩ : ByteArray)]) ?_ 1 _ rfl; (with_reducible repeat (first | refine blk_drewN ?_ _ | refine blk_drew ?_ | refine blk_alloc ?_ _)); refine blk_put (cs := #[.int .i64 0, .int .i64 0, .int .i64 0, .int .i64 0, .string (⟨#[]⟩ : ByteArray)]) ?_ 0 _ rfl; (with_reducible repeat (first | refine blk_drewN ?_ _ | refine blk_drew ?_ | refine blk_alloc ?_ _)); refine blk_far ?_ NB446_451.out _; (with_reducible repeat (first | refine blk_drewN ?_ _ | refine blk_drew ?_ | refine blk_alloc ?_ _)); exact BK446.out) Tryd.underlying30 rfl (by kernel_rfl)) rfl ?_
         exact ⟨fi_, is_HI0, bel_, kf_ HK.out⟩
        ·rw [if_neg c56] at H
         have c56b0 : (t470 == 1) = false := beq_eq_false_iff_ne.mpr c56
         have c56b1 : (t470 != 1) = true := bne_iff_ne.mpr c56
         by_cases c65 : t470 = 2
         ·rw [if_pos c65] at H
          have c65b0 : (t470 == 2) = true := beq_iff_eq.mpr c65
          have c65b1 : (t470 != 2) = false := bne_eq_false_iff_eq.mpr c65
          clear c65
          replace H := Option.bind_eq_some_iff.mp H
          obtain ⟨⟨t476, t477⟩, A660, H⟩ := H
          try dsimp only at H
          have A66 := Aside0.mk A660
          clear A660
          simp only [Option.some.injEq, Prod.mk.injEq] at H
          obtain ⟨rfl, rfl, rfl, rfl, rfl, rfl⟩ := H
          go_wp2_with (first | ((with_reducible refine gate_callee (f := 72) rfl ?_); refine gl_ 46 Tryd.func72 #[.pointer (some ⟨g, 0, none⟩), .int .i64 30] ?_; (with_reducible refine (spec_l6Rd_pick.calls kj12 g s0_0 t469 30 t470 t471 w0 _ ?side1 ?side2 A46.out).mono ?_); (case side1 => exact is_HI0); (case side2 => exact bel_); rintro e w67 ⟨rfl, hi, hb, hk⟩; refine ⟨_, rfl, ?_⟩; replace BK446 := Aside0.mk (kb_ hk BK446.out NB446_0.out); replace BK451 := Aside0.mk (kb_ hk BK451.out NB451_0.out); replace HK := Aside0.mk (KeepBut.trans (kf_ HK.out) hk (.inl rfl)); replace HB := Aside0.mk (hb); replace HI0 := Aside0.mk (hi); (try clear hb hk hi)) | ((with_reducible refine gate_callee (f := 72) rfl ?_); refine gl_ 60 Tryd.func72 #[.pointer (some ⟨g, 0, none⟩), .int .i64 50] ?_; (with_reducible refine (spec_l6Rd_pick.calls kj12 g s0_0 t471 50 t476 t477 w0 _ ?side1 ?side2 A66.out).mono ?_); (case side1 => exact is_HI0); (case side2 => exact bel_); rintro e w68 ⟨rfl, hi, hb, hk⟩; refine ⟨_, rfl, ?_⟩; replace BK446 := Aside0.mk (kb_ hk BK446.out NB446_0.out); replace BK451 := Aside0.mk (kb_ hk BK451.out NB451_0.out); replace HK := Aside0.mk (KeepBut.trans (kf_ HK.out) hk (.inl rfl)); replace HB := Aside0.mk (hb); replace HI0 := Aside0.mk (hi); (try clear hb hk hi); have hnb69 := NB451_446.out; have hnc69 := NB446_451.out; have hnb70 := NB451_0.out; have hnc70 := NB0_451.out; have hcz71_0 := cz_ BK451.out 0 (.int .i64 x452000_12); have hcz71_1 := cz_ BK451.out 1 (.int .i64 x452001_12); have hcz71_2 := cz_ BK451.out 2 (.int .i64 x452002_12); have hcz71_3 := cz_ BK451.out 3 (.int .i64 x452003_12); have hcz71_4 := cz_ BK451.out 4 (.string x452004_12); have hfz71_0 := blk_frozen BK451.out 0; have hfz71_1 := blk_frozen BK451.out 1; have hfz71_2 := blk_frozen BK451.out 2; have hfz71_3 := blk_frozen BK451.out 3; have hfz71_4 := blk_frozen BK451.out 4; have hnb72 := NB446_0.out; have hnc72 := NB0_446.out; have hcz73_0 := cz_ BK446.out 0 (.int .i64 0); have hcz73_1 := cz_ BK446.out 1 (.int .i64 0); have hcz73_2 := cz_ BK446.out 2 (.int .i64 0); have hcz73_3 := cz_ BK446.out 3 (.int .i64 0); have hcz73_4 := cz_ BK446.out 4 (.string (⟨#[]⟩ : ByteArray)); have hfz73_0 := blk_frozen BK446.out 0; have hfz73_1 := blk_frozen BK446.out 1; have hfz73_2 := blk_frozen BK446.out 2; have hfz73_3 := blk_frozen BK446.out 3; have hfz73_4 := blk_frozen BK446.out 4))
          refine bodyPost_ret (results_cell_row rfl _ _ gb446 30 #[.int .i64 x452000_12, .int .i64 x452001_12, .int .i64 t476, .int .i64 x452003_12, .string x452004_12] (0, 0) _ rfl (by (with_reducible repeat (first | refine blk_drewN ?_ _ | refine blk_drew ?_ | refine blk_alloc ?_ _)); refine blk_put (cs := #[.int .i64 x452000_12, .int .i64 x452001_12, .int .i64 t476, .int .i64 x452003_12, .string (⟨#[]⟩ : ByteArray)]) ?_ 4 _ rfl; (with_reducible repeat (first | refine blk_drewN ?_ _ | refine blk_drew ?_ | refine blk_alloc ?_ _)); refine blk_put (cs := #[.int .i64 x452000_12, .int .i64 x452001_12, .int .i64 t476, .int .i64 0, .string (⟨#[]⟩ : ByteArray)]) ?_ 3 _ rfl; (with_reducible repeat (first | refine blk_drewN ?_ _ | refine blk_drew ?_ | refine blk_alloc ?_ _)); refine blk_put (cs := #[.int .i64 x452000_12, .int .i64 x452001_12, .int .i64 0, .int .i64 0, .string (⟨#[]⟩ : ByteArray)]) ?_ 2 _ rfl; (with_reducible repeat (first | refine blk_drewN ?_ _ | refine blk_drew ?_ | refine blk_alloc ?_ _)); refine blk_put (cs := #[.int .i64 x452000_12, .int .i64 0, .int .i64 0, .int .i64 0, .string (⟨#[]⟩ : ByteArray)]) ?_ 1 _ rfl; (with_reducible repeat (first | refine blk_drewN ?_ _ | refine blk_drew ?_ | refine blk_alloc ?_ _)); refine blk_put (cs := #[.int .i64 0, .int .i64 0, .int .i64 0, .int .i64 0, .string (⟨#[]⟩ : ByteArray)]) ?_ 0 _ rfl; (with_reducible repeat (first | refine blk_drewN ?_ _ | refine blk_drew ?_ | refine blk_alloc ?_ _)); refine blk_far ?_ NB446_451.out _; (with_reducible repeat (first | refine blk_drewN ?_ _ | refine blk_drew ?_ | refine blk_alloc ?_ _)); exact BK446.out) Tryd.underlying30 rfl (by kernel_rfl)) rfl ?_
          exact ⟨fi_, is_HI0, bel_, kf_ HK.out⟩
         ·rw [if_neg c65] at H
          have c65b0 : (t470 == 2) = false := beq_eq_false_iff_ne.mpr c65
          have c65b1 : (t470 != 2) = true := bne_iff_ne.mpr c65
          by_cases c74 : t470 = 3
          ·rw [if_pos c74] at H
           have c74b0 : (t470 == 3) = true := beq_iff_eq.mpr c74
           have c74b1 : (t470 != 3) = false := bne_eq_false_iff_eq.mpr c74
           clear c74
           replace H := Option.bind_eq_some_iff.mp H
           obtain ⟨⟨t478, t479⟩, A750, H⟩ := H
           try dsimp only at H
           have A75 := Aside0.mk A750
           clear A750
           simp only [Option.some.injEq, Prod.mk.injEq] at H
           obtain ⟨rfl, rfl, rfl, rfl, rfl, rfl⟩ := H
           go_wp2_with (first | ((with_reducible refine gate_callee (f := 72) rfl ?_); refine gl_ 46 Tryd.func72 #[.pointer (some ⟨g, 0, none⟩), .int .i64 30] ?_; (with_reducible refine (spec_l6Rd_pick.calls kj12 g s0_0 t469 30 t470 t471 w0 _ ?side1 ?side2 A46.out).mono ?_); (case side1 => exact is_HI0); (case side2 => exact bel_); rintro e w76 ⟨rfl, hi, hb, hk⟩; refine ⟨_, rfl, ?_⟩; replace BK446 := Aside0.mk (kb_ hk BK446.out NB446_0.out); replace BK451 := Aside0.mk (kb_ hk BK451.out NB451_0.out); replace HK := Aside0.mk (KeepBut.trans (kf_ HK.out) hk (.inl rfl)); replace HB := Aside0.mk (hb); replace HI0 := Aside0.mk (hi); (try clear hb hk hi)) | ((with_reducible refine gate_callee (f := 72) rfl ?_); refine gl_ 65 Tryd.func72 #[.pointer (some ⟨g, 0, none⟩), .int .i64 50] ?_; (with_reducible refine (spec_l6Rd_pick.calls kj12 g s0_0 t471 50 t478 t479 w0 _ ?side1 ?side2 A75.out).mono ?_); (case side1 => exact is_HI0); (case side2 => exact bel_); rintro e w77 ⟨rfl, hi, hb, hk⟩; refine ⟨_, rfl, ?_⟩; replace BK446 := Aside0.mk (kb_ hk BK446.out NB446_0.out); replace BK451 := Aside0.mk (kb_ hk BK451.out NB451_0.out); replace HK := Aside0.mk (KeepBut.trans (kf_ HK.out) hk (.inl rfl)); replace HB := Aside0.mk (hb); replace HI0 := Aside0.mk (hi); (try clear hb hk hi); have hnb78 := NB451_446.out; have hnc78 := NB446_451.out; have hnb79 := NB451_0.out; have hnc79 := NB0_451.out; have hcz80_0 := cz_ BK451.out 0 (.int .i64 x452000_12); have hcz80_1 := cz_ BK451.out 1 (.int .i64 x452001_12); have hcz80_2 := cz_ BK451.out 2 (.int .i64 x452002_12); have hcz80_3 := cz_ BK451.out 3 (.int .i64 x452003_12); have hcz80_4 := cz_ BK451.out 4 (.string x452004_12); have hfz80_0 := blk_frozen BK451.out 0; have hfz80_1 := blk_frozen BK451.out 1; have hfz80_2 := blk_frozen BK451.out 2; have hfz80_3 := blk_frozen BK451.out 3; have hfz80_4 := blk_frozen BK451.out 4; have hnb81 := NB446_0.out; have hnc81 := NB0_446.out; have hcz82_0 := cz_ BK446.out 0 (.int .i64 0); have hcz82_1 := cz_ BK446.out 1 (.int .i64 0); have hcz82_2 := cz_ BK446.out 2 (.int .i64 0); have hcz82_3 := cz_ BK446.out 3 (.int .i64 0); have hcz82_4 := cz_ BK446.out 4 (.string (⟨#[]⟩ : ByteArray)); have hfz82_0 := blk_frozen BK446.out 0; have hfz82_1 := blk_frozen BK446.out 1; have hfz82_2 := blk_frozen BK446.out 2; have hfz82_3 := blk_frozen BK446.out 3; have hfz82_4 := blk_frozen BK446.out 4))
           refine bodyPost_ret (results_cell_row rfl _ _ gb446 30 #[.int .i64 x452000_12, .int .i64 x452001_12, .int .i64 x452002_12, .int .i64 t478, .string x452004_12] (0, 0) _ rfl (by (with_reducible repeat (first | refine blk_drewN ?_ _ | refine blk_drew ?_ | refine blk_alloc ?_ _)); refine blk_put (cs := #[.int .i64 x452000_12, .int .i64 x452001_12, .int .i64 x452002_12, .int .i64 t478, .string (⟨#[]⟩ : ByteArray)]) ?_ 4 _ rfl; (with_reducible repeat (first | refine blk_drewN ?_ _ | refine blk_drew ?_ | refine blk_alloc ?_ _)); refine blk_put (cs := #[.int .i64 x452000_12, .int .i64 x452001_12, .int .i64 x452002_12, .int .i64 0, .string (⟨#[]⟩ : ByteArray)]) ?_ 3 _ rfl; (with_reducible repeat (first | refine blk_drewN ?_ _ | refine blk_drew ?_ | refine blk_alloc ?_ _)); refine blk_put (cs := #[.int .i64 x452000_12, .int .i64 x452001_12, .int .i64 0, .int .i64 0, .string (⟨#[]⟩ : ByteArray)]) ?_ 2 _ rfl; (with_reducible repeat (first | refine blk_drewN ?_ _ | refine blk_drew ?_ | refine blk_alloc ?_ _)); refine blk_put (cs := #[.int .i64 x452000_12, .int .i64 0, .int .i64 0, .int .i64 0, .string (⟨#[]⟩ : ByteArray)]) ?_ 1 _ rfl; (with_reducible repeat (first | refine blk_drewN ?_ _ | refine blk_drew ?_ | refine blk_alloc ?_ _)); refine blk_put (cs := #[.int .i64 0, .int .i64 0, .int .i64 0, .int .i64 0, .string (⟨#[]⟩ : ByteArray)]) ?_ 0 _ rfl; (with_reducible repeat (first | refine blk_drewN ?_ _ | refine blk_drew ?_ | refine blk_alloc ?_ _)); refine blk_far ?_ NB446_451.out _; (with_reducible repeat (first | refine blk_drewN ?_ _ | refine blk_drew ?_ | refine blk_alloc ?_ _)); exact BK446.out) Tryd.underlying30 rfl (by kernel_rfl)) rfl ?_
           exact ⟨fi_, is_HI0, bel_, kf_ HK.out⟩
          ·rw [if_neg c74] at H
           have c74b0 : (t470 == 3) = false := beq_eq_false_iff_ne.mpr c74
           have c74b1 : (t470 != 3) = true := bne_iff_ne.mpr c74
           simp only [Option.some.injEq, Prod.mk.injEq] at H
           obtain ⟨rfl, rfl, rfl, rfl, rfl, rfl⟩ := H
           go_wp2_with (first | ((with_reducible refine gate_callee (f := 72) rfl ?_); refine gl_ 46 Tryd.func72 #[.pointer (some ⟨g, 0, none⟩), .int .i64 30] ?_; (with_reducible refine (spec_l6Rd_pick.calls kj12 g s0_0 t469 30 t470 t471 w0 _ ?side1 ?side2 A46.out).mono ?_); (case side1 => exact is_HI0); (case side2 => exact bel_); rintro e w83 ⟨rfl, hi, hb, hk⟩; refine ⟨_, rfl, ?_⟩; replace BK446 := Aside0.mk (kb_ hk BK446.out NB446_0.out); replace BK451 := Aside0.mk (kb_ hk BK451.out NB451_0.out); replace HK := Aside0.mk (KeepBut.trans (kf_ HK.out) hk (.inl rfl)); replace HB := Aside0.mk (hb); replace HI0 := Aside0.mk (hi); (try clear hb hk hi); have hnb84 := NB451_446.out; have hnc84 := NB446_451.out; have hnb85 := NB451_0.out; have hnc85 := NB0_451.out; have hcz86_0 := cz_ BK451.out 0 (.int .i64 x452000_12); have hcz86_1 := cz_ BK451.out 1 (.int .i64 x452001_12); have hcz86_2 := cz_ BK451.out 2 (.int .i64 x452002_12); have hcz86_3 := cz_ BK451.out 3 (.int .i64 x452003_12); have hcz86_4 := cz_ BK451.out 4 (.string x452004_12); have hfz86_0 := blk_frozen BK451.out 0; have hfz86_1 := blk_frozen BK451.out 1; have hfz86_2 := blk_frozen BK451.out 2; have hfz86_3 := blk_frozen BK451.out 3; have hfz86_4 := blk_frozen BK451.out 4; have hnb87 := NB446_0.out; have hnc87 := NB0_446.out; have hcz88_0 := cz_ BK446.out 0 (.int .i64 0); have hcz88_1 := cz_ BK446.out 1 (.int .i64 0); have hcz88_2 := cz_ BK446.out 2 (.int .i64 0); have hcz88_3 := cz_ BK446.out 3 (.int .i64 0); have hcz88_4 := cz_ BK446.out 4 (.string (⟨#[]⟩ : ByteArray)); have hfz88_0 := blk_frozen BK446.out 0; have hfz88_1 := blk_frozen BK446.out 1; have hfz88_2 := blk_frozen BK446.out 2; have hfz88_3 := blk_frozen BK446.out 3; have hfz88_4 := blk_frozen BK446.out 4))
           refine bodyPost_ret (results_cell_row rfl _ _ gb446 30 #[.int .i64 x452000_12, .int .i64 x452001_12, .int .i64 x452002_12, .int .i64 x452003_12, .string x452004_12] (0, 0) _ rfl (by (with_reducible repeat (first | refine blk_drewN ?_ _ | refine blk_drew ?_ | refine blk_alloc ?_ _)); refine blk_put (cs := #[.int .i64 x452000_12, .int .i64 x452001_12, .int .i64 x452002_12, .int .i64 x452003_12, .string (⟨#[]⟩ : ByteArray)]) ?_ 4 _ rfl; (with_reducible repeat (first | refine blk_drewN ?_ _ | refine blk_drew ?_ | refine blk_alloc ?_ _)); refine blk_put (cs := #[.int .i64 x452000_12, .int .i64 x452001_12, .int .i64 x452002_12, .int .i64 0, .string (⟨#[]⟩ : ByteArray)]) ?_ 3 _ rfl; (with_reducible repeat (first | refine blk_drewN ?_ _ | refine blk_drew ?_ | refine blk_alloc ?_ _)); refine blk_put (cs := #[.int .i64 x452000_12, .int .i64 x452001_12, .int .i64 0, .int .i64 0, .string (⟨#[]⟩ : ByteArray)]) ?_ 2 _ rfl; (with_reducible repeat (first | refine blk_drewN ?_ _ | refine blk_drew ?_ | refine blk_alloc ?_ _)); refine blk_put (cs := #[.int .i64 x452000_12, .int .i64 0, .int .i64 0, .int .i64 0, .string (⟨#[]⟩ : ByteArray)]) ?_ 1 _ rfl; (with_reducible repeat (first | refine blk_drewN ?_ _ | refine blk_drew ?_ | refine blk_alloc ?_ _)); refine blk_put (cs := #[.int .i64 0, .int .i64 0, .int .i64 0, .int .i64 0, .string (⟨#[]⟩ : ByteArray)]) ?_ 0 _ rfl; (with_reducible repeat (first | refine blk_drewN ?_ _ | refine blk_drew ?_ | refine blk_alloc ?_ _)); exact BK446.out) Tryd.underlying30 rfl (by kernel_rfl)) rfl ?_
           exact ⟨fi_, is_HI0, bel_, kf_ HK.out⟩
    ·rw [if_neg c11] at H
     exact absurd H (by simp)
   ·rw [if_neg c10] at H
    exact absurd H (by simp)
  ·rw [if_neg c7] at H
   exact absurd H (by simp)
 ·rw [if_neg c6] at H
  exact absurd H (by simp)

mutual
def spec_l71Fits.j0 : Nat → List (S43) → Int → Bool → List Int → Int → Int → Int → Int → Int → ByteArray → Option ((List (S43)) × Int × Int × Int × Int × ByteArray × Int)
 | 0, _, _, _, _, _, _, _, _, _, _ => none
 | k + 1, x4, x5, x26, x1000, x1001, x493000, x493001, x493002, x493003, x493004 => if x26 = true then (spec_l71Fits.j1 k x4 x1000 x1001 x493000 x5 x493002 x493003 x493004) else (spec_l71Fits.j1 k x4 x1000 x1001 x493000 x493001 x493002 x493003 x493004)
def spec_l71Fits.j1 : Nat → List (S43) → List Int → Int → Int → Int → Int → Int → ByteArray → Option ((List (S43)) × Int × Int × Int × Int × ByteArray × Int)
 | 0, _, _, _, _, _, _, _, _ => none
 | k + 1, x4, x1000, x1001, x493000, x493001, x493002, x493003, x493004 => (spec_l6Rd_pick.f k x1000 x1001 3).bind fun bt496 => (if bt496.1 = 0 then (if x493000 = 3 then (spec_l71Fits.j2 k x4 true x1000 bt496.2 x493000 x493001 x493002 x493003 x493004) else (spec_l71Fits.j2 k x4 (x493000 == 1) x1000 bt496.2 x493000 x493001 x493002 x493003 x493004)) else (spec_l71Fits.j2 k x4 false x1000 bt496.2 x493000 x493001 x493002 x493003 x493004))
def spec_l71Fits.j2 : Nat → List (S43) → Bool → List Int → Int → Int → Int → Int → Int → ByteArray → Option ((List (S43)) × Int × Int × Int × Int × ByteArray × Int)
 | 0, _, _, _, _, _, _, _, _, _ => none
 | k + 1, x4, x41, x1000, x1001, x493000, x493001, x493002, x493003, x493004 => if x41 = true then ((spec_l6Rd_pick.f k x1000 x1001 (x4.length : Int)).bind fun bt498 => (if 0 ≤ bt498.1 then (if bt498.1 < (x4.length : Int) then ((spec_l2Kids.f k x4 ((rd_T43 x4 bt498.1).f0)).bind fun t501 => (if (t501.length : Int) > 0 then ((spec_l6Rd_pick.f k x1000 bt498.2 (t501.length : Int)).bind fun bt504 => (if 0 ≤ bt504.1 then (if bt504.1 < (t501.length : Int) then (some (x4, x493000, x493001, (rd_T43 x4 bt498.1).f0, rd t501 bt504.1, x493004, bt504.2)) else (none)) else (none))) else (some (x4, x493000, x493001, (rd_T43 x4 bt498.1).f0, x493003, x493004, bt498.2)))) else (none)) else (none))) else (some (x4, x493000, x493001, x493002, x493003, x493004, x1001))
end
def spec_l71Fits.f (k : Nat) (s0_0 : List Int) (s0_1 : Int) : Option ((List (S43)) × Int × Int × Int × Int × ByteArray × Int) := (spec_l71Row.f k s0_0 s0_1).bind fun bt481 => ((spec_l71Op.f k s0_0 bt481.2.2).bind fun bt486 => ((spec_l6Rd_pick.f k s0_0 bt486.2.2.2.2.2 5).bind fun bt493 => (if bt493.1 > 0 then (if bt486.1 = 1 then (spec_l71Fits.j0 k bt481.1 bt481.2.1 false s0_0 bt493.2 bt486.1 bt486.2.1 bt486.2.2.1 bt486.2.2.2.1 bt486.2.2.2.2.1) else ((spec_l1Made.f bt481.2.1).bind fun t495 => (spec_l71Fits.j0 k bt481.1 bt481.2.1 t495 s0_0 bt493.2 bt486.1 bt486.2.1 bt486.2.2.1 bt486.2.2.2.1 bt486.2.2.2.2.1))) else (spec_l71Fits.j0 k bt481.1 bt481.2.1 false s0_0 bt493.2 bt486.1 bt486.2.1 bt486.2.2.1 bt486.2.2.2.1 bt486.2.2.2.2.1))))
theorem spec_l71Fits.mono_l : ∀ k, (∀ y0 y1 y2 y3 y4 y5 y6 y7 y8 y9, LeO (spec_l71Fits.j0 k y0 y1 y2 y3 y4 y5 y6 y7 y8 y9) (spec_l71Fits.j0 (k + 1) y0 y1 y2 y3 y4 y5 y6 y7 y8 y9)) ∧ (∀ y0 y1 y2 y3 y4 y5 y6 y7, LeO (spec_l71Fits.j1 k y0 y1 y2 y3 y4 y5 y6 y7) (spec_l71Fits.j1 (k + 1) y0 y1 y2 y3 y4 y5 y6 y7)) ∧ (∀ y0 y1 y2 y3 y4 y5 y6 y7 y8, LeO (spec_l71Fits.j2 k y0 y1 y2 y3 y4 y5 y6 y7 y8) (spec_l71Fits.j2 (k + 1) y0 y1 y2 y3 y4 y5 y6 y7 y8))
 | 0 => ⟨fun _ _ _ _ _ _ _ _ _ _ r h => by simp [spec_l71Fits.j0] at h, fun _ _ _ _ _ _ _ _ r h => by simp [spec_l71Fits.j1] at h, fun _ _ _ _ _ _ _ _ _ r h => by simp [spec_l71Fits.j2] at h⟩
 | k + 1 => by
  obtain ⟨ih0, ih1, ih2⟩ := spec_l71Fits.mono_l k
  refine ⟨?_, ?_, ?_⟩
  all_goals intros
  all_goals first | unfold spec_l71Fits.j0 | unfold spec_l71Fits.j1 | unfold spec_l71Fits.j2
  all_goals repeat' first
  | (with_reducible exact ih0 _ _ _ _ _ _ _ _ _ _)
  | (with_reducible exact ih1 _ _ _ _ _ _ _ _)
  | (with_reducible exact ih2 _ _ _ _ _ _ _ _ _)
  | (with_reducible exact spec_l2Kids.mono _ _ _)
  | (with_reducible exact spec_l6Rd_pick.mono _ _ _ _)
  | (with_reducible exact spec_l71Op.mono _ _ _)
  | (with_reducible exact spec_l71Row.mono _ _ _)
  | (with_reducible exact LeO.refl _)
  | (with_reducible exact LeO.none _)
  | (with_reducible refine LeO.ite ?_ ?_)
  | (with_reducible refine LeO.bind ?_ (fun _ => ?_))
  | exact ih0 _ _ _ _ _ _ _ _ _ _
  | exact ih1 _ _ _ _ _ _ _ _
  | exact ih2 _ _ _ _ _ _ _ _ _
  | exact spec_l2Kids.mono _ _ _
  | exact spec_l6Rd_pick.mono _ _ _ _
  | exact spec_l71Op.mono _ _ _
  | exact spec_l71Row.mono _ _ _
  | exact LeO.none _
  | refine LeO.ite ?_ ?_
  | refine LeO.bind ?_ (fun _ => ?_)
theorem spec_l71Fits.mono : ∀ a0 a1 k, LeO (spec_l71Fits.f k a0 a1) (spec_l71Fits.f (k + 1) a0 a1) := by
 intro a0 a1 k
 obtain ⟨ih0, ih1, ih2⟩ := spec_l71Fits.mono_l k
 unfold spec_l71Fits.f
 repeat' first
   | (with_reducible exact ih0 _ _ _ _ _ _ _ _ _ _)
   | (with_reducible exact ih1 _ _ _ _ _ _ _ _)
   | (with_reducible exact ih2 _ _ _ _ _ _ _ _ _)
   | (with_reducible exact spec_l2Kids.mono _ _ _)
   | (with_reducible exact spec_l6Rd_pick.mono _ _ _ _)
   | (with_reducible exact spec_l71Op.mono _ _ _)
   | (with_reducible exact spec_l71Row.mono _ _ _)
   | (with_reducible exact LeO.refl _)
   | (with_reducible exact LeO.none _)
   | (with_reducible refine LeO.ite ?_ ?_)
   | (with_reducible refine LeO.bind ?_ (fun _ => ?_))
   | exact ih0 _ _ _ _ _ _ _ _ _ _
   | exact ih1 _ _ _ _ _ _ _ _
   | exact ih2 _ _ _ _ _ _ _ _ _
   | exact spec_l2Kids.mono _ _ _
   | exact spec_l6Rd_pick.mono _ _ _ _
   | exact spec_l71Op.mono _ _ _
   | exact spec_l71Row.mono _ _ _
   | exact LeO.none _
   | refine LeO.ite ?_ ?_
   | refine LeO.bind ?_ (fun _ => ?_)
set_option maxHeartbeats 8000000 in
set_option maxRecDepth 100000 in
theorem spec_l71Fits.calls (k : Nat) (g : Nat) (s0_0 : List Int) (s0_1 : Int) (r1 : List (S43)) (r2 : Int) (r3 : Int) (r4 : Int) (r5 : Int) (r6 : ByteArray) (r7 : Int) (w0 w : World) (hI : IsS106 w0 w g s0_0 s0_1) (hB : Below w0.heap.size w0 w) (h : spec_l71Fits.f k s0_0 s0_1 = some (r1, r2, r3, r4, r5, r6, r7)) :
  Calls Tryd.prog 46 #[.pointer (some ⟨g, 0, none⟩)] w fun e w' => ∃ v0_ : Value, e = .returned (.tuple #[v0_, .agg #[.int .i64 r2, .int .i64 r3, .int .i64 r4, .int .i64 r5, .string r6]]) ∧ Kd.Q k43 43 w' w.heap.size (fun _ => True) v0_ r1 ∧ IsS106 w0 w' g s0_0 r7 ∧ Below w0.heap.size w0 w' ∧ KeepBut w w' g none := by
 have hu30 := Tryd.underlying30
 have HI0 := Aside0.mk hI
 have HK := Aside0.mk (KeepBut.refl w g none)
 have HL := Aside0.mk hB.size
 clear hI
 have HW0 := Aside0.mk hB.size
 have HB := Aside0.mk hB
 clear hB
 unfold spec_l71Fits.f at h
 have H := h
 clear h
 replace H := Option.bind_eq_some_iff.mp H
 obtain ⟨⟨t481, t484, t485⟩, A20, H⟩ := H
 try dsimp only at H
 have A2 := Aside0.mk A20
 clear A20
 replace H := Option.bind_eq_some_iff.mp H
 obtain ⟨⟨t486, t487, t488, t489, t490, t491⟩, A30, H⟩ := H
 try dsimp only at H
 have A3 := Aside0.mk A30
 clear A30
 have HC4 := Aside0.mk H
 clear H
 go_enter Tryd.func46, Tryd.ntmps46
 go_upto_region 3 with (first | ((with_reducible refine gate_dst (N := 3) rfl ?_); refine bx_ 3 (#[.int .i64 0, .int .i64 0, .int .i64 0, .int .i64 0, .string (⟨#[]⟩ : ByteArray)]) 30 ?_; intro gb480 hg w5 hbox hb; have n0_ := Aside0.mk (IsS106.below (is_HI0) hb); have n1_ := Aside0.mk (KeepBut.trans (ke_) (KeepBut.of_below hb g none) (.inl rfl)); have n2_ := Aside0.mk (below_step (bel_) hb); have n3_ := Aside0.mk (hbox); have n4_ := Aside0.mk ((by rw [hg]; exact (keep_size (w := w) (g := g) (row := none) (ke_)) : w.heap.size ≤ gb480)); have n5_ := Aside0.mk ((Nat.le_trans HW0.out (by rw [hg]; exact (keep_size (w := w) (g := g) (row := none) (ke_)) : w.heap.size ≤ gb480) : w0.heap.size ≤ gb480)); have n6_ := Aside0.mk ((by rw [hg]; exact Nat.ne_of_lt (IsS106.lt (show IsS106 w0 _ g s0_0 s0_1 from is_HI0)) : g ≠ gb480)); have n7_ := Aside0.mk ((by rw [hg]; exact Nat.ne_of_gt (IsS106.lt (show IsS106 w0 _ g s0_0 s0_1 from is_HI0)) : gb480 ≠ g)); clear HI0; clear HK; clear HB; have HI0 := n0_; have HK := n1_; have HB := n2_; have BK480 := n3_; have GW480 := n4_; have GE480 := n5_; have NB0_480 := n6_; have NB480_0 := n7_; clear n0_ n1_ n2_ n3_ n4_ n5_ n6_ n7_; clear hb hbox hg) | ((with_reducible refine gate_callee (f := 70) rfl ?_); refine gl_ 10 Tryd.func70 #[.pointer (some ⟨g, 0, none⟩)] ?_; (with_reducible refine (spec_l71Row.calls k g s0_0 s0_1 t481 t484 t485 w0 _ ?side1 ?side2 A2.out).mono ?_); (case side1 => exact is_HI0); (case side2 => exact bel_); rintro e w6 ⟨v482, rfl, ho0, hi, hb, hk⟩; refine ⟨_, rfl, ?_⟩; replace BK480 := Aside0.mk (kb_ hk BK480.out NB480_0.out); have HO483 := Aside0.mk (Kd.Q_lower ho0 (keep_size (w := w) (g := g) (row := none) (kf_ HK.out))); replace HK := Aside0.mk (KeepBut.trans (kf_ HK.out) hk (.inl rfl)); replace HB := Aside0.mk (hb); replace HI0 := Aside0.mk (hi); (try clear hb hk hi ho0)) | ((with_reducible refine gate_callee (f := 71) rfl ?_); refine gl_ 14 Tryd.func71 #[.pointer (some ⟨g, 0, none⟩)] ?_; (with_reducible refine (spec_l71Op.calls k g s0_0 t485 t486 t487 t488 t489 t490 t491 w0 _ ?side1 ?side2 A3.out).mono ?_); (case side1 => exact is_HI0); (case side2 => exact bel_); rintro e w7 ⟨rfl, hi, hb, hk⟩; refine ⟨_, rfl, ?_⟩; replace BK480 := Aside0.mk (kb_ hk BK480.out NB480_0.out); replace HO483 := Aside0.mk (Kd.Q_mono (Kd.Q_keep (IsS106.apartQ (show IsS106 w0 _ g s0_0 t485 from is_HI0) (qp_ HO483.out) (by decide)) hk (fun _ h => h.2)) (fun _ h => h.1)); replace HK := Aside0.mk (KeepBut.trans (kf_ HK.out) hk (.inl rfl)); replace HB := Aside0.mk (hb); replace HI0 := Aside0.mk (hi); (try clear hb hk hi)) | ((with_reducible refine gate_dst (N := 6) rfl ?_); refine bx_ 6 (#[.int .i64 0, .int .i64 0, .int .i64 0, .int .i64 0, .string (⟨#[]⟩ : ByteArray)]) 30 ?_; intro gb492 hg w8 hbox hb; have n0_ := Aside0.mk (Kd.Q_below (qp_ HO483.out) hb); have n1_ := Aside0.mk (IsS106.below (is_HI0) hb); have n2_ := Aside0.mk (bb_ BK480.out hb); have n3_ := Aside0.mk (KeepBut.trans (kf_ HK.out) (KeepBut.of_below hb g none) (.inl rfl)); have n4_ := Aside0.mk (below_step (bel_) hb); have n5_ := Aside0.mk (hbox); have n6_ := Aside0.mk ((by rw [hg]; exact (keep_size (w := w) (g := g) (row := none) (kf_ HK.out)) : w.heap.size ≤ gb492)); have n7_ := Aside0.mk ((Nat.le_trans HW0.out (by rw [hg]; exact (keep_size (w := w) (g := g) (row := none) (kf_ HK.out)) : w.heap.size ≤ gb492) : w0.heap.size ≤ gb492)); have n8_ := Aside0.mk ((by rw [hg]; exact Nat.ne_of_lt (blk_lt (g := gb480) (o := .cells #[.int .i64 0, .int .i64 0, .int .i64 0, .int .i64 0, .string (⟨#[]⟩ : ByteArray)] 30 (0, 0)) (bp_ BK480.out)) : gb480 ≠ gb492)); have n9_ := Aside0.mk ((by rw [hg]; exact Nat.ne_of_gt (blk_lt (g := gb480) (o := .cells #[.int .i64 0, .int .i64 0, .int .i64 0, .int .i64 0, .string (⟨#[]⟩ : ByteArray)] 30 (0, 0)) (bp_ BK480.out)) : gb492 ≠ gb480)); have n10_ := Aside0.mk ((by rw [hg]; exact Nat.ne_of_lt (IsS106.lt (show IsS106 w0 _ g s0_0 t491 from is_HI0)) : g ≠ gb492)); have n11_ := Aside0.mk ((by rw [hg]; exact Nat.ne_of_gt (IsS106.lt (show IsS106 w0 _ g s0_0 t491 from is_HI0)) : gb492 ≠ g)); clear HO483; clear HI0; clear BK480; clear HK; clear HB; have HO483 := n0_; have HI0 := n1_; have BK480 := n2_; have HK := n3_; have HB := n4_; have BK492 := n5_; have GW492 := n6_; have GE492 := n7_; have NB480_492 := n8_; have NB492_480 := n9_; have NB0_492 := n10_; have NB492_0 := n11_; clear n0_ n1_ n2_ n3_ n4_ n5_ n6_ n7_ n8_ n9_ n10_ n11_; clear hb hbox hg; have hnb9 := NB492_480.out; have hnc9 := NB480_492.out; have hnb10 := NB492_0.out; have hnc10 := NB0_492.out; have hcz11_0 := cz_ BK492.out 0 (.int .i64 0); have hcz11_1 := cz_ BK492.out 1 (.int .i64 0); have hcz11_2 := cz_ BK492.out 2 (.int .i64 0); have hcz11_3 := cz_ BK492.out 3 (.int .i64 0); have hcz11_4 := cz_ BK492.out 4 (.string (⟨#[]⟩ : ByteArray)); have hfz11_0 := blk_frozen BK492.out 0; have hfz11_1 := blk_frozen BK492.out 1; have hfz11_2 := blk_frozen BK492.out 2; have hfz11_3 := blk_frozen BK492.out 3; have hfz11_4 := blk_frozen BK492.out 4))
 (try simp only [Act.put, List.setIfInBounds_toArray, List.set_cons_zero, List.set_cons_succ])
 go_cut [26] (fun v26 wc => ∃ (kq : Nat) (x26_3 : Bool) (x1001_3 : Int), v26 = .bool x26_3 ∧ Aside0 (spec_l71Fits.j0 kq t481 t484 x26_3 s0_0 x1001_3 t486 t487 t488 t489 t490 = some (r1, r2, r3, r4, r5, r6, r7)) ∧ Aside0 (kq ≤ k) ∧ Aside0 (Kd.Q k43 43 wc w.heap.size (fun _ => True) v482 t481) ∧ Aside0 (wc.heap[gb480]? = some (.cells #[.int .i64 0, .int .i64 0, .int .i64 0, .int .i64 0, .string (⟨#[]⟩ : ByteArray)] 30 (0, 0))) ∧ Aside0 (wc.heap[gb492]? = some (.cells #[.int .i64 t486, .int .i64 t487, .int .i64 t488, .int .i64 t489, .string t490] 30 (0, 0))) ∧ Aside0 (IsS106 w0 wc g s0_0 x1001_3) ∧ Aside0 (KeepBut w wc g none) ∧ Aside0 (Below w0.heap.size w0 wc))
 case first =>
  have H := HC4.out
  clear HC4
  replace H := Option.bind_eq_some_iff.mp H
  obtain ⟨⟨t493, t494⟩, A120, H⟩ := H
  try dsimp only at H
  have A12 := Aside0.mk A120
  clear A120
  by_cases c13 : t493 > 0
  ·rw [if_pos c13] at H
   have c13b0 : decide (0 < t493) = true := decide_eq_true c13
   clear c13
   (first | rw [c13b0] | (simp only [i64_w, i32_w]; rw [c13b0]) | skip)
   by_cases c14 : t486 = 1
   ·rw [if_pos c14] at H
    have c14b0 : (t486 == 1) = true := beq_iff_eq.mpr c14
    have c14b1 : (t486 != 1) = false := bne_eq_false_iff_eq.mpr c14
    clear c14
    have H' := Aside0.mk H
    clear H
    go_wp2_with (first | ((with_reducible refine gate_callee (f := 72) rfl ?_); refine gl_ 16 Tryd.func72 #[.pointer (some ⟨g, 0, none⟩), .int .i64 5] ?_; (with_reducible refine (spec_l6Rd_pick.calls k g s0_0 t491 5 t493 t494 w0 _ ?side1 ?side2 A12.out).mono ?_); (case side1 => exact is_HI0); (case side2 => exact bel_); rintro e w15 ⟨rfl, hi, hb, hk⟩; refine ⟨_, rfl, ?_⟩; have n0_ := Aside0.mk (KeepBut.blk hk (g' := gb480) (o := .cells #[.int .i64 0, .int .i64 0, .int .i64 0, .int .i64 0, .string (⟨#[]⟩ : ByteArray)] 30 (0, 0)) (by (with_reducible repeat (first | refine blk_drewN ?_ _ | refine blk_drew ?_ | refine blk_alloc ?_ _)); refine blk_far ?_ NB480_492.out _; (with_reducible repeat (first | refine blk_drewN ?_ _ | refine blk_drew ?_ | refine blk_alloc ?_ _)); refine blk_far ?_ NB480_492.out _; (with_reducible repeat (first | refine blk_drewN ?_ _ | refine blk_drew ?_ | refine blk_alloc ?_ _)); refine blk_far ?_ NB480_492.out _; (with_reducible repeat (first | refine blk_drewN ?_ _ | refine blk_drew ?_ | refine blk_alloc ?_ _)); refine blk_far ?_ NB480_492.out _; (with_reducible repeat (first | refine blk_drewN ?_ _ | refine blk_drew ?_ | refine blk_alloc ?_ _)); refine blk_far ?_ NB480_492.out _; (with_reducible repeat (first | refine blk_drewN ?_ _ | refine blk_drew ?_ | refine blk_alloc ?_ _)); exact BK480.out) NB480_0.out (by simp)); have n1_ := Aside0.mk (Kd.Q_mono (Kd.Q_keep (IsS106.apartQ (show IsS106 w0 _ g s0_0 t491 from is_HI0) (by (with_reducible repeat (first | apply Kd.Q_alloc | apply Kd.Q_drewN | apply Kd.Q_drew)); exact (Kd.Q_mono (Kd.Q_far (p := ⟨gb492, 4, none⟩) (Kd.Q_far (p := ⟨gb492, 3, none⟩) (Kd.Q_far (p := ⟨gb492, 2, none⟩) (Kd.Q_far (p := ⟨gb492, 1, none⟩) (Kd.Q_far (p := ⟨gb492, 0, none⟩) (Kd.Q_types HO483.out BK492.out (by decide)) (fun _ hk => hk.2) (.int .i64 t486)) (fun _ hk => hk.2) (.int .i64 t487)) (fun _ hk => hk.2) (.int .i64 t488)) (fun _ hk => hk.2) (.int .i64 t489)) (fun _ hk => hk.2) (.string t490)) (fun _ h_ => h_.1))) (by decide)) hk (fun _ h => h.2)) (fun _ h => h.1)); have n2_ := Aside0.mk (KeepBut.blk hk (g' := gb492) (o := .cells #[.int .i64 t486, .int .i64 t487, .int .i64 t488, .int .i64 t489, .string t490] 30 (0, 0)) (by (with_reducible repeat (first | refine blk_drewN ?_ _ | refine blk_drew ?_ | refine blk_alloc ?_ _)); refine blk_put (cs := #[.int .i64 t486, .int .i64 t487, .int .i64 t488, .int .i64 t489, .string (⟨#[]⟩ : ByteArray)]) ?_ 4 _ rfl; (with_reducible repeat (first | refine blk_drewN ?_ _ | refine blk_drew ?_ | refine blk_alloc ?_ _)); refine blk_put (cs := #[.int .i64 t486, .int .i64 t487, .int .i64 t488, .int .i64 0, .string (⟨#[]⟩ : ByteArray)]) ?_ 3 _ rfl; (with_reducible repeat (first | refine blk_drewN ?_ _ | refine blk_drew ?_ | refine blk_alloc ?_ _)); refine blk_put (cs := #[.int .i64 t486, .int .i64 t487, .int .i64 0, .int .i64 0, .string (⟨#[]⟩ : ByteArray)]) ?_ 2 _ rfl; (with_reducible repeat (first | refine blk_drewN ?_ _ | refine blk_drew ?_ | refine blk_alloc ?_ _)); refine blk_put (cs := #[.int .i64 t486, .int .i64 0, .int .i64 0, .int .i64 0, .string (⟨#[]⟩ : ByteArray)]) ?_ 1 _ rfl; (with_reducible repeat (first | refine blk_drewN ?_ _ | refine blk_drew ?_ | refine blk_alloc ?_ _)); refine blk_put (cs := #[.int .i64 0, .int .i64 0, .int .i64 0, .int .i64 0, .string (⟨#[]⟩ : ByteArray)]) ?_ 0 _ rfl; (with_reducible repeat (first | refine blk_drewN ?_ _ | refine blk_drew ?_ | refine blk_alloc ?_ _)); exact BK492.out) NB492_0.out (by simp)); have n3_ := Aside0.mk (KeepBut.trans (kf_ HK.out) hk (.inl rfl)); have n4_ := Aside0.mk (hb); have n5_ := Aside0.mk (hi); clear BK480; clear HO483; clear BK492; clear HK; clear HB; clear HI0; have BK480 := n0_; have HO483 := n1_; have BK492 := n2_; have HK := n3_; have HB := n4_; have HI0 := n5_; clear n0_ n1_ n2_ n3_ n4_ n5_; (try clear hb hk hi); have hnb16 := NB492_480.out; have hnc16 := NB480_492.out; have hnb17 := NB492_0.out; have hnc17 := NB0_492.out; have hcz18_0 := cz_ BK492.out 0 (.int .i64 t486); have hcz18_1 := cz_ BK492.out 1 (.int .i64 t487); have hcz18_2 := cz_ BK492.out 2 (.int .i64 t488); have hcz18_3 := cz_ BK492.out 3 (.int .i64 t489); have hcz18_4 := cz_ BK492.out 4 (.string t490); have hfz18_0 := blk_frozen BK492.out 0; have hfz18_1 := blk_frozen BK492.out 1; have hfz18_2 := blk_frozen BK492.out 2; have hfz18_3 := blk_frozen BK492.out 3; have hfz18_4 := blk_frozen BK492.out 4))
    go_meet
    case rel => exact ⟨_, (false), (t494), (si_), H', ⟨by first | omega | exact Nat.le_refl _⟩, ⟨by (with_reducible repeat (first | apply Kd.Q_alloc | apply Kd.Q_drewN | apply Kd.Q_drew)); exact HO483.out⟩, ⟨by (with_reducible repeat (first | refine blk_drewN ?_ _ | refine blk_drew ?_ | refine blk_alloc ?_ _)); exact BK480.out⟩, ⟨by (with_reducible repeat (first | refine blk_drewN ?_ _ | refine blk_drew ?_ | refine blk_alloc ?_ _)); exact BK492.out⟩, ⟨is_HI0⟩, ⟨kf_ HK.out⟩, ⟨bel_⟩⟩
   ·rw [if_neg c14] at H
    have c14b0 : (t486 == 1) = false := beq_eq_false_iff_ne.mpr c14
    have c14b1 : (t486 != 1) = true := bne_iff_ne.mpr c14
    replace H := Option.bind_eq_some_iff.mp H
    obtain ⟨t495, A190, H⟩ := H
    try dsimp only at H
    have A19 := Aside0.mk A190
    clear A190
    have H' := Aside0.mk H
    clear H
    go_wp2_with (first | ((with_reducible refine gate_callee (f := 72) rfl ?_); refine gl_ 16 Tryd.func72 #[.pointer (some ⟨g, 0, none⟩), .int .i64 5] ?_; (with_reducible refine (spec_l6Rd_pick.calls k g s0_0 t491 5 t493 t494 w0 _ ?side1 ?side2 A12.out).mono ?_); (case side1 => exact is_HI0); (case side2 => exact bel_); rintro e w20 ⟨rfl, hi, hb, hk⟩; refine ⟨_, rfl, ?_⟩; have n0_ := Aside0.mk (KeepBut.blk hk (g' := gb480) (o := .cells #[.int .i64 0, .int .i64 0, .int .i64 0, .int .i64 0, .string (⟨#[]⟩ : ByteArray)] 30 (0, 0)) (by (with_reducible repeat (first | refine blk_drewN ?_ _ | refine blk_drew ?_ | refine blk_alloc ?_ _)); refine blk_far ?_ NB480_492.out _; (with_reducible repeat (first | refine blk_drewN ?_ _ | refine blk_drew ?_ | refine blk_alloc ?_ _)); refine blk_far ?_ NB480_492.out _; (with_reducible repeat (first | refine blk_drewN ?_ _ | refine blk_drew ?_ | refine blk_alloc ?_ _)); refine blk_far ?_ NB480_492.out _; (with_reducible repeat (first | refine blk_drewN ?_ _ | refine blk_drew ?_ | refine blk_alloc ?_ _)); refine blk_far ?_ NB480_492.out _; (with_reducible repeat (first | refine blk_drewN ?_ _ | refine blk_drew ?_ | refine blk_alloc ?_ _)); refine blk_far ?_ NB480_492.out _; (with_reducible repeat (first | refine blk_drewN ?_ _ | refine blk_drew ?_ | refine blk_alloc ?_ _)); exact BK480.out) NB480_0.out (by simp)); have n1_ := Aside0.mk (Kd.Q_mono (Kd.Q_keep (IsS106.apartQ (show IsS106 w0 _ g s0_0 t491 from is_HI0) (by (with_reducible repeat (first | apply Kd.Q_alloc | apply Kd.Q_drewN | apply Kd.Q_drew)); exact (Kd.Q_mono (Kd.Q_far (p := ⟨gb492, 4, none⟩) (Kd.Q_far (p := ⟨gb492, 3, none⟩) (Kd.Q_far (p := ⟨gb492, 2, none⟩) (Kd.Q_far (p := ⟨gb492, 1, none⟩) (Kd.Q_far (p := ⟨gb492, 0, none⟩) (Kd.Q_types HO483.out BK492.out (by decide)) (fun _ hk => hk.2) (.int .i64 t486)) (fun _ hk => hk.2) (.int .i64 t487)) (fun _ hk => hk.2) (.int .i64 t488)) (fun _ hk => hk.2) (.int .i64 t489)) (fun _ hk => hk.2) (.string t490)) (fun _ h_ => h_.1))) (by decide)) hk (fun _ h => h.2)) (fun _ h => h.1)); have n2_ := Aside0.mk (KeepBut.blk hk (g' := gb492) (o := .cells #[.int .i64 t486, .int .i64 t487, .int .i64 t488, .int .i64 t489, .string t490] 30 (0, 0)) (by (with_reducible repeat (first | refine blk_drewN ?_ _ | refine blk_drew ?_ | refine blk_alloc ?_ _)); refine blk_put (cs := #[.int .i64 t486, .int .i64 t487, .int .i64 t488, .int .i64 t489, .string (⟨#[]⟩ : ByteArray)]) ?_ 4 _ rfl; (with_reducible repeat (first | refine blk_drewN ?_ _ | refine blk_drew ?_ | refine blk_alloc ?_ _)); refine blk_put (cs := #[.int .i64 t486, .int .i64 t487, .int .i64 t488, .int .i64 0, .string (⟨#[]⟩ : ByteArray)]) ?_ 3 _ rfl; (with_reducible repeat (first | refine blk_drewN ?_ _ | refine blk_drew ?_ | refine blk_alloc ?_ _)); refine blk_put (cs := #[.int .i64 t486, .int .i64 t487, .int .i64 0, .int .i64 0, .string (⟨#[]⟩ : ByteArray)]) ?_ 2 _ rfl; (with_reducible repeat (first | refine blk_drewN ?_ _ | refine blk_drew ?_ | refine blk_alloc ?_ _)); refine blk_put (cs := #[.int .i64 t486, .int .i64 0, .int .i64 0, .int .i64 0, .string (⟨#[]⟩ : ByteArray)]) ?_ 1 _ rfl; (with_reducible repeat (first | refine blk_drewN ?_ _ | refine blk_drew ?_ | refine blk_alloc ?_ _)); refine blk_put (cs := #[.int .i64 0, .int .i64 0, .int .i64 0, .int .i64 0, .string (⟨#[]⟩ : ByteArray)]) ?_ 0 _ rfl; (with_reducible repeat (first | refine blk_drewN ?_ _ | refine blk_drew ?_ | refine blk_alloc ?_ _)); exact BK492.out) NB492_0.out (by simp)); have n3_ := Aside0.mk (KeepBut.trans (kf_ HK.out) hk (.inl rfl)); have n4_ := Aside0.mk (hb); have n5_ := Aside0.mk (hi); clear BK480; clear HO483; clear BK492; clear HK; clear HB; clear HI0; have BK480 := n0_; have HO483 := n1_; have BK492 := n2_; have HK := n3_; have HB := n4_; have HI0 := n5_; clear n0_ n1_ n2_ n3_ n4_ n5_; (try clear hb hk hi); have hnb21 := NB492_480.out; have hnc21 := NB480_492.out; have hnb22 := NB492_0.out; have hnc22 := NB0_492.out; have hcz23_0 := cz_ BK492.out 0 (.int .i64 t486); have hcz23_1 := cz_ BK492.out 1 (.int .i64 t487); have hcz23_2 := cz_ BK492.out 2 (.int .i64 t488); have hcz23_3 := cz_ BK492.out 3 (.int .i64 t489); have hcz23_4 := cz_ BK492.out 4 (.string t490); have hfz23_0 := blk_frozen BK492.out 0; have hfz23_1 := blk_frozen BK492.out 1; have hfz23_2 := blk_frozen BK492.out 2; have hfz23_3 := blk_frozen BK492.out 3; have hfz23_4 := blk_frozen BK492.out 4) | (go_at_call 50; (with_reducible refine (spec_l1Made.calls t484 t495 _ A19.out).mono ?_); rintro e w' ⟨rfl, ⟨nd, rfl⟩⟩))
    go_meet
    case rel => exact ⟨_, (t495), (t494), (si_), H', ⟨by first | omega | exact Nat.le_refl _⟩, ⟨by (with_reducible repeat (first | apply Kd.Q_alloc | apply Kd.Q_drewN | apply Kd.Q_drew)); exact HO483.out⟩, ⟨by (with_reducible repeat (first | refine blk_drewN ?_ _ | refine blk_drew ?_ | refine blk_alloc ?_ _)); exact BK480.out⟩, ⟨by (with_reducible repeat (first | refine blk_drewN ?_ _ | refine blk_drew ?_ | refine blk_alloc ?_ _)); exact BK492.out⟩, ⟨is_HI0⟩, ⟨kf_ HK.out⟩, ⟨bel_⟩⟩
  ·rw [if_neg c13] at H
   have c13b0 : decide (0 < t493) = false := decide_eq_false c13
   clear c13
   (first | rw [c13b0] | (simp only [i64_w, i32_w]; rw [c13b0]) | skip)
   have H' := Aside0.mk H
   clear H
   go_wp2_with (first | ((with_reducible refine gate_callee (f := 72) rfl ?_); refine gl_ 16 Tryd.func72 #[.pointer (some ⟨g, 0, none⟩), .int .i64 5] ?_; (with_reducible refine (spec_l6Rd_pick.calls k g s0_0 t491 5 t493 t494 w0 _ ?side1 ?side2 A12.out).mono ?_); (case side1 => exact is_HI0); (case side2 => exact bel_); rintro e w24 ⟨rfl, hi, hb, hk⟩; refine ⟨_, rfl, ?_⟩; have n0_ := Aside0.mk (KeepBut.blk hk (g' := gb480) (o := .cells #[.int .i64 0, .int .i64 0, .int .i64 0, .int .i64 0, .string (⟨#[]⟩ : ByteArray)] 30 (0, 0)) (by (with_reducible repeat (first | refine blk_drewN ?_ _ | refine blk_drew ?_ | refine blk_alloc ?_ _)); refine blk_far ?_ NB480_492.out _; (with_reducible repeat (first | refine blk_drewN ?_ _ | refine blk_drew ?_ | refine blk_alloc ?_ _)); refine blk_far ?_ NB480_492.out _; (with_reducible repeat (first | refine blk_drewN ?_ _ | refine blk_drew ?_ | refine blk_alloc ?_ _)); refine blk_far ?_ NB480_492.out _; (with_reducible repeat (first | refine blk_drewN ?_ _ | refine blk_drew ?_ | refine blk_alloc ?_ _)); refine blk_far ?_ NB480_492.out _; (with_reducible repeat (first | refine blk_drewN ?_ _ | refine blk_drew ?_ | refine blk_alloc ?_ _)); refine blk_far ?_ NB480_492.out _; (with_reducible repeat (first | refine blk_drewN ?_ _ | refine blk_drew ?_ | refine blk_alloc ?_ _)); exact BK480.out) NB480_0.out (by simp)); have n1_ := Aside0.mk (Kd.Q_mono (Kd.Q_keep (IsS106.apartQ (show IsS106 w0 _ g s0_0 t491 from is_HI0) (by (with_reducible repeat (first | apply Kd.Q_alloc | apply Kd.Q_drewN | apply Kd.Q_drew)); exact (Kd.Q_mono (Kd.Q_far (p := ⟨gb492, 4, none⟩) (Kd.Q_far (p := ⟨gb492, 3, none⟩) (Kd.Q_far (p := ⟨gb492, 2, none⟩) (Kd.Q_far (p := ⟨gb492, 1, none⟩) (Kd.Q_far (p := ⟨gb492, 0, none⟩) (Kd.Q_types HO483.out BK492.out (by decide)) (fun _ hk => hk.2) (.int .i64 t486)) (fun _ hk => hk.2) (.int .i64 t487)) (fun _ hk => hk.2) (.int .i64 t488)) (fun _ hk => hk.2) (.int .i64 t489)) (fun _ hk => hk.2) (.string t490)) (fun _ h_ => h_.1))) (by decide)) hk (fun _ h => h.2)) (fun _ h => h.1)); have n2_ := Aside0.mk (KeepBut.blk hk (g' := gb492) (o := .cells #[.int .i64 t486, .int .i64 t487, .int .i64 t488, .int .i64 t489, .string t490] 30 (0, 0)) (by (with_reducible repeat (first | refine blk_drewN ?_ _ | refine blk_drew ?_ | refine blk_alloc ?_ _)); refine blk_put (cs := #[.int .i64 t486, .int .i64 t487, .int .i64 t488, .int .i64 t489, .string (⟨#[]⟩ : ByteArray)]) ?_ 4 _ rfl; (with_reducible repeat (first | refine blk_drewN ?_ _ | refine blk_drew ?_ | refine blk_alloc ?_ _)); refine blk_put (cs := #[.int .i64 t486, .int .i64 t487, .int .i64 t488, .int .i64 0, .string (⟨#[]⟩ : ByteArray)]) ?_ 3 _ rfl; (with_reducible repeat (first | refine blk_drewN ?_ _ | refine blk_drew ?_ | refine blk_alloc ?_ _)); refine blk_put (cs := #[.int .i64 t486, .int .i64 t487, .int .i64 0, .int .i64 0, .string (⟨#[]⟩ : ByteArray)]) ?_ 2 _ rfl; (with_reducible repeat (first | refine blk_drewN ?_ _ | refine blk_drew ?_ | refine blk_alloc ?_ _)); refine blk_put (cs := #[.int .i64 t486, .int .i64 0, .int .i64 0, .int .i64 0, .string (⟨#[]⟩ : ByteArray)]) ?_ 1 _ rfl; (with_reducible repeat (first | refine blk_drewN ?_ _ | refine blk_drew ?_ | refine blk_alloc ?_ _)); refine blk_put (cs := #[.int .i64 0, .int .i64 0, .int .i64 0, .int .i64 0, .string (⟨#[]⟩ : ByteArray)]) ?_ 0 _ rfl; (with_reducible repeat (first | refine blk_drewN ?_ _ | refine blk_drew ?_ | refine blk_alloc ?_ _)); exact BK492.out) NB492_0.out (by simp)); have n3_ := Aside0.mk (KeepBut.trans (kf_ HK.out) hk (.inl rfl)); have n4_ := Aside0.mk (hb); have n5_ := Aside0.mk (hi); clear BK480; clear HO483; clear BK492; clear HK; clear HB; clear HI0; have BK480 := n0_; have HO483 := n1_; have BK492 := n2_; have HK := n3_; have HB := n4_; have HI0 := n5_; clear n0_ n1_ n2_ n3_ n4_ n5_; (try clear hb hk hi)))
   go_meet
   case rel => exact ⟨_, (false), (t494), (si_), H', ⟨by first | omega | exact Nat.le_refl _⟩, ⟨by (with_reducible repeat (first | apply Kd.Q_alloc | apply Kd.Q_drewN | apply Kd.Q_drew)); exact HO483.out⟩, ⟨by (with_reducible repeat (first | refine blk_drewN ?_ _ | refine blk_drew ?_ | refine blk_alloc ?_ _)); exact BK480.out⟩, ⟨by (with_reducible repeat (first | refine blk_drewN ?_ _ | refine blk_drew ?_ | refine blk_alloc ?_ _)); exact BK492.out⟩, ⟨is_HI0⟩, ⟨kf_ HK.out⟩, ⟨bel_⟩⟩
 case rest =>
  clear HC4
  try clear c1
  try clear c2
  try clear p2
  try clear c4
  try clear c7
  try clear c9
  try clear c10
  try clear c13
  try clear c13b0
  try clear c14
  try clear c14b0
  try clear c14b1
  try clear c16
  try clear c17
  try clear c21
  try clear c22
  try clear hcz11_0
  try clear hcz11_1
  try clear hcz11_2
  try clear hcz11_3
  try clear hcz11_4
  try clear hcz18_0
  try clear hcz18_1
  try clear hcz18_2
  try clear hcz18_3
  try clear hcz18_4
  try clear hcz23_0
  try clear hcz23_1
  try clear hcz23_2
  try clear hcz23_3
  try clear hcz23_4
  try clear hfz11_0
  try clear hfz11_1
  try clear hfz11_2
  try clear hfz11_3
  try clear hfz11_4
  try clear hfz18_0
  try clear hfz18_1
  try clear hfz18_2
  try clear hfz18_3
  try clear hfz18_4
  try clear hfz23_0
  try clear hfz23_1
  try clear hfz23_2
  try clear hfz23_3
  try clear hfz23_4
  obtain ⟨kq, x26_3, x1001_3, rfl, HA, HJ3, HO_4, BK480, BK492, HI0, HK, HB⟩ := hcut
  cases kq with
  | zero => exact absurd HA.out (by simp [spec_l71Fits.j0])
  | succ kj3 =>
   have H := HA.out
   clear HA
   simp only [spec_l71Fits.j0] at H
   have HC25 := Aside0.mk H
   clear H
   go_upto_if 26 with (fail)
   go_cut [] (fun wc => ∃ (kq : Nat) (x493001_24 : Int), Aside0 (spec_l71Fits.j1 kq t481 s0_0 x1001_3 t486 x493001_24 t488 t489 t490 = some (r1, r2, r3, r4, r5, r6, r7)) ∧ Aside0 (kq ≤ kj3) ∧ Aside0 (Kd.Q k43 43 wc w.heap.size (fun _ => True) v482 t481) ∧ Aside0 (wc.heap[gb480]? = some (.cells #[.int .i64 0, .int .i64 0, .int .i64 0, .int .i64 0, .string (⟨#[]⟩ : ByteArray)] 30 (0, 0))) ∧ Aside0 (wc.heap[gb492]? = some (.cells #[.int .i64 t486, .int .i64 x493001_24, .int .i64 t488, .int .i64 t489, .string t490] 30 (0, 0))) ∧ Aside0 (IsS106 w0 wc g s0_0 x1001_3) ∧ Aside0 (KeepBut w wc g none) ∧ Aside0 (Below w0.heap.size w0 wc))
   case first =>
    have H := HC25.out
    clear HC25
    by_cases c26 : x26_3 = true
    ·subst c26
     have H1 : (spec_l71Fits.j1 kj3 t481 s0_0 x1001_3 t486 t484 t488 t489 t490) = some (r1, r2, r3, r4, r5, r6, r7) := by rw [if_pos rfl] at H; exact H
     clear H
     have H := H1
     clear H1
     have H' := Aside0.mk H
     clear H
     have hnb27 := NB492_480.out
     have hnc27 := NB480_492.out
     have hnb28 := NB492_0.out
     have hnc28 := NB0_492.out
     have hcz29_0 : wc.cell? ⟨gb492, 0, none⟩ = some (.int .i64 t486) := (blk_cell BK492.out 0).trans rfl
     have hcz29_1 : wc.cell? ⟨gb492, 1, none⟩ = some (.int .i64 t487) := (blk_cell BK492.out 1).trans rfl
     have hcz29_2 : wc.cell? ⟨gb492, 2, none⟩ = some (.int .i64 t488) := (blk_cell BK492.out 2).trans rfl
     have hcz29_3 : wc.cell? ⟨gb492, 3, none⟩ = some (.int .i64 t489) := (blk_cell BK492.out 3).trans rfl
     have hcz29_4 : wc.cell? ⟨gb492, 4, none⟩ = some (.string t490) := (blk_cell BK492.out 4).trans rfl
     have hfz29_0 := blk_frozen BK492.out 0
     have hfz29_1 := blk_frozen BK492.out 1
     have hfz29_2 := blk_frozen BK492.out 2
     have hfz29_3 := blk_frozen BK492.out 3
     have hfz29_4 := blk_frozen BK492.out 4
     go_wp2
     go_meet
     case rel => exact ⟨_, (t484), H', ⟨by have := HJ3.out; first | omega | exact Nat.le_refl _⟩, ⟨by (with_reducible repeat (first | apply Kd.Q_alloc | apply Kd.Q_drewN | apply Kd.Q_drew)); exact Kd.Q_mono (Kd.Q_far (p := ⟨gb492, 1, none⟩) (Kd.Q_types HO_4.out BK492.out (by decide)) (fun _ hk => hk.2) (.int .i64 t484)) (fun _ hk => trivial)⟩, ⟨by (with_reducible repeat (first | refine blk_drewN ?_ _ | refine blk_drew ?_ | refine blk_alloc ?_ _)); refine blk_far ?_ NB480_492.out _; (with_reducible repeat (first | refine blk_drewN ?_ _ | refine blk_drew ?_ | refine blk_alloc ?_ _)); exact BK480.out⟩, ⟨by (with_reducible repeat (first | refine blk_drewN ?_ _ | refine blk_drew ?_ | refine blk_alloc ?_ _)); refine blk_put (cs := #[.int .i64 t486, .int .i64 t487, .int .i64 t488, .int .i64 t489, .string t490]) ?_ 1 _ rfl; (with_reducible repeat (first | refine blk_drewN ?_ _ | refine blk_drew ?_ | refine blk_alloc ?_ _)); exact BK492.out⟩, ⟨is_HI0⟩, ⟨kf_ HK.out⟩, ⟨bel_⟩⟩
    ·replace c26 := Bool.eq_false_iff.mpr c26
     subst c26
     have H1 : (spec_l71Fits.j1 kj3 t481 s0_0 x1001_3 t486 t487 t488 t489 t490) = some (r1, r2, r3, r4, r5, r6, r7) := by rw [if_neg (show ¬ (false = true) by decide)] at H; exact H
     clear H
     have H := H1
     clear H1
     have H' := Aside0.mk H
     clear H
     go_wp2
     go_meet
     case rel => exact ⟨_, (t487), H', ⟨by have := HJ3.out; first | omega | exact Nat.le_refl _⟩, ⟨by (with_reducible repeat (first | apply Kd.Q_alloc | apply Kd.Q_drewN | apply Kd.Q_drew)); exact HO_4.out⟩, ⟨by (with_reducible repeat (first | refine blk_drewN ?_ _ | refine blk_drew ?_ | refine blk_alloc ?_ _)); exact BK480.out⟩, ⟨by (with_reducible repeat (first | refine blk_drewN ?_ _ | refine blk_drew ?_ | refine blk_alloc ?_ _)); exact BK492.out⟩, ⟨is_HI0⟩, ⟨kf_ HK.out⟩, ⟨bel_⟩⟩
   case rest =>
    clear HC25
    try clear c1
    try clear c2
    try clear p2
    try clear c4
    try clear c7
    try clear c9
    try clear c10
    try clear c13
    try clear c13b0
    try clear c14
    try clear c14b0
    try clear c14b1
    try clear c16
    try clear c17
    try clear c21
    try clear c22
    try clear c26
    try clear c27
    try clear c28
    try clear hcz11_0
    try clear hcz11_1
    try clear hcz11_2
    try clear hcz11_3
    try clear hcz11_4
    try clear hcz18_0
    try clear hcz18_1
    try clear hcz18_2
    try clear hcz18_3
    try clear hcz18_4
    try clear hcz23_0
    try clear hcz23_1
    try clear hcz23_2
    try clear hcz23_3
    try clear hcz23_4
    try clear hcz29_0
    try clear hcz29_1
    try clear hcz29_2
    try clear hcz29_3
    try clear hcz29_4
    try clear hfz11_0
    try clear hfz11_1
    try clear hfz11_2
    try clear hfz11_3
    try clear hfz11_4
    try clear hfz18_0
    try clear hfz18_1
    try clear hfz18_2
    try clear hfz18_3
    try clear hfz18_4
    try clear hfz23_0
    try clear hfz23_1
    try clear hfz23_2
    try clear hfz23_3
    try clear hfz23_4
    try clear hfz29_0
    try clear hfz29_1
    try clear hfz29_2
    try clear hfz29_3
    try clear hfz29_4
    try clear p2
    obtain ⟨kq, x493001_24, HA, HJ24, HO_4, BK480, BK492, HI0, HK, HB⟩ := hcut
    cases kq with
    | zero => exact absurd HA.out (by simp [spec_l71Fits.j1])
    | succ kj24 =>
     have H := HA.out
     clear HA
     simp only [spec_l71Fits.j1] at H
     have HC30 := Aside0.mk H
     clear H
     go_upto_region 5 with (fail)
     go_cut [41] (fun v41 wc => ∃ (kq : Nat) (x41_29 : Bool) (x1001_29 : Int), v41 = .bool x41_29 ∧ Aside0 (spec_l71Fits.j2 kq t481 x41_29 s0_0 x1001_29 t486 x493001_24 t488 t489 t490 = some (r1, r2, r3, r4, r5, r6, r7)) ∧ Aside0 (kq ≤ kj24) ∧ Aside0 (Kd.Q k43 43 wc w.heap.size (fun _ => True) v482 t481) ∧ Aside0 (wc.heap[gb480]? = some (.cells #[.int .i64 0, .int .i64 0, .int .i64 0, .int .i64 0, .string (⟨#[]⟩ : ByteArray)] 30 (0, 0))) ∧ Aside0 (wc.heap[gb492]? = some (.cells #[.int .i64 t486, .int .i64 x493001_24, .int .i64 t488, .int .i64 t489, .string t490] 30 (0, 0))) ∧ Aside0 (IsS106 w0 wc g s0_0 x1001_29) ∧ Aside0 (KeepBut w wc g none) ∧ Aside0 (Below w0.heap.size w0 wc))
     case first =>
      have H := HC30.out
      clear HC30
      replace H := Option.bind_eq_some_iff.mp H
      obtain ⟨⟨t496, t497⟩, A310, H⟩ := H
      try dsimp only at H
      have A31 := Aside0.mk A310
      clear A310
      by_cases c32 : t496 = 0
      ·rw [if_pos c32] at H
       have c32b0 : (t496 == 0) = true := beq_iff_eq.mpr c32
       have c32b1 : (t496 != 0) = false := bne_eq_false_iff_eq.mpr c32
       clear c32
       (first | rw [c32b0] | (simp only [i64_w, i32_w]; rw [c32b0]) | skip)
       by_cases c33 : t486 = 3
       ·rw [if_pos c33] at H
        have c33b0 : (t486 == 3) = true := beq_iff_eq.mpr c33
        have c33b1 : (t486 != 3) = false := bne_eq_false_iff_eq.mpr c33
        clear c33
        have H' := Aside0.mk H
        clear H
        go_wp2_with (first | ((with_reducible refine gate_callee (f := 72) rfl ?_); refine gl_ 30 Tryd.func72 #[.pointer (some ⟨g, 0, none⟩), .int .i64 3] ?_; (with_reducible refine (spec_l6Rd_pick.calls kj24 g s0_0 x1001_3 3 t496 t497 w0 _ ?side1 ?side2 A31.out).mono ?_); (case side1 => exact is_HI0); (case side2 => exact bel_); rintro e w34 ⟨rfl, hi, hb, hk⟩; refine ⟨_, rfl, ?_⟩; replace HO_4 := Aside0.mk (Kd.Q_mono (Kd.Q_keep (IsS106.apartQ (show IsS106 w0 _ g s0_0 x1001_3 from is_HI0) (qp_ HO_4.out) (by decide)) hk (fun _ h => h.2)) (fun _ h => h.1)); replace BK480 := Aside0.mk (kb_ hk BK480.out NB480_0.out); replace BK492 := Aside0.mk (kb_ hk BK492.out NB492_0.out); replace HK := Aside0.mk (KeepBut.trans (kf_ HK.out) hk (.inl rfl)); replace HB := Aside0.mk (hb); replace HI0 := Aside0.mk (hi); (try clear hb hk hi); have hnb35 := NB492_480.out; have hnc35 := NB480_492.out; have hnb36 := NB492_0.out; have hnc36 := NB0_492.out; have hcz37_0 := cz_ BK492.out 0 (.int .i64 t486); have hcz37_1 := cz_ BK492.out 1 (.int .i64 x493001_24); have hcz37_2 := cz_ BK492.out 2 (.int .i64 t488); have hcz37_3 := cz_ BK492.out 3 (.int .i64 t489); have hcz37_4 := cz_ BK492.out 4 (.string t490); have hfz37_0 := blk_frozen BK492.out 0; have hfz37_1 := blk_frozen BK492.out 1; have hfz37_2 := blk_frozen BK492.out 2; have hfz37_3 := blk_frozen BK492.out 3; have hfz37_4 := blk_frozen BK492.out 4))
        go_meet
        case rel => exact ⟨_, (true), (t497), (si_), H', ⟨by have := HJ3.out; have := HJ24.out; first | omega | exact Nat.le_refl _⟩, ⟨by (with_reducible repeat (first | apply Kd.Q_alloc | apply Kd.Q_drewN | apply Kd.Q_drew)); exact HO_4.out⟩, ⟨by (with_reducible repeat (first | refine blk_drewN ?_ _ | refine blk_drew ?_ | refine blk_alloc ?_ _)); exact BK480.out⟩, ⟨by (with_reducible repeat (first | refine blk_drewN ?_ _ | refine blk_drew ?_ | refine blk_alloc ?_ _)); exact BK492.out⟩, ⟨is_HI0⟩, ⟨kf_ HK.out⟩, ⟨bel_⟩⟩
       ·rw [if_neg c33] at H
        have c33b0 : (t486 == 3) = false := beq_eq_false_iff_ne.mpr c33
        have c33b1 : (t486 != 3) = true := bne_iff_ne.mpr c33
        have H' := Aside0.mk H
        clear H
        go_wp2_with (first | ((with_reducible refine gate_callee (f := 72) rfl ?_); refine gl_ 30 Tryd.func72 #[.pointer (some ⟨g, 0, none⟩), .int .i64 3] ?_; (with_reducible refine (spec_l6Rd_pick.calls kj24 g s0_0 x1001_3 3 t496 t497 w0 _ ?side1 ?side2 A31.out).mono ?_); (case side1 => exact is_HI0); (case side2 => exact bel_); rintro e w38 ⟨rfl, hi, hb, hk⟩; refine ⟨_, rfl, ?_⟩; replace HO_4 := Aside0.mk (Kd.Q_mono (Kd.Q_keep (IsS106.apartQ (show IsS106 w0 _ g s0_0 x1001_3 from is_HI0) (qp_ HO_4.out) (by decide)) hk (fun _ h => h.2)) (fun _ h => h.1)); replace BK480 := Aside0.mk (kb_ hk BK480.out NB480_0.out); replace BK492 := Aside0.mk (kb_ hk BK492.out NB492_0.out); replace HK := Aside0.mk (KeepBut.trans (kf_ HK.out) hk (.inl rfl)); replace HB := Aside0.mk (hb); replace HI0 := Aside0.mk (hi); (try clear hb hk hi); have hnb39 := NB492_480.out; have hnc39 := NB480_492.out; have hnb40 := NB492_0.out; have hnc40 := NB0_492.out; have hcz41_0 := cz_ BK492.out 0 (.int .i64 t486); have hcz41_1 := cz_ BK492.out 1 (.int .i64 x493001_24); have hcz41_2 := cz_ BK492.out 2 (.int .i64 t488); have hcz41_3 := cz_ BK492.out 3 (.int .i64 t489); have hcz41_4 := cz_ BK492.out 4 (.string t490); have hfz41_0 := blk_frozen BK492.out 0; have hfz41_1 := blk_frozen BK492.out 1; have hfz41_2 := blk_frozen BK492.out 2; have hfz41_3 := blk_frozen BK492.out 3; have hfz41_4 := blk_frozen BK492.out 4))
        go_meet
        case rel => exact ⟨_, ((t486 == 1)), (t497), (si_), H', ⟨by have := HJ3.out; have := HJ24.out; first | omega | exact Nat.le_refl _⟩, ⟨by (with_reducible repeat (first | apply Kd.Q_alloc | apply Kd.Q_drewN | apply Kd.Q_drew)); exact HO_4.out⟩, ⟨by (with_reducible repeat (first | refine blk_drewN ?_ _ | refine blk_drew ?_ | refine blk_alloc ?_ _)); exact BK480.out⟩, ⟨by (with_reducible repeat (first | refine blk_drewN ?_ _ | refine blk_drew ?_ | refine blk_alloc ?_ _)); exact BK492.out⟩, ⟨is_HI0⟩, ⟨kf_ HK.out⟩, ⟨bel_⟩⟩
      ·rw [if_neg c32] at H
       have c32b0 : (t496 == 0) = false := beq_eq_false_iff_ne.mpr c32
       have c32b1 : (t496 != 0) = true := bne_iff_ne.mpr c32
       (first | rw [c32b0] | (simp only [i64_w, i32_w]; rw [c32b0]) | skip)
       have H' := Aside0.mk H
       clear H
       go_wp2_with (first | ((with_reducible refine gate_callee (f := 72) rfl ?_); refine gl_ 30 Tryd.func72 #[.pointer (some ⟨g, 0, none⟩), .int .i64 3] ?_; (with_reducible refine (spec_l6Rd_pick.calls kj24 g s0_0 x1001_3 3 t496 t497 w0 _ ?side1 ?side2 A31.out).mono ?_); (case side1 => exact is_HI0); (case side2 => exact bel_); rintro e w42 ⟨rfl, hi, hb, hk⟩; refine ⟨_, rfl, ?_⟩; replace HO_4 := Aside0.mk (Kd.Q_mono (Kd.Q_keep (IsS106.apartQ (show IsS106 w0 _ g s0_0 x1001_3 from is_HI0) (qp_ HO_4.out) (by decide)) hk (fun _ h => h.2)) (fun _ h => h.1)); replace BK480 := Aside0.mk (kb_ hk BK480.out NB480_0.out); replace BK492 := Aside0.mk (kb_ hk BK492.out NB492_0.out); replace HK := Aside0.mk (KeepBut.trans (kf_ HK.out) hk (.inl rfl)); replace HB := Aside0.mk (hb); replace HI0 := Aside0.mk (hi); (try clear hb hk hi)))
       go_meet
       case rel => exact ⟨_, (false), (t497), (si_), H', ⟨by have := HJ3.out; have := HJ24.out; first | omega | exact Nat.le_refl _⟩, ⟨by (with_reducible repeat (first | apply Kd.Q_alloc | apply Kd.Q_drewN | apply Kd.Q_drew)); exact HO_4.out⟩, ⟨by (with_reducible repeat (first | refine blk_drewN ?_ _ | refine blk_drew ?_ | refine blk_alloc ?_ _)); exact BK480.out⟩, ⟨by (with_reducible repeat (first | refine blk_drewN ?_ _ | refine blk_drew ?_ | refine blk_alloc ?_ _)); exact BK492.out⟩, ⟨is_HI0⟩, ⟨kf_ HK.out⟩, ⟨bel_⟩⟩
     case rest =>
      clear HC30
      try clear c1
      try clear c2
      try clear p2
      try clear c3
      try clear c4
      try clear c7
      try clear c9
      try clear c10
      try clear c13
      try clear c13b0
      try clear c14
      try clear c14b0
      try clear c14b1
      try clear c16
      try clear c17
      try clear c21
      try clear c22
      try clear c26
      try clear c27
      try clear c28
      try clear c32
      try clear c32b0
      try clear c32b1
      try clear c33
      try clear c33b0
      try clear c33b1
      try clear c35
      try clear c36
      try clear c39
      try clear c40
      try clear hcz11_0
      try clear hcz11_1
      try clear hcz11_2
      try clear hcz11_3
      try clear hcz11_4
      try clear hcz18_0
      try clear hcz18_1
      try clear hcz18_2
      try clear hcz18_3
      try clear hcz18_4
      try clear hcz23_0
      try clear hcz23_1
      try clear hcz23_2
      try clear hcz23_3
      try clear hcz23_4
      try clear hcz29_0
      try clear hcz29_1
      try clear hcz29_2
      try clear hcz29_3
      try clear hcz29_4
      try clear hcz37_0
      try clear hcz37_1
      try clear hcz37_2
      try clear hcz37_3
      try clear hcz37_4
      try clear hcz41_0
      try clear hcz41_1
      try clear hcz41_2
      try clear hcz41_3
      try clear hcz41_4
      try clear hfz11_0
      try clear hfz11_1
      try clear hfz11_2
      try clear hfz11_3
      try clear hfz11_4
      try clear hfz18_0
      try clear hfz18_1
      try clear hfz18_2
      try clear hfz18_3
      try clear hfz18_4
      try clear hfz23_0
      try clear hfz23_1
      try clear hfz23_2
      try clear hfz23_3
      try clear hfz23_4
      try clear hfz29_0
      try clear hfz29_1
      try clear hfz29_2
      try clear hfz29_3
      try clear hfz29_4
      try clear hfz37_0
      try clear hfz37_1
      try clear hfz37_2
      try clear hfz37_3
      try clear hfz37_4
      try clear hfz41_0
      try clear hfz41_1
      try clear hfz41_2
      try clear hfz41_3
      try clear hfz41_4
      try clear p2
      obtain ⟨kq, x41_29, x1001_29, rfl, HA, HJ29, HO_4, BK480, BK492, HI0, HK, HB⟩ := hcut
      cases kq with
      | zero => exact absurd HA.out (by simp [spec_l71Fits.j2])
      | succ kj29 =>
       have H := HA.out
       clear HA
       simp only [spec_l71Fits.j2] at H
       by_cases c43 : x41_29 = true
       ·subst c43
        have H1 : ((spec_l6Rd_pick.f kj29 s0_0 x1001_29 (t481.length : Int)).bind fun bt498 => (if 0 ≤ bt498.1 then (if bt498.1 < (t481.length : Int) then ((spec_l2Kids.f kj29 t481 ((rd_T43 t481 bt498.1).f0)).bind fun t501 => (if (t501.length : Int) > 0 then ((spec_l6Rd_pick.f kj29 s0_0 bt498.2 (t501.length : Int)).bind fun bt504 => (if 0 ≤ bt504.1 then (if bt504.1 < (t501.length : Int) then (some (t481, t486, x493001_24, (rd_T43 t481 bt498.1).f0, rd t501 bt504.1, t490, bt504.2)) else (none)) else (none))) else (some (t481, t486, x493001_24, (rd_T43 t481 bt498.1).f0, t489, t490, bt498.2)))) else (none)) else (none))) = some (r1, r2, r3, r4, r5, r6, r7) := by rw [if_pos rfl] at H; exact H
        clear H
        have H := H1
        clear H1
        replace H := Option.bind_eq_some_iff.mp H
        obtain ⟨⟨t498, t499⟩, A440, H⟩ := H
        try dsimp only at H
        have A44 := Aside0.mk A440
        clear A440
        by_cases c45 : 0 ≤ t498
        ·rw [if_pos c45] at H
         have c45b0 : decide (0 ≤ t498) = true := decide_eq_true c45
         clear c45
         by_cases c46 : t498 < (t481.length : Int)
         ·rw [if_pos c46] at H
          have c46b0 : decide (t498 < (t481.length : Int)) = true := decide_eq_true c46
          clear c46
          replace H := Option.bind_eq_some_iff.mp H
          obtain ⟨t501, A470, H⟩ := H
          try dsimp only at H
          have A47 := Aside0.mk A470
          clear A470
          by_cases c48 : (t501.length : Int) > 0
          ·rw [if_pos c48] at H
           have c48b0 : decide (0 < (t501.length : Int)) = true := decide_eq_true c48
           have c48b1 : decide (0 < t501.length) = true := decide_eq_true (by omega)
           clear c48
           replace H := Option.bind_eq_some_iff.mp H
           obtain ⟨⟨t504, t505⟩, A490, H⟩ := H
           try dsimp only at H
           have A49 := Aside0.mk A490
           clear A490
           by_cases c50 : 0 ≤ t504
           ·rw [if_pos c50] at H
            have c50b0 : decide (0 ≤ t504) = true := decide_eq_true c50
            clear c50
            by_cases c51 : t504 < (t501.length : Int)
            ·rw [if_pos c51] at H
             have c51b0 : decide (t504 < (t501.length : Int)) = true := decide_eq_true c51
             clear c51
             simp only [Option.some.injEq, Prod.mk.injEq] at H
             obtain ⟨rfl, rfl, rfl, rfl, rfl, rfl, rfl⟩ := H
             obtain ⟨Ao52, co52, eo52, _⟩ := Kd.Q_slice HO_4.out
             subst eo52
             try go_wp2_with (first | ((with_reducible refine gate_callee (f := 72) rfl ?_); refine gl_ 46 Tryd.func72 #[.pointer (some ⟨g, 0, none⟩), .int .i64 (t481.length : Int)] ?_; (with_reducible refine (spec_l6Rd_pick.calls kj29 g s0_0 x1001_29 (t481.length : Int) t498 t499 w0 _ ?side1 ?side2 A44.out).mono ?_); (case side1 => exact is_HI0); (case side2 => exact bel_); rintro e w53 ⟨rfl, hi, hb, hk⟩; refine ⟨_, rfl, ?_⟩; replace HO_4 := Aside0.mk (Kd.Q_mono (Kd.Q_keep (IsS106.apartQ (show IsS106 w0 _ g s0_0 x1001_29 from is_HI0) (qp_ HO_4.out) (by decide)) hk (fun _ h => h.2)) (fun _ h => h.1)); replace BK480 := Aside0.mk (kb_ hk BK480.out NB480_0.out); replace BK492 := Aside0.mk (kb_ hk BK492.out NB492_0.out); replace HK := Aside0.mk (KeepBut.trans (kf_ HK.out) hk (.inl rfl)); replace HB := Aside0.mk (hb); replace HI0 := Aside0.mk (hi); (try clear hb hk hi); have p500 : 0 ≤ (t498 : Int) := od_; have q500 : t498 < (t481.length : Int) := od_; obtain ⟨ad500, e500, hx500_0, hx500_1, hx500_2⟩ := at_T43 (Kd.Q_reads' HO_4.out).2.2 t498 p500 q500; cases e500; replace p500 := eq_true p500; replace q500 := eq_true q500; have hnb54 := NB492_480.out; have hnc54 := NB480_492.out; have hnb55 := NB492_0.out; have hnc55 := NB0_492.out; have hcz56_0 := cz_ BK492.out 0 (.int .i64 t486); have hcz56_1 := cz_ BK492.out 1 (.int .i64 x493001_24); have hcz56_2 := cz_ BK492.out 2 (.int .i64 t488); have hcz56_3 := cz_ BK492.out 3 (.int .i64 t489); have hcz56_4 := cz_ BK492.out 4 (.string t490); have hfz56_0 := blk_frozen BK492.out 0; have hfz56_1 := blk_frozen BK492.out 1; have hfz56_2 := blk_frozen BK492.out 2; have hfz56_3 := blk_frozen BK492.out 3; have hfz56_4 := blk_frozen BK492.out 4) | ((with_reducible refine gate_callee (f := 73) rfl ?_); refine gl_ 54 Tryd.func73 #[.slice (some ad500) t481.length co52, .int .i64 ((rd_T43 t481 t498).f0)] ?_; (with_reducible refine (spec_l2Kids.calls kj29 _ _ t481 ((rd_T43 t481 t498).f0) t501 _ ?side1 ?side2 A47.out).mono ?_); (case side1 => refine (Kd.Q_reads' (e := 43) (base := w.heap.size) (ok := fun k_ => True) (n := t481.length) (c := co52) ?_).2.2; exact (by (with_reducible repeat (first | apply Kd.Q_alloc | apply Kd.Q_drewN | apply Kd.Q_drew)); exact (Kd.Q_mono (Kd.Q_far (p := ⟨gb492, 2, none⟩) (Kd.Q_types HO_4.out BK492.out (by decide)) (fun _ hk => hk.2) (.int .i64 ((rd_T43 t481 t498).f0))) (fun _ h_ => h_.1)))); (case side2 => exact (Kd.Q_reads' HO_4.out).2.1); rintro e w57 ⟨v502, rfl, ho0, hb⟩; refine ⟨_, rfl, ?_⟩; have n0_ := Aside0.mk (Kd.Q_below (by (with_reducible repeat (first | apply Kd.Q_alloc | apply Kd.Q_drewN | apply Kd.Q_drew)); exact (Kd.Q_mono (Kd.Q_far (p := ⟨gb492, 2, none⟩) (Kd.Q_types HO_4.out BK492.out (by decide)) (fun _ hk => hk.2) (.int .i64 ((rd_T43 t481 t498).f0))) (fun _ h_ => h_.1))) hb); have n1_ := Aside0.mk (Kd.R_lower ho0 (keep_size (w := w) (g := g) (row := none) (kf_ HK.out))); have n2_ := Aside0.mk (blk_below (g := gb480) (o := .cells #[.int .i64 0, .int .i64 0, .int .i64 0, .int .i64 0, .string (⟨#[]⟩ : ByteArray)] 30 (0, 0)) (by (with_reducible repeat (first | refine blk_drewN ?_ _ | refine blk_drew ?_ | refine blk_alloc ?_ _)); refine blk_far ?_ NB480_492.out _; (with_reducible repeat (first | refine blk_drewN ?_ _ | refine blk_drew ?_ | refine blk_alloc ?_ _)); exact BK480.out) hb); have n3_ := Aside0.mk (blk_below (g := gb492) (o := .cells #[.int .i64 t486, .int .i64 x493001_24, .int .i64 ((rd_T43 t481 t498).f0), .int .i64 t489, .string t490] 30 (0, 0)) (by (with_reducible repeat (first | refine blk_drewN ?_ _ | refine blk_drew ?_ | refine blk_alloc ?_ _)); refine blk_put (cs := #[.int .i64 t486, .int .i64 x493001_24, .int .i64 t488, .int .i64 t489, .string t490]) ?_ 2 _ rfl; (with_reducible repeat (first | refine blk_drewN ?_ _ | refine blk_drew ?_ | refine blk_alloc ?_ _)); exact BK492.out) hb); have n4_ := Aside0.mk (IsS106.below (show IsS106 w0 (w53.setCell ⟨gb492, 2, none⟩ (.int .i64 ((rd_T43 t481 t498).f0))) g s0_0 t499 from is_HI0) hb); have n5_ := Aside0.mk (KeepBut.trans (kf_ HK.out) (KeepBut.of_below hb g none) (.inl rfl)); have n6_ := Aside0.mk (below_step (bel_) hb); clear HO_4; clear BK480; clear BK492; clear HI0; clear HK; clear HB; have HO_4 := n0_; have HO503 := n1_; have BK480 := n2_; have BK492 := n3_; have HI0 := n4_; have HK := n5_; have HB := n6_; clear n0_ n1_ n2_ n3_ n4_ n5_ n6_; (try clear hb ho0); obtain ⟨Ao58, co58, eo58⟩ := Kd.R_slice HO503.out; subst eo58) | ((with_reducible refine gate_callee (f := 72) rfl ?_); refine gl_ 62 Tryd.func72 #[.pointer (some ⟨g, 0, none⟩), .int .i64 (t501.length : Int)] ?_; (with_reducible refine (spec_l6Rd_pick.calls kj29 g s0_0 t499 (t501.length : Int) t504 t505 w0 _ ?side1 ?side2 A49.out).mono ?_); (case side1 => exact is_HI0); (case side2 => exact bel_); rintro e w59 ⟨rfl, hi, hb, hk⟩; refine ⟨_, rfl, ?_⟩; replace HO_4 := Aside0.mk (Kd.Q_mono (Kd.Q_keep (IsS106.apartQ (show IsS106 w0 _ g s0_0 t499 from is_HI0) (qp_ HO_4.out) (by decide)) hk (fun _ h => h.2)) (fun _ h => h.1)); replace BK480 := Aside0.mk (kb_ hk BK480.out NB480_0.out); replace BK492 := Aside0.mk (kb_ hk BK492.out NB492_0.out); replace HO503 := Aside0.mk (Kd.R_mono (Kd.R_keep (IsS106.apart (show IsS106 w0 _ g s0_0 t499 from is_HI0) (rp_ HO503.out) (by decide)) hk (fun _ h => h.2)) (fun _ h => h.1)); replace HK := Aside0.mk (KeepBut.trans (kf_ HK.out) hk (.inl rfl)); replace HB := Aside0.mk (hb); replace HI0 := Aside0.mk (hi); (try clear hb hk hi); have p506 : 0 ≤ (t504 : Int) := od_; have q506 : t504 < (t501.length : Int) := od_; obtain ⟨ad506, e506, hx506_0⟩ := Kd.at_int (Kd.R_reads' HO503.out).2.2 t504 p506 q506; cases e506; replace p506 := eq_true p506; replace q506 := eq_true q506; have hcz60_0 := cz_ BK492.out 0 (.int .i64 t486); have hcz60_1 := cz_ BK492.out 1 (.int .i64 x493001_24); have hcz60_2 := cz_ BK492.out 2 (.int .i64 ((rd_T43 t481 t498).f0)); have hcz60_3 := cz_ BK492.out 3 (.int .i64 t489); have hcz60_4 := cz_ BK492.out 4 (.string t490); have hfz60_0 := blk_frozen BK492.out 0; have hfz60_1 := blk_frozen BK492.out 1; have hfz60_2 := blk_frozen BK492.out 2; have hfz60_3 := blk_frozen BK492.out 3; have hfz60_4 := blk_frozen BK492.out 4))
             have n0_ : Aside0 (Kd.Q k43 43 (w59.setCell ⟨gb492, 3, none⟩ (.int .i64 (rd t501 t504))) w.heap.size (fun _ => True) (.slice (some ad500) t481.length co52) t481) := ⟨by (with_reducible repeat (first | apply Kd.Q_alloc | apply Kd.Q_drewN | apply Kd.Q_drew)); exact Kd.Q_mono (Kd.Q_far (p := ⟨gb492, 3, none⟩) (Kd.Q_types HO_4.out BK492.out (by decide)) (fun _ hk => hk.2) (.int .i64 (rd t501 t504))) (fun _ hk => trivial)⟩
             have n1_ : Aside0 (Kd.R (Kd.int .i64) 3 (w59.setCell ⟨gb492, 3, none⟩ (.int .i64 (rd t501 t504))) w.heap.size (fun _ => True) (.slice (some ad506) t501.length co58) t501) := ⟨by (with_reducible repeat (first | apply Kd.R_alloc | apply Kd.R_drewN | apply Kd.R_drew)); exact Kd.R_mono (Kd.R_far (p := ⟨gb492, 3, none⟩) (Kd.R_types HO503.out BK492.out (by decide)) (fun _ hk => hk.2) (.int .i64 (rd t501 t504))) (fun _ hk => trivial)⟩
             have n2_ : Aside0 ((w59.setCell ⟨gb492, 3, none⟩ (.int .i64 (rd t501 t504))).heap[gb480]? = some (.cells #[.int .i64 0, .int .i64 0, .int .i64 0, .int .i64 0, .string (⟨#[]⟩ : ByteArray)] 30 (0, 0))) := ⟨by (with_reducible repeat (first | refine blk_drewN ?_ _ | refine blk_drew ?_ | refine blk_alloc ?_ _)); refine blk_far ?_ NB480_492.out _; (with_reducible repeat (first | refine blk_drewN ?_ _ | refine blk_drew ?_ | refine blk_alloc ?_ _)); exact BK480.out⟩
             have n3_ : Aside0 ((w59.setCell ⟨gb492, 3, none⟩ (.int .i64 (rd t501 t504))).heap[gb492]? = some (.cells #[.int .i64 t486, .int .i64 x493001_24, .int .i64 ((rd_T43 t481 t498).f0), .int .i64 (rd t501 t504), .string t490] 30 (0, 0))) := ⟨by (with_reducible repeat (first | refine blk_drewN ?_ _ | refine blk_drew ?_ | refine blk_alloc ?_ _)); refine blk_put (cs := #[.int .i64 t486, .int .i64 x493001_24, .int .i64 ((rd_T43 t481 t498).f0), .int .i64 t489, .string t490]) ?_ 3 _ rfl; (with_reducible repeat (first | refine blk_drewN ?_ _ | refine blk_drew ?_ | refine blk_alloc ?_ _)); exact BK492.out⟩
             have n4_ : Aside0 (IsS106 w0 (w59.setCell ⟨gb492, 3, none⟩ (.int .i64 (rd t501 t504))) g s0_0 t505) := ⟨is_HI0⟩
             have n5_ : Aside0 (KeepBut w (w59.setCell ⟨gb492, 3, none⟩ (.int .i64 (rd t501 t504))) g none) := ⟨kf_ HK.out⟩
             have n6_ : Aside0 (Below w0.heap.size w0 (w59.setCell ⟨gb492, 3, none⟩ (.int .i64 (rd t501 t504)))) := ⟨bel_⟩
             (try clear HO_4)
             (try clear HO503)
             (try clear BK480)
             (try clear BK492)
             (try clear HI0)
             (try clear HK)
             (try clear HB)
             generalize (w59.setCell ⟨gb492, 3, none⟩ (.int .i64 (rd t501 t504))) = w61 at n0_ n1_ n2_ n3_ n4_ n5_ n6_ ⊢
             have HO_4 := n0_
             have HO503 := n1_
             have BK480 := n2_
             have BK492 := n3_
             have HI0 := n4_
             have HK := n5_
             have HB := n6_
             clear n0_ n1_ n2_ n3_ n4_ n5_ n6_
             have n0_ := Aside0.mk (Kd.Q_drew HO_4.out)
             have n1_ := Aside0.mk (Kd.R_drew HO503.out)
             have n2_ := Aside0.mk (blk_drew BK480.out)
             have n3_ := Aside0.mk (blk_drew BK492.out)
             have n4_ := Aside0.mk (IsS106.drew HI0.out)
             have n5_ := Aside0.mk (keep_drew HK.out)
             have n6_ := Aside0.mk (below_drew1 HB.out)
             clear HO_4
             clear HO503
             clear BK480
             clear BK492
             clear HI0
             clear HK
             clear HB
             have HO_4 := n0_
             have HO503 := n1_
             have BK480 := n2_
             have BK492 := n3_
             have HI0 := n4_
             have HK := n5_
             have HB := n6_
             clear n0_ n1_ n2_ n3_ n4_ n5_ n6_
             refine start_ (n := 4) (S := fun w' => w'.cell? ⟨gb492, 0, none⟩ = some (.int .i64 t486) ∧ w'.cell? ⟨gb492, 1, none⟩ = some (.int .i64 x493001_24) ∧ w'.cell? ⟨gb492, 2, none⟩ = some (.int .i64 ((rd_T43 t481 t498).f0)) ∧ w'.cell? ⟨gb492, 3, none⟩ = some (.int .i64 (rd t501 t504)) ∧ w'.cell? ⟨gb492, 4, none⟩ = some (.string t490)) (ds := []) #[false, false, false, false] (by kernel_rfl) rfl rfl ⟨(blk_cell BK492.out 0).trans rfl, (blk_cell BK492.out 1).trans rfl, (blk_cell BK492.out 2).trans rfl, (blk_cell BK492.out 3).trans rfl, (blk_cell BK492.out 4).trans rfl⟩ (fun hHeld => ?_)
             generalize w61.drew = w62 at HO_4 HO503 BK480 BK492 HI0 HK HB hHeld ⊢
             refine pure_ (i := 0) (N := some 66) (v := ?_) (a' := ?_) #[true, false, false, false] rfl rfl (by kernel_rfl) (fun _ _ _ h => h) (Or.inl ⟨by rfl, ?_⟩) ?_ ?_
             rotate_left
             ·intro w'
              go_simp
              with_reducible rfl
             rotate_left
             ·simp only [Act.put, List.setIfInBounds_toArray, List.set_cons_zero, List.set_cons_succ, i64_w, i32_w]
              rfl
             refine pure_ (i := 2) (N := some 2) (v := ?_) (a' := ?_) #[true, false, true, false] rfl rfl (by kernel_rfl) (fun _ _ _ h => h) (Or.inl ⟨by rfl, ?_⟩) ?_ ?_
             rotate_left
             ·intro w'
              go_simp
              with_reducible rfl
             rotate_left
             ·simp only [Act.put, List.setIfInBounds_toArray, List.set_cons_zero, List.set_cons_succ, i64_w, i32_w]
              rfl
             refine take_ (i := 1) (N := some 67) (v := ?_) (a' := ?_) #[true, true, true, false] rfl rfl (by kernel_rfl) (fun _ _ _ h => h) (Or.inl ⟨by rfl, ?_⟩) hHeld ?_ ?_
             rotate_left
             ·rintro w' ⟨s0, s1, s2, s3, s4⟩
              go_simp
              with_reducible rfl
             rotate_left
             ·simp only [Act.put, List.setIfInBounds_toArray, List.set_cons_zero, List.set_cons_succ, i64_w, i32_w]
              rfl
             refine one_ (i := 3) (N := none) #[true, true, true, true] rfl rfl (by kernel_rfl) (by decide) (fun K hK => ?_)
             have hs63 : w62.cell? ⟨gb480, 0, none⟩ = some (.int .i64 0) := (blk_cell BK480.out 0).trans rfl
             have hfs63 := blk_frozen BK480.out 0
             have hns63_1 := NB492_480.out
             have hms63_1 := NB480_492.out
             have hs64 : w62.cell? ⟨gb480, 1, none⟩ = some (.int .i64 0) := (blk_cell BK480.out 1).trans rfl
             have hfs64 := blk_frozen BK480.out 1
             have hns64_1 := NB492_480.out
             have hms64_1 := NB480_492.out
             have hs65 : w62.cell? ⟨gb480, 2, none⟩ = some (.int .i64 0) := (blk_cell BK480.out 2).trans rfl
             have hfs65 := blk_frozen BK480.out 2
             have hns65_1 := NB492_480.out
             have hms65_1 := NB480_492.out
             have hs66 : w62.cell? ⟨gb480, 3, none⟩ = some (.int .i64 0) := (blk_cell BK480.out 3).trans rfl
             have hfs66 := blk_frozen BK480.out 3
             have hns66_1 := NB492_480.out
             have hms66_1 := NB480_492.out
             have hs67 : w62.cell? ⟨gb480, 4, none⟩ = some (.string (⟨#[]⟩ : ByteArray)) := (blk_cell BK480.out 4).trans rfl
             have hfs67 := blk_frozen BK480.out 4
             have hns67_1 := NB492_480.out
             have hms67_1 := NB480_492.out
             refine skip_ (w1 := ?_) (by rfl) rfl ?_ ?_
             rotate_left
             ·go_simp
              rfl
             refine hK.out _ _ ⟨((cell_far (p := ⟨gb480, _, none⟩) NB492_480.out _).trans (((cell_far (p := ⟨gb480, _, none⟩) NB492_480.out _).trans (((cell_far (p := ⟨gb480, _, none⟩) NB492_480.out _).trans (((cell_far (p := ⟨gb480, _, none⟩) NB492_480.out _).trans (((cell_far (p := ⟨gb480, _, none⟩) NB492_480.out _).trans (hHeld.1)))))))))), ((cell_far (p := ⟨gb480, _, none⟩) NB492_480.out _).trans (((cell_far (p := ⟨gb480, _, none⟩) NB492_480.out _).trans (((cell_far (p := ⟨gb480, _, none⟩) NB492_480.out _).trans (((cell_far (p := ⟨gb480, _, none⟩) NB492_480.out _).trans (((cell_far (p := ⟨gb480, _, none⟩) NB492_480.out _).trans (hHeld.2.1)))))))))), ((cell_far (p := ⟨gb480, _, none⟩) NB492_480.out _).trans (((cell_far (p := ⟨gb480, _, none⟩) NB492_480.out _).trans (((cell_far (p := ⟨gb480, _, none⟩) NB492_480.out _).trans (((cell_far (p := ⟨gb480, _, none⟩) NB492_480.out _).trans (((cell_far (p := ⟨gb480, _, none⟩) NB492_480.out _).trans (hHeld.2.2.1)))))))))), ((cell_far (p := ⟨gb480, _, none⟩) NB492_480.out _).trans (((cell_far (p := ⟨gb480, _, none⟩) NB492_480.out _).trans (((cell_far (p := ⟨gb480, _, none⟩) NB492_480.out _).trans (((cell_far (p := ⟨gb480, _, none⟩) NB492_480.out _).trans (((cell_far (p := ⟨gb480, _, none⟩) NB492_480.out _).trans (hHeld.2.2.2.1)))))))))), ((cell_far (p := ⟨gb480, _, none⟩) NB492_480.out _).trans (((cell_far (p := ⟨gb480, _, none⟩) NB492_480.out _).trans (((cell_far (p := ⟨gb480, _, none⟩) NB492_480.out _).trans (((cell_far (p := ⟨gb480, _, none⟩) NB492_480.out _).trans (((cell_far (p := ⟨gb480, _, none⟩) NB492_480.out _).trans (hHeld.2.2.2.2))))))))))⟩ (fun hHeld => ?_)
             clear hK K
             refine done_ (by kernel_rfl) ?_
             try go_wp2
             refine bodyPost_ret (results_tc rfl _ _ gb480 30 #[.int .i64 t486, .int .i64 x493001_24, .int .i64 ((rd_T43 t481 t498).f0), .int .i64 (rd t501 t504), .string t490] (0, 0) _ rfl (by (with_reducible repeat (first | refine blk_drewN ?_ _ | refine blk_drew ?_ | refine blk_alloc ?_ _)); refine blk_put (cs := #[.int .i64 t486, .int .i64 x493001_24, .int .i64 ((rd_T43 t481 t498).f0), .int .i64 (rd t501 t504), .string (⟨#[]⟩ : ByteArray)]) ?_ 4 _ rfl; (with_reducible repeat (first | refine blk_drewN ?_ _ | refine blk_drew ?_ | refine blk_alloc ?_ _)); refine blk_put (cs := #[.int .i64 t486, .int .i64 x493001_24, .int .i64 ((rd_T43 t481 t498).f0), .int .i64 0, .string (⟨#[]⟩ : ByteArray)]) ?_ 3 _ rfl; (with_reducible repeat (first | refine blk_drewN ?_ _ | refine blk_drew ?_ | refine blk_alloc ?_ _)); refine blk_put (cs := #[.int .i64 t486, .int .i64 x493001_24, .int .i64 0, .int .i64 0, .string (⟨#[]⟩ : ByteArray)]) ?_ 2 _ rfl; (with_reducible repeat (first | refine blk_drewN ?_ _ | refine blk_drew ?_ | refine blk_alloc ?_ _)); refine blk_put (cs := #[.int .i64 t486, .int .i64 0, .int .i64 0, .int .i64 0, .string (⟨#[]⟩ : ByteArray)]) ?_ 1 _ rfl; (with_reducible repeat (first | refine blk_drewN ?_ _ | refine blk_drew ?_ | refine blk_alloc ?_ _)); refine blk_put (cs := #[.int .i64 0, .int .i64 0, .int .i64 0, .int .i64 0, .string (⟨#[]⟩ : ByteArray)]) ?_ 0 _ rfl; (with_reducible repeat (first | refine blk_drewN ?_ _ | refine blk_drew ?_ | refine blk_alloc ?_ _)); exact BK480.out) Tryd.underlying30 rfl (by kernel_rfl)) rfl ?_
             exact ⟨_, fi_, by (with_reducible repeat (first | apply Kd.Q_alloc | apply Kd.Q_drewN | apply Kd.Q_drew)); exact Kd.Q_mono (Kd.Q_far (p := ⟨gb480, 4, none⟩) (Kd.Q_far (p := ⟨gb480, 3, none⟩) (Kd.Q_far (p := ⟨gb480, 2, none⟩) (Kd.Q_far (p := ⟨gb480, 1, none⟩) (Kd.Q_far (p := ⟨gb480, 0, none⟩) (Kd.Q_types HO_4.out BK480.out (by decide)) (fun _ hk => hk.2) (.int .i64 t486)) (fun _ hk => hk.2) (.int .i64 x493001_24)) (fun _ hk => hk.2) (.int .i64 ((rd_T43 t481 t498).f0))) (fun _ hk => hk.2) (.int .i64 (rd t501 t504))) (fun _ hk => hk.2) (.string t490)) (fun _ hk => trivial), is_HI0, bel_, kf_ HK.out⟩
            ·rw [if_neg c51] at H
             exact absurd H (by simp)
           ·rw [if_neg c50] at H
            exact absurd H (by simp)
          ·rw [if_neg c48] at H
           have c48b0 : decide (0 < (t501.length : Int)) = false := decide_eq_false c48
           have c48b1 : decide (0 < t501.length) = false := decide_eq_false (by omega)
           clear c48
           simp only [Option.some.injEq, Prod.mk.injEq] at H
           obtain ⟨rfl, rfl, rfl, rfl, rfl, rfl, rfl⟩ := H
           obtain ⟨Ao68, co68, eo68, _⟩ := Kd.Q_slice HO_4.out
           subst eo68
           try go_wp2_with (first | ((with_reducible refine gate_callee (f := 72) rfl ?_); refine gl_ 46 Tryd.func72 #[.pointer (some ⟨g, 0, none⟩), .int .i64 (t481.length : Int)] ?_; (with_reducible refine (spec_l6Rd_pick.calls kj29 g s0_0 x1001_29 (t481.length : Int) t498 t499 w0 _ ?side1 ?side2 A44.out).mono ?_); (case side1 => exact is_HI0); (case side2 => exact bel_); rintro e w69 ⟨rfl, hi, hb, hk⟩; refine ⟨_, rfl, ?_⟩; replace HO_4 := Aside0.mk (Kd.Q_mono (Kd.Q_keep (IsS106.apartQ (show IsS106 w0 _ g s0_0 x1001_29 from is_HI0) (qp_ HO_4.out) (by decide)) hk (fun _ h => h.2)) (fun _ h => h.1)); replace BK480 := Aside0.mk (kb_ hk BK480.out NB480_0.out); replace BK492 := Aside0.mk (kb_ hk BK492.out NB492_0.out); replace HK := Aside0.mk (KeepBut.trans (kf_ HK.out) hk (.inl rfl)); replace HB := Aside0.mk (hb); replace HI0 := Aside0.mk (hi); (try clear hb hk hi); have p500 : 0 ≤ (t498 : Int) := od_; have q500 : t498 < (t481.length : Int) := od_; obtain ⟨ad500, e500, hx500_0, hx500_1, hx500_2⟩ := at_T43 (Kd.Q_reads' HO_4.out).2.2 t498 p500 q500; cases e500; replace p500 := eq_true p500; replace q500 := eq_true q500; have hnb70 := NB492_480.out; have hnc70 := NB480_492.out; have hnb71 := NB492_0.out; have hnc71 := NB0_492.out; have hcz72_0 := cz_ BK492.out 0 (.int .i64 t486); have hcz72_1 := cz_ BK492.out 1 (.int .i64 x493001_24); have hcz72_2 := cz_ BK492.out 2 (.int .i64 t488); have hcz72_3 := cz_ BK492.out 3 (.int .i64 t489); have hcz72_4 := cz_ BK492.out 4 (.string t490); have hfz72_0 := blk_frozen BK492.out 0; have hfz72_1 := blk_frozen BK492.out 1; have hfz72_2 := blk_frozen BK492.out 2; have hfz72_3 := blk_frozen BK492.out 3; have hfz72_4 := blk_frozen BK492.out 4) | ((with_reducible refine gate_callee (f := 73) rfl ?_); refine gl_ 54 Tryd.func73 #[.slice (some ad500) t481.length co68, .int .i64 ((rd_T43 t481 t498).f0)] ?_; (with_reducible refine (spec_l2Kids.calls kj29 _ _ t481 ((rd_T43 t481 t498).f0) t501 _ ?side1 ?side2 A47.out).mono ?_); (case side1 => refine (Kd.Q_reads' (e := 43) (base := w.heap.size) (ok := fun k_ => True) (n := t481.length) (c := co68) ?_).2.2; exact (by (with_reducible repeat (first | apply Kd.Q_alloc | apply Kd.Q_drewN | apply Kd.Q_drew)); exact (Kd.Q_mono (Kd.Q_far (p := ⟨gb492, 2, none⟩) (Kd.Q_types HO_4.out BK492.out (by decide)) (fun _ hk => hk.2) (.int .i64 ((rd_T43 t481 t498).f0))) (fun _ h_ => h_.1)))); (case side2 => exact (Kd.Q_reads' HO_4.out).2.1); rintro e w73 ⟨v502, rfl, ho0, hb⟩; refine ⟨_, rfl, ?_⟩; have n0_ := Aside0.mk (Kd.Q_below (by (with_reducible repeat (first | apply Kd.Q_alloc | apply Kd.Q_drewN | apply Kd.Q_drew)); exact (Kd.Q_mono (Kd.Q_far (p := ⟨gb492, 2, none⟩) (Kd.Q_types HO_4.out BK492.out (by decide)) (fun _ hk => hk.2) (.int .i64 ((rd_T43 t481 t498).f0))) (fun _ h_ => h_.1))) hb); have n1_ := Aside0.mk (Kd.R_lower ho0 (keep_size (w := w) (g := g) (row := none) (kf_ HK.out))); have n2_ := Aside0.mk (blk_below (g := gb480) (o := .cells #[.int .i64 0, .int .i64 0, .int .i64 0, .int .i64 0, .string (⟨#[]⟩ : ByteArray)] 30 (0, 0)) (by (with_reducible repeat (first | refine blk_drewN ?_ _ | refine blk_drew ?_ | refine blk_alloc ?_ _)); refine blk_far ?_ NB480_492.out _; (with_reducible repeat (first | refine blk_drewN ?_ _ | refine blk_drew ?_ | refine blk_alloc ?_ _)); exact BK480.out) hb); have n3_ := Aside0.mk (blk_below (g := gb492) (o := .cells #[.int .i64 t486, .int .i64 x493001_24, .int .i64 ((rd_T43 t481 t498).f0), .int .i64 t489, .string t490] 30 (0, 0)) (by (with_reducible repeat (first | refine blk_drewN ?_ _ | refine blk_drew ?_ | refine blk_alloc ?_ _)); refine blk_put (cs := #[.int .i64 t486, .int .i64 x493001_24, .int .i64 t488, .int .i64 t489, .string t490]) ?_ 2 _ rfl; (with_reducible repeat (first | refine blk_drewN ?_ _ | refine blk_drew ?_ | refine blk_alloc ?_ _)); exact BK492.out) hb); have n4_ := Aside0.mk (IsS106.below (show IsS106 w0 (w69.setCell ⟨gb492, 2, none⟩ (.int .i64 ((rd_T43 t481 t498).f0))) g s0_0 t499 from is_HI0) hb); have n5_ := Aside0.mk (KeepBut.trans (kf_ HK.out) (KeepBut.of_below hb g none) (.inl rfl)); have n6_ := Aside0.mk (below_step (bel_) hb); clear HO_4; clear BK480; clear BK492; clear HI0; clear HK; clear HB; have HO_4 := n0_; have HO503 := n1_; have BK480 := n2_; have BK492 := n3_; have HI0 := n4_; have HK := n5_; have HB := n6_; clear n0_ n1_ n2_ n3_ n4_ n5_ n6_; (try clear hb ho0); obtain ⟨Ao74, co74, eo74⟩ := Kd.R_slice HO503.out; subst eo74))
           have n0_ := Aside0.mk (Kd.Q_drew HO_4.out)
           have n1_ := Aside0.mk (Kd.R_drew HO503.out)
           have n2_ := Aside0.mk (blk_drew BK480.out)
           have n3_ := Aside0.mk (blk_drew BK492.out)
           have n4_ := Aside0.mk (IsS106.drew HI0.out)
           have n5_ := Aside0.mk (keep_drew HK.out)
           have n6_ := Aside0.mk (below_drew1 HB.out)
           clear HO_4
           clear HO503
           clear BK480
           clear BK492
           clear HI0
           clear HK
           clear HB
           have HO_4 := n0_
           have HO503 := n1_
           have BK480 := n2_
           have BK492 := n3_
           have HI0 := n4_
           have HK := n5_
           have HB := n6_
           clear n0_ n1_ n2_ n3_ n4_ n5_ n6_
           refine start_ (n := 4) (S := fun w' => w'.cell? ⟨gb492, 0, none⟩ = some (.int .i64 t486) ∧ w'.cell? ⟨gb492, 1, none⟩ = some (.int .i64 x493001_24) ∧ w'.cell? ⟨gb492, 2, none⟩ = some (.int .i64 ((rd_T43 t481 t498).f0)) ∧ w'.cell? ⟨gb492, 3, none⟩ = some (.int .i64 t489) ∧ w'.cell? ⟨gb492, 4, none⟩ = some (.string t490)) (ds := []) #[false, false, false, false] (by kernel_rfl) rfl rfl ⟨(blk_cell BK492.out 0).trans rfl, (blk_cell BK492.out 1).trans rfl, (blk_cell BK492.out 2).trans rfl, (blk_cell BK492.out 3).trans rfl, (blk_cell BK492.out 4).trans rfl⟩ (fun hHeld => ?_)
           generalize w73.drew = w75 at HO_4 HO503 BK480 BK492 HI0 HK HB hHeld ⊢
           refine pure_ (i := 0) (N := some 66) (v := ?_) (a' := ?_) #[true, false, false, false] rfl rfl (by kernel_rfl) (fun _ _ _ h => h) (Or.inl ⟨by rfl, ?_⟩) ?_ ?_
           rotate_left
           ·intro w'
            go_simp
            with_reducible rfl
           rotate_left
           ·simp only [Act.put, List.setIfInBounds_toArray, List.set_cons_zero, List.set_cons_succ, i64_w, i32_w]
            rfl
           refine pure_ (i := 2) (N := some 2) (v := ?_) (a' := ?_) #[true, false, true, false] rfl rfl (by kernel_rfl) (fun _ _ _ h => h) (Or.inl ⟨by rfl, ?_⟩) ?_ ?_
           rotate_left
           ·intro w'
            go_simp
            with_reducible rfl
           rotate_left
           ·simp only [Act.put, List.setIfInBounds_toArray, List.set_cons_zero, List.set_cons_succ, i64_w, i32_w]
            rfl
           refine take_ (i := 1) (N := some 67) (v := ?_) (a' := ?_) #[true, true, true, false] rfl rfl (by kernel_rfl) (fun _ _ _ h => h) (Or.inl ⟨by rfl, ?_⟩) hHeld ?_ ?_
           rotate_left
           ·rintro w' ⟨s0, s1, s2, s3, s4⟩
            go_simp
            with_reducible rfl
           rotate_left
           ·simp only [Act.put, List.setIfInBounds_toArray, List.set_cons_zero, List.set_cons_succ, i64_w, i32_w]
            rfl
           refine one_ (i := 3) (N := none) #[true, true, true, true] rfl rfl (by kernel_rfl) (by decide) (fun K hK => ?_)
           have hs76 : w75.cell? ⟨gb480, 0, none⟩ = some (.int .i64 0) := (blk_cell BK480.out 0).trans rfl
           have hfs76 := blk_frozen BK480.out 0
           have hns76_1 := NB492_480.out
           have hms76_1 := NB480_492.out
           have hs77 : w75.cell? ⟨gb480, 1, none⟩ = some (.int .i64 0) := (blk_cell BK480.out 1).trans rfl
           have hfs77 := blk_frozen BK480.out 1
           have hns77_1 := NB492_480.out
           have hms77_1 := NB480_492.out
           have hs78 : w75.cell? ⟨gb480, 2, none⟩ = some (.int .i64 0) := (blk_cell BK480.out 2).trans rfl
           have hfs78 := blk_frozen BK480.out 2
           have hns78_1 := NB492_480.out
           have hms78_1 := NB480_492.out
           have hs79 : w75.cell? ⟨gb480, 3, none⟩ = some (.int .i64 0) := (blk_cell BK480.out 3).trans rfl
           have hfs79 := blk_frozen BK480.out 3
           have hns79_1 := NB492_480.out
           have hms79_1 := NB480_492.out
           have hs80 : w75.cell? ⟨gb480, 4, none⟩ = some (.string (⟨#[]⟩ : ByteArray)) := (blk_cell BK480.out 4).trans rfl
           have hfs80 := blk_frozen BK480.out 4
           have hns80_1 := NB492_480.out
           have hms80_1 := NB480_492.out
           refine skip_ (w1 := ?_) (by rfl) rfl ?_ ?_
           rotate_left
           ·go_simp
            rfl
           refine hK.out _ _ ⟨((cell_far (p := ⟨gb480, _, none⟩) NB492_480.out _).trans (((cell_far (p := ⟨gb480, _, none⟩) NB492_480.out _).trans (((cell_far (p := ⟨gb480, _, none⟩) NB492_480.out _).trans (((cell_far (p := ⟨gb480, _, none⟩) NB492_480.out _).trans (((cell_far (p := ⟨gb480, _, none⟩) NB492_480.out _).trans (hHeld.1)))))))))), ((cell_far (p := ⟨gb480, _, none⟩) NB492_480.out _).trans (((cell_far (p := ⟨gb480, _, none⟩) NB492_480.out _).trans (((cell_far (p := ⟨gb480, _, none⟩) NB492_480.out _).trans (((cell_far (p := ⟨gb480, _, none⟩) NB492_480.out _).trans (((cell_far (p := ⟨gb480, _, none⟩) NB492_480.out _).trans (hHeld.2.1)))))))))), ((cell_far (p := ⟨gb480, _, none⟩) NB492_480.out _).trans (((cell_far (p := ⟨gb480, _, none⟩) NB492_480.out _).trans (((cell_far (p := ⟨gb480, _, none⟩) NB492_480.out _).trans (((cell_far (p := ⟨gb480, _, none⟩) NB492_480.out _).trans (((cell_far (p := ⟨gb480, _, none⟩) NB492_480.out _).trans (hHeld.2.2.1)))))))))), ((cell_far (p := ⟨gb480, _, none⟩) NB492_480.out _).trans (((cell_far (p := ⟨gb480, _, none⟩) NB492_480.out _).trans (((cell_far (p := ⟨gb480, _, none⟩) NB492_480.out _).trans (((cell_far (p := ⟨gb480, _, none⟩) NB492_480.out _).trans (((cell_far (p := ⟨gb480, _, none⟩) NB492_480.out _).trans (hHeld.2.2.2.1)))))))))), ((cell_far (p := ⟨gb480, _, none⟩) NB492_480.out _).trans (((cell_far (p := ⟨gb480, _, none⟩) NB492_480.out _).trans (((cell_far (p := ⟨gb480, _, none⟩) NB492_480.out _).trans (((cell_far (p := ⟨gb480, _, none⟩) NB492_480.out _).trans (((cell_far (p := ⟨gb480, _, none⟩) NB492_480.out _).trans (hHeld.2.2.2.2))))))))))⟩ (fun hHeld => ?_)
           clear hK K
           refine done_ (by kernel_rfl) ?_
           try go_wp2
           refine bodyPost_ret (results_tc rfl _ _ gb480 30 #[.int .i64 t486, .int .i64 x493001_24, .int .i64 ((rd_T43 t481 t498).f0), .int .i64 t489, .string t490] (0, 0) _ rfl (by (with_reducible repeat (first | refine blk_drewN ?_ _ | refine blk_drew ?_ | refine blk_alloc ?_ _)); refine blk_put (cs := #[.int .i64 t486, .int .i64 x493001_24, .int .i64 ((rd_T43 t481 t498).f0), .int .i64 t489, .string (⟨#[]⟩ : ByteArray)]) ?_ 4 _ rfl; (with_reducible repeat (first | refine blk_drewN ?_ _ | refine blk_drew ?_ | refine blk_alloc ?_ _)); refine blk_put (cs := #[.int .i64 t486, .int .i64 x493001_24, .int .i64 ((rd_T43 t481 t498).f0), .int .i64 0, .string (⟨#[]⟩ : ByteArray)]) ?_ 3 _ rfl; (with_reducible repeat (first | refine blk_drewN ?_ _ | refine blk_drew ?_ | refine blk_alloc ?_ _)); refine blk_put (cs := #[.int .i64 t486, .int .i64 x493001_24, .int .i64 0, .int .i64 0, .string (⟨#[]⟩ : ByteArray)]) ?_ 2 _ rfl; (with_reducible repeat (first | refine blk_drewN ?_ _ | refine blk_drew ?_ | refine blk_alloc ?_ _)); refine blk_put (cs := #[.int .i64 t486, .int .i64 0, .int .i64 0, .int .i64 0, .string (⟨#[]⟩ : ByteArray)]) ?_ 1 _ rfl; (with_reducible repeat (first | refine blk_drewN ?_ _ | refine blk_drew ?_ | refine blk_alloc ?_ _)); refine blk_put (cs := #[.int .i64 0, .int .i64 0, .int .i64 0, .int .i64 0, .string (⟨#[]⟩ : ByteArray)]) ?_ 0 _ rfl; (with_reducible repeat (first | refine blk_drewN ?_ _ | refine blk_drew ?_ | refine blk_alloc ?_ _)); exact BK480.out) Tryd.underlying30 rfl (by kernel_rfl)) rfl ?_
           exact ⟨_, fi_, by (with_reducible repeat (first | apply Kd.Q_alloc | apply Kd.Q_drewN | apply Kd.Q_drew)); exact Kd.Q_mono (Kd.Q_far (p := ⟨gb480, 4, none⟩) (Kd.Q_far (p := ⟨gb480, 3, none⟩) (Kd.Q_far (p := ⟨gb480, 2, none⟩) (Kd.Q_far (p := ⟨gb480, 1, none⟩) (Kd.Q_far (p := ⟨gb480, 0, none⟩) (Kd.Q_types HO_4.out BK480.out (by decide)) (fun _ hk => hk.2) (.int .i64 t486)) (fun _ hk => hk.2) (.int .i64 x493001_24)) (fun _ hk => hk.2) (.int .i64 ((rd_T43 t481 t498).f0))) (fun _ hk => hk.2) (.int .i64 t489)) (fun _ hk => hk.2) (.string t490)) (fun _ hk => trivial), is_HI0, bel_, kf_ HK.out⟩
         ·rw [if_neg c46] at H
          exact absurd H (by simp)
        ·rw [if_neg c45] at H
         exact absurd H (by simp)
       ·replace c43 := Bool.eq_false_iff.mpr c43
        subst c43
        have H1 : (some (t481, t486, x493001_24, t488, t489, t490, x1001_29)) = some (r1, r2, r3, r4, r5, r6, r7) := by rw [if_neg (show ¬ (false = true) by decide)] at H; exact H
        clear H
        have H := H1
        clear H1
        simp only [Option.some.injEq, Prod.mk.injEq] at H
        obtain ⟨rfl, rfl, rfl, rfl, rfl, rfl, rfl⟩ := H
        try go_wp2
        have n0_ := Aside0.mk (Kd.Q_drew HO_4.out)
        have n1_ := Aside0.mk (blk_drew BK480.out)
        have n2_ := Aside0.mk (blk_drew BK492.out)
        have n3_ := Aside0.mk (IsS106.drew HI0.out)
        have n4_ := Aside0.mk (keep_drew HK.out)
        have n5_ := Aside0.mk (below_drew1 HB.out)
        clear HO_4
        clear BK480
        clear BK492
        clear HI0
        clear HK
        clear HB
        have HO_4 := n0_
        have BK480 := n1_
        have BK492 := n2_
        have HI0 := n3_
        have HK := n4_
        have HB := n5_
        clear n0_ n1_ n2_ n3_ n4_ n5_
        refine start_ (n := 4) (S := fun w' => w'.cell? ⟨gb492, 0, none⟩ = some (.int .i64 t486) ∧ w'.cell? ⟨gb492, 1, none⟩ = some (.int .i64 x493001_24) ∧ w'.cell? ⟨gb492, 2, none⟩ = some (.int .i64 t488) ∧ w'.cell? ⟨gb492, 3, none⟩ = some (.int .i64 t489) ∧ w'.cell? ⟨gb492, 4, none⟩ = some (.string t490)) (ds := []) #[false, false, false, false] (by kernel_rfl) rfl rfl ⟨(blk_cell BK492.out 0).trans rfl, (blk_cell BK492.out 1).trans rfl, (blk_cell BK492.out 2).trans rfl, (blk_cell BK492.out 3).trans rfl, (blk_cell BK492.out 4).trans rfl⟩ (fun hHeld => ?_)
        generalize wc.drew = w81 at HO_4 BK480 BK492 HI0 HK HB hHeld ⊢
        refine pure_ (i := 0) (N := some 66) (v := ?_) (a' := ?_) #[true, false, false, false] rfl rfl (by kernel_rfl) (fun _ _ _ h => h) (Or.inl ⟨by rfl, ?_⟩) ?_ ?_
        rotate_left
        ·intro w'
         go_simp
         with_reducible rfl
        rotate_left
        ·simp only [Act.put, List.setIfInBounds_toArray, List.set_cons_zero, List.set_cons_succ, i64_w, i32_w]
         rfl
        refine pure_ (i := 2) (N := some 2) (v := ?_) (a' := ?_) #[true, false, true, false] rfl rfl (by kernel_rfl) (fun _ _ _ h => h) (Or.inl ⟨by rfl, ?_⟩) ?_ ?_
        rotate_left
        ·intro w'
         go_simp
         with_reducible rfl
        rotate_left
        ·simp only [Act.put, List.setIfInBounds_toArray, List.set_cons_zero, List.set_cons_succ, i64_w, i32_w]
         rfl
        refine take_ (i := 1) (N := some 67) (v := ?_) (a' := ?_) #[true, true, true, false] rfl rfl (by kernel_rfl) (fun _ _ _ h => h) (Or.inl ⟨by rfl, ?_⟩) hHeld ?_ ?_
        rotate_left
        ·rintro w' ⟨s0, s1, s2, s3, s4⟩
         go_simp
         with_reducible rfl
        rotate_left
        ·simp only [Act.put, List.setIfInBounds_toArray, List.set_cons_zero, List.set_cons_succ, i64_w, i32_w]
         rfl
        refine one_ (i := 3) (N := none) #[true, true, true, true] rfl rfl (by kernel_rfl) (by decide) (fun K hK => ?_)
        have hs82 : w81.cell? ⟨gb480, 0, none⟩ = some (.int .i64 0) := (blk_cell BK480.out 0).trans rfl
        have hfs82 := blk_frozen BK480.out 0
        have hns82_1 := NB492_480.out
        have hms82_1 := NB480_492.out
        have hs83 : w81.cell? ⟨gb480, 1, none⟩ = some (.int .i64 0) := (blk_cell BK480.out 1).trans rfl
        have hfs83 := blk_frozen BK480.out 1
        have hns83_1 := NB492_480.out
        have hms83_1 := NB480_492.out
        have hs84 : w81.cell? ⟨gb480, 2, none⟩ = some (.int .i64 0) := (blk_cell BK480.out 2).trans rfl
        have hfs84 := blk_frozen BK480.out 2
        have hns84_1 := NB492_480.out
        have hms84_1 := NB480_492.out
        have hs85 : w81.cell? ⟨gb480, 3, none⟩ = some (.int .i64 0) := (blk_cell BK480.out 3).trans rfl
        have hfs85 := blk_frozen BK480.out 3
        have hns85_1 := NB492_480.out
        have hms85_1 := NB480_492.out
        have hs86 : w81.cell? ⟨gb480, 4, none⟩ = some (.string (⟨#[]⟩ : ByteArray)) := (blk_cell BK480.out 4).trans rfl
        have hfs86 := blk_frozen BK480.out 4
        have hns86_1 := NB492_480.out
        have hms86_1 := NB480_492.out
        refine skip_ (w1 := ?_) (by rfl) rfl ?_ ?_
        rotate_left
        ·go_simp
         rfl
        refine hK.out _ _ ⟨((cell_far (p := ⟨gb480, _, none⟩) NB492_480.out _).trans (((cell_far (p := ⟨gb480, _, none⟩) NB492_480.out _).trans (((cell_far (p := ⟨gb480, _, none⟩) NB492_480.out _).trans (((cell_far (p := ⟨gb480, _, none⟩) NB492_480.out _).trans (((cell_far (p := ⟨gb480, _, none⟩) NB492_480.out _).trans (hHeld.1)))))))))), ((cell_far (p := ⟨gb480, _, none⟩) NB492_480.out _).trans (((cell_far (p := ⟨gb480, _, none⟩) NB492_480.out _).trans (((cell_far (p := ⟨gb480, _, none⟩) NB492_480.out _).trans (((cell_far (p := ⟨gb480, _, none⟩) NB492_480.out _).trans (((cell_far (p := ⟨gb480, _, none⟩) NB492_480.out _).trans (hHeld.2.1)))))))))), ((cell_far (p := ⟨gb480, _, none⟩) NB492_480.out _).trans (((cell_far (p := ⟨gb480, _, none⟩) NB492_480.out _).trans (((cell_far (p := ⟨gb480, _, none⟩) NB492_480.out _).trans (((cell_far (p := ⟨gb480, _, none⟩) NB492_480.out _).trans (((cell_far (p := ⟨gb480, _, none⟩) NB492_480.out _).trans (hHeld.2.2.1)))))))))), ((cell_far (p := ⟨gb480, _, none⟩) NB492_480.out _).trans (((cell_far (p := ⟨gb480, _, none⟩) NB492_480.out _).trans (((cell_far (p := ⟨gb480, _, none⟩) NB492_480.out _).trans (((cell_far (p := ⟨gb480, _, none⟩) NB492_480.out _).trans (((cell_far (p := ⟨gb480, _, none⟩) NB492_480.out _).trans (hHeld.2.2.2.1)))))))))), ((cell_far (p := ⟨gb480, _, none⟩) NB492_480.out _).trans (((cell_far (p := ⟨gb480, _, none⟩) NB492_480.out _).trans (((cell_far (p := ⟨gb480, _, none⟩) NB492_480.out _).trans (((cell_far (p := ⟨gb480, _, none⟩) NB492_480.out _).trans (((cell_far (p := ⟨gb480, _, none⟩) NB492_480.out _).trans (hHeld.2.2.2.2))))))))))⟩ (fun hHeld => ?_)
        clear hK K
        refine done_ (by kernel_rfl) ?_
        try go_wp2
        refine bodyPost_ret (results_tc rfl _ _ gb480 30 #[.int .i64 t486, .int .i64 x493001_24, .int .i64 t488, .int .i64 t489, .string t490] (0, 0) _ rfl (by (with_reducible repeat (first | refine blk_drewN ?_ _ | refine blk_drew ?_ | refine blk_alloc ?_ _)); refine blk_put (cs := #[.int .i64 t486, .int .i64 x493001_24, .int .i64 t488, .int .i64 t489, .string (⟨#[]⟩ : ByteArray)]) ?_ 4 _ rfl; (with_reducible repeat (first | refine blk_drewN ?_ _ | refine blk_drew ?_ | refine blk_alloc ?_ _)); refine blk_put (cs := #[.int .i64 t486, .int .i64 x493001_24, .int .i64 t488, .int .i64 0, .string (⟨#[]⟩ : ByteArray)]) ?_ 3 _ rfl; (with_reducible repeat (first | refine blk_drewN ?_ _ | refine blk_drew ?_ | refine blk_alloc ?_ _)); refine blk_put (cs := #[.int .i64 t486, .int .i64 x493001_24, .int .i64 0, .int .i64 0, .string (⟨#[]⟩ : ByteArray)]) ?_ 2 _ rfl; (with_reducible repeat (first | refine blk_drewN ?_ _ | refine blk_drew ?_ | refine blk_alloc ?_ _)); refine blk_put (cs := #[.int .i64 t486, .int .i64 0, .int .i64 0, .int .i64 0, .string (⟨#[]⟩ : ByteArray)]) ?_ 1 _ rfl; (with_reducible repeat (first | refine blk_drewN ?_ _ | refine blk_drew ?_ | refine blk_alloc ?_ _)); refine blk_put (cs := #[.int .i64 0, .int .i64 0, .int .i64 0, .int .i64 0, .string (⟨#[]⟩ : ByteArray)]) ?_ 0 _ rfl; (with_reducible repeat (first | refine blk_drewN ?_ _ | refine blk_drew ?_ | refine blk_alloc ?_ _)); exact BK480.out) Tryd.underlying30 rfl (by kernel_rfl)) rfl ?_
        exact ⟨_, fi_, by (with_reducible repeat (first | apply Kd.Q_alloc | apply Kd.Q_drewN | apply Kd.Q_drew)); exact Kd.Q_mono (Kd.Q_far (p := ⟨gb480, 4, none⟩) (Kd.Q_far (p := ⟨gb480, 3, none⟩) (Kd.Q_far (p := ⟨gb480, 2, none⟩) (Kd.Q_far (p := ⟨gb480, 1, none⟩) (Kd.Q_far (p := ⟨gb480, 0, none⟩) (Kd.Q_types HO_4.out BK480.out (by decide)) (fun _ hk => hk.2) (.int .i64 t486)) (fun _ hk => hk.2) (.int .i64 x493001_24)) (fun _ hk => hk.2) (.int .i64 t488)) (fun _ hk => hk.2) (.int .i64 t489)) (fun _ hk => hk.2) (.string t490)) (fun _ hk => trivial), is_HI0, bel_, kf_ HK.out⟩

def spec_l6Open.f (l0 : List Int) : Option (List Int × Int) := if (l0.length : Int) > 2000 then (if 2000 ≤ (l0.length : Int) then (some (l0.take 2000, 0)) else (none)) else (some (l0, 0))
set_option maxHeartbeats 8000000 in
set_option maxRecDepth 100000 in
theorem spec_l6Open.calls (A0 : Option Addr) (c0 : Nat) (l0 : List Int) (r1 : List Int) (r2 : Int) (w0 w : World) (hB : Below w0.heap.size w0 w) (hr0 : Kd.C (Kd.int .u8) w0 A0 l0.length l0) (hc0 : l0.length ≤ c0) (h : spec_l6Open.f l0 = some (r1, r2)) :
  Calls Tryd.prog 47 #[.slice A0 l0.length c0] w fun e w' => ∃ g_ : Nat, e = .returned (.pointer (some ⟨g_, 0, none⟩)) ∧ IsS106 w0 w' g_ r1 r2 ∧ Below w0.heap.size w0 w' ∧ Below w.heap.size w w' := by
 have hu106 := Tryd.underlying106
 have HR0 := Aside0.mk hr0
 have HC0 := Aside0.mk hc0
 clear hr0 hc0
 have HBW := Aside0.mk (Below.refl w.heap.size w)
 have HW0 := Aside0.mk hB.size
 have HB := Aside0.mk hB
 clear hB
 unfold spec_l6Open.f at h
 have H := h
 clear h
 by_cases c2 : (l0.length : Int) > 2000
 ·rw [if_pos c2] at H
  have c2b0 : decide (2000 < (l0.length : Int)) = true := decide_eq_true c2
  have c2b1 : decide (2000 < l0.length) = true := decide_eq_true (by omega)
  clear c2
  by_cases c3 : 2000 ≤ (l0.length : Int)
  ·rw [if_pos c3] at H
   have c3b0 := eq_true c3
   have c3b1 : decide (2000 ≤ (l0.length : Int)) = true := decide_eq_true c3
   clear c3
   simp only [Option.some.injEq, Prod.mk.injEq] at H
   obtain ⟨rfl, rfl⟩ := H
   obtain ⟨i04, hi04, _, hsz4, _⟩ := info_parts info5
   obtain ⟨hcut4, hA4, hC4⟩ := print_take_of (P := Tryd.prog) (Value.int .u8) 0 35 5 .i64 Tryd.underlying35 hi04 hsz4 A0 c0 l0 2000 (by omega) (od_) HC0.out
   have HR507 := Aside0.mk (Kd.C_of_reads (h1 := fun _ => rfl) (hA4 _ (Kd.reads_of_C HR0.out)))
   have HC507 := Aside0.mk hC4
   clear hA4 hC4 hi04 hsz4
   go_enter Tryd.func47, Tryd.ntmps47
   go_wp2_with (first | ((with_reducible refine gate_dst (N := 10) rfl ?_); refine bx_ 10 (#[.slice A0 (l0.take 2000).length c0, .int .i64 0]) 106 ?_; intro gb508 hg w5 hbox hb; have n0_ := Aside0.mk (below_step HBW.out hb); have n1_ := Aside0.mk (below_step (bel_) hb); have n2_ := Aside0.mk (hbox); have n3_ := Aside0.mk ((by rw [hg]; exact (below_size (by repeat (first | (with_reducible first | exact HBW.out | apply below_alloc | apply pw_below_drewN | apply below_drew1) | exact HBW.out))) : w.heap.size ≤ gb508)); have n4_ := Aside0.mk ((Nat.le_trans HW0.out (by rw [hg]; exact (below_size (by repeat (first | (with_reducible first | exact HBW.out | apply below_alloc | apply pw_below_drewN | apply below_drew1) | exact HBW.out))) : w.heap.size ≤ gb508) : w0.heap.size ≤ gb508)); clear HBW; clear HB; have HBW := n0_; have HB := n1_; have BK508 := n2_; have GW508 := n3_; have GE508 := n4_; clear n0_ n1_ n2_ n3_ n4_; clear hb hbox hg))
   go_ret
   exact ⟨_, rfl, (show IsS106 w0 _ gb508 (l0.take 2000) 0 from ⟨_, _, by (with_reducible repeat (first | refine blk_drewN ?_ _ | refine blk_drew ?_ | refine blk_alloc ?_ _)); exact BK508.out, GE508.out, HR507.out⟩), bel_, by repeat (first | (with_reducible first | exact HBW.out | apply below_alloc | apply pw_below_drewN | apply below_drew1 | refine below_set ?_ GW508.out) | exact HBW.out)⟩
  ·rw [if_neg c3] at H
   exact absurd H (by simp)
 ·rw [if_neg c2] at H
  have c2b0 : decide (2000 < (l0.length : Int)) = false := decide_eq_false c2
  have c2b1 : decide (2000 < l0.length) = false := decide_eq_false (by omega)
  clear c2
  simp only [Option.some.injEq, Prod.mk.injEq] at H
  obtain ⟨rfl, rfl⟩ := H
  go_enter Tryd.func47, Tryd.ntmps47
  go_wp2_with (first | ((with_reducible refine gate_dst (N := 10) rfl ?_); refine bx_ 10 (#[.slice A0 l0.length c0, .int .i64 0]) 106 ?_; intro gb509 hg w6 hbox hb; have n0_ := Aside0.mk (below_step HBW.out hb); have n1_ := Aside0.mk (below_step (bel_) hb); have n2_ := Aside0.mk (hbox); have n3_ := Aside0.mk ((by rw [hg]; exact (below_size (by repeat (first | (with_reducible first | exact HBW.out | apply below_alloc | apply pw_below_drewN | apply below_drew1) | exact HBW.out))) : w.heap.size ≤ gb509)); have n4_ := Aside0.mk ((Nat.le_trans HW0.out (by rw [hg]; exact (below_size (by repeat (first | (with_reducible first | exact HBW.out | apply below_alloc | apply pw_below_drewN | apply below_drew1) | exact HBW.out))) : w.heap.size ≤ gb509) : w0.heap.size ≤ gb509)); clear HBW; clear HB; have HBW := n0_; have HB := n1_; have BK509 := n2_; have GW509 := n3_; have GE509 := n4_; clear n0_ n1_ n2_ n3_ n4_; clear hb hbox hg))
  go_ret
  exact ⟨_, rfl, (show IsS106 w0 _ gb509 l0 0 from ⟨_, _, by (with_reducible repeat (first | refine blk_drewN ?_ _ | refine blk_drew ?_ | refine blk_alloc ?_ _)); exact BK509.out, GE509.out, HR0.out⟩), bel_, by repeat (first | (with_reducible first | exact HBW.out | apply below_alloc | apply pw_below_drewN | apply below_drew1 | refine below_set ?_ GW509.out) | exact HBW.out)⟩

attribute [local go_sem high] eqA43
def spec_DrawOpDo.f (k : Nat) (l0 : List Int) : Option ((List (S43)) × Int × Int × Int × Int × ByteArray) := (spec_l6Open.f l0).bind fun bt511 => ((spec_l71Fits.f k bt511.1 bt511.2).bind fun bt514 => (some (bt514.1, bt514.2.1, bt514.2.2.1, bt514.2.2.2.1, bt514.2.2.2.2.1, bt514.2.2.2.2.2.1)))
theorem spec_DrawOpDo.mono : ∀ a0 k, LeO (spec_DrawOpDo.f k a0) (spec_DrawOpDo.f (k + 1) a0) := by
 intro a0 k
 unfold spec_DrawOpDo.f
 repeat' first
   | (with_reducible exact spec_l71Fits.mono _ _ _)
   | (with_reducible exact LeO.refl _)
   | (with_reducible exact LeO.none _)
   | (with_reducible refine LeO.ite ?_ ?_)
   | (with_reducible refine LeO.bind ?_ (fun _ => ?_))
   | exact spec_l71Fits.mono _ _ _
   | exact LeO.none _
   | refine LeO.ite ?_ ?_
   | refine LeO.bind ?_ (fun _ => ?_)
set_option maxHeartbeats 8000000 in
set_option maxRecDepth 100000 in
theorem spec_DrawOpDo.calls (k : Nat) (A0 : Option Addr) (c0 : Nat) (l0 : List Int) (r1 : List (S43)) (r2 : Int) (r3 : Int) (r4 : Int) (r5 : Int) (r6 : ByteArray) (w : World) (hr0 : Kd.C (Kd.int .u8) w A0 l0.length l0) (hc0 : l0.length ≤ c0) (h : spec_DrawOpDo.f k l0 = some (r1, r2, r3, r4, r5, r6)) :
  Calls Tryd.prog 24 #[.slice A0 l0.length c0] w fun e w' => ∃ v0_ : Value, e = .returned (.tuple #[v0_, .agg #[.int .i64 r2, .int .i64 r3, .int .i64 r4, .int .i64 r5, .string r6]]) ∧ Kd.Q k43 43 w' w.heap.size (fun _ => True) v0_ r1 ∧ Below w.heap.size w w' := by
 have hu30 := Tryd.underlying30
 have HR0 := Aside0.mk hr0
 have HC0 := Aside0.mk hc0
 clear hr0 hc0
 have HB := Aside0.mk (Below.refl w.heap.size w)
 unfold spec_DrawOpDo.f at h
 have H := h
 clear h
 replace H := Option.bind_eq_some_iff.mp H
 obtain ⟨⟨t511, t512⟩, A20, H⟩ := H
 try dsimp only at H
 have A2 := Aside0.mk A20
 clear A20
 replace H := Option.bind_eq_some_iff.mp H
 obtain ⟨⟨t514, t517, t518, t519, t520, t521, t522⟩, A30, H⟩ := H
 try dsimp only at H
 have A3 := Aside0.mk A30
 clear A30
 simp only [Option.some.injEq, Prod.mk.injEq] at H
 obtain ⟨rfl, rfl, rfl, rfl, rfl, rfl⟩ := H
 go_enter Tryd.func24, Tryd.ntmps24
 go_wp2_with (first | ((with_reducible refine gate_dst (N := 3) rfl ?_); refine bx_ 3 (#[.int .i64 0, .int .i64 0, .int .i64 0, .int .i64 0, .string (⟨#[]⟩ : ByteArray)]) 30 ?_; intro gb510 hg w4 hbox hb; have n0_ := Aside0.mk (below_step (bel_) hb); have n1_ := Aside0.mk (hbox); have n2_ := Aside0.mk ((by rw [hg]; exact (below_size (bel_)) : w.heap.size ≤ gb510)); have n3_ := Aside0.mk ((by rw [hg]; exact (below_size (bel_)) : w.heap.size ≤ gb510)); clear HB; have HB := n0_; have BK510 := n1_; have GW510 := n2_; have GE510 := n3_; clear n0_ n1_ n2_ n3_; clear hb hbox hg) | ((with_reducible refine gate_callee (f := 47) rfl ?_); refine gl_ 5 Tryd.func47 #[.slice A0 l0.length c0] ?_; (with_reducible refine (spec_l6Open.calls _ _ l0 t511 t512 w _ ?side1 ?side2 ?side3 A2.out).mono ?_); (case side1 => exact bel_); (case side2 => exact HR0.out); (case side3 => exact HC0.out); rintro e w5 ⟨g513, rfl, hi, hb, hb2⟩; refine ⟨_, rfl, ?_⟩; replace HB := Aside0.mk (hb); have HI513 := Aside0.mk (hi); have NB513_510 := Aside0.mk (IsS106.ne_blk hi (bb_ BK510.out hb2) (by decide)); have NB510_513 := Aside0.mk (Ne.symm (IsS106.ne_blk hi (bb_ BK510.out hb2) (by decide))); replace BK510 := Aside0.mk (bb_ BK510.out hb2); (try clear hb hb2 hi)) | ((with_reducible refine gate_callee (f := 46) rfl ?_); refine gl_ 6 Tryd.func46 #[.pointer (some ⟨g513, 0, none⟩)] ?_; (with_reducible refine (spec_l71Fits.calls k g513 t511 t512 t514 t517 t518 t519 t520 t521 t522 w _ ?side1 ?side2 A3.out).mono ?_); (case side1 => exact is_HI513); (case side2 => exact bel_); rintro e w6 ⟨v515, rfl, ho0, hi, hb, hk⟩; refine ⟨_, rfl, ?_⟩; have HO516 := Aside0.mk (Kd.Q_lower ho0 (below_size (bel_))); replace BK510 := Aside0.mk (kb_ hk BK510.out NB510_513.out); replace HB := Aside0.mk (hb); replace HI513 := Aside0.mk (hi); (try clear hb hk hi ho0); have hnb7 := NB510_513.out; have hnc7 := NB513_510.out; have hcz8_0 := cz_ BK510.out 0 (.int .i64 0); have hcz8_1 := cz_ BK510.out 1 (.int .i64 0); have hcz8_2 := cz_ BK510.out 2 (.int .i64 0); have hcz8_3 := cz_ BK510.out 3 (.int .i64 0); have hcz8_4 := cz_ BK510.out 4 (.string (⟨#[]⟩ : ByteArray)); have hfz8_0 := blk_frozen BK510.out 0; have hfz8_1 := blk_frozen BK510.out 1; have hfz8_2 := blk_frozen BK510.out 2; have hfz8_3 := blk_frozen BK510.out 3; have hfz8_4 := blk_frozen BK510.out 4))
 refine bodyPost_ret (results_tc rfl _ _ gb510 30 #[.int .i64 t517, .int .i64 t518, .int .i64 t519, .int .i64 t520, .string t521] (0, 0) _ rfl (by (with_reducible repeat (first | refine blk_drewN ?_ _ | refine blk_drew ?_ | refine blk_alloc ?_ _)); refine blk_put (cs := #[.int .i64 t517, .int .i64 t518, .int .i64 t519, .int .i64 t520, .string (⟨#[]⟩ : ByteArray)]) ?_ 4 _ rfl; (with_reducible repeat (first | refine blk_drewN ?_ _ | refine blk_drew ?_ | refine blk_alloc ?_ _)); refine blk_put (cs := #[.int .i64 t517, .int .i64 t518, .int .i64 t519, .int .i64 0, .string (⟨#[]⟩ : ByteArray)]) ?_ 3 _ rfl; (with_reducible repeat (first | refine blk_drewN ?_ _ | refine blk_drew ?_ | refine blk_alloc ?_ _)); refine blk_put (cs := #[.int .i64 t517, .int .i64 t518, .int .i64 0, .int .i64 0, .string (⟨#[]⟩ : ByteArray)]) ?_ 2 _ rfl; (with_reducible repeat (first | refine blk_drewN ?_ _ | refine blk_drew ?_ | refine blk_alloc ?_ _)); refine blk_put (cs := #[.int .i64 t517, .int .i64 0, .int .i64 0, .int .i64 0, .string (⟨#[]⟩ : ByteArray)]) ?_ 1 _ rfl; (with_reducible repeat (first | refine blk_drewN ?_ _ | refine blk_drew ?_ | refine blk_alloc ?_ _)); refine blk_put (cs := #[.int .i64 0, .int .i64 0, .int .i64 0, .int .i64 0, .string (⟨#[]⟩ : ByteArray)]) ?_ 0 _ rfl; (with_reducible repeat (first | refine blk_drewN ?_ _ | refine blk_drew ?_ | refine blk_alloc ?_ _)); exact BK510.out) Tryd.underlying30 rfl (by kernel_rfl)) rfl ?_
 exact ⟨_, fi_, by (with_reducible repeat (first | apply Kd.Q_alloc | apply Kd.Q_drewN | apply Kd.Q_drew)); exact Kd.Q_mono (Kd.Q_far (p := ⟨gb510, 4, none⟩) (Kd.Q_far (p := ⟨gb510, 3, none⟩) (Kd.Q_far (p := ⟨gb510, 2, none⟩) (Kd.Q_far (p := ⟨gb510, 1, none⟩) (Kd.Q_far (p := ⟨gb510, 0, none⟩) (Kd.Q_types HO516.out BK510.out (by decide)) (fun _ hk => hk.2) (.int .i64 t517)) (fun _ hk => hk.2) (.int .i64 t518)) (fun _ hk => hk.2) (.int .i64 t519)) (fun _ hk => hk.2) (.int .i64 t520)) (fun _ hk => hk.2) (.string t521)) (fun _ hk => trivial), bel_⟩

def laws_lpRows.l0 : Nat → List (S43) → List (S43) → Int → Option (Bool)
 | 0, _, _, _ => none
 | k + 1, x0, x1, x5 => if x5 < (x0.length : Int) then (if 0 ≤ x5 then (if x5 < (x1.length : Int) then (if (!(((rd_T43 x0 x5).f0) == ((rd_T43 x1 x5).f0)) || (!(((rd_T43 x0 x5).f1) == ((rd_T43 x1 x5).f1)) || (!((((rd_T43 x0 x5).f2).toList) == (((rd_T43 x1 x5).f2).toList))))) = true then (some false) else (laws_lpRows.l0 k x0 x1 (wrap64 (x5 + 1)))) else (none)) else (none)) else (some true)
def laws_lpRows.f (k : Nat) (l0 : List (S43)) (l1 : List (S43)) : Option (Bool) := if (l0.length : Int) = (l1.length : Int) then (laws_lpRows.l0 k l0 l1 0) else (some false)
theorem laws_lpRows.mono_l : ∀ k, (∀ y0 y1 y2, LeO (laws_lpRows.l0 k y0 y1 y2) (laws_lpRows.l0 (k + 1) y0 y1 y2))
 | 0 => fun _ _ _ r h => by simp [laws_lpRows.l0] at h
 | k + 1 => by
  have ih0 := laws_lpRows.mono_l k
  ·intro y0 y1 y2
   unfold laws_lpRows.l0
   repeat' first
   | (with_reducible exact ih0 _ _ _)
   | (with_reducible exact LeO.refl _)
   | (with_reducible exact LeO.none _)
   | (with_reducible refine LeO.ite ?_ ?_)
   | (with_reducible refine LeO.bind ?_ (fun _ => ?_))
   | exact ih0 _ _ _
   | exact LeO.none _
   | refine LeO.ite ?_ ?_
   | refine LeO.bind ?_ (fun _ => ?_)
theorem laws_lpRows.mono : ∀ a0 a1 k, LeO (laws_lpRows.f k a0 a1) (laws_lpRows.f (k + 1) a0 a1) := by
 intro a0 a1 k
 have ih0 := laws_lpRows.mono_l k
 unfold laws_lpRows.f
 repeat' first
   | (with_reducible exact ih0 _ _ _)
   | (with_reducible exact LeO.refl _)
   | (with_reducible exact LeO.none _)
   | (with_reducible refine LeO.ite ?_ ?_)
   | (with_reducible refine LeO.bind ?_ (fun _ => ?_))
   | exact ih0 _ _ _
   | exact LeO.none _
   | refine LeO.ite ?_ ?_
   | refine LeO.bind ?_ (fun _ => ?_)
set_option maxHeartbeats 8000000 in
set_option maxRecDepth 100000 in
theorem laws_lpRows.calls (k : Nat) (A0 : Option Addr) (c0 : Nat) (l0 : List (S43)) (A1 : Option Addr) (c1 : Nat) (l1 : List (S43)) (r : Bool) (w : World) (hr0 : Kd.C k43 w A0 l0.length l0) (hc0 : l0.length ≤ c0) (hr1 : Kd.C k43 w A1 l1.length l1) (hc1 : l1.length ≤ c1) (h : laws_lpRows.f k l0 l1 = some r) :
  Calls Tryd.prog 25 #[.slice A0 l0.length c0, .slice A1 l1.length c1] w fun e w' => e = .returned (.bool r) ∧ Drawn0 w w' := by
 have hu43 := Tryd.underlying43
 have HR0 := Aside0.mk hr0
 have HC0 := Aside0.mk hc0
 clear hr0 hc0
 have HR1 := Aside0.mk hr1
 have HC1 := Aside0.mk hc1
 clear hr1 hc1
 unfold laws_lpRows.f at h
 have H := h
 clear h
 by_cases c3 : (l0.length : Int) = (l1.length : Int)
 ·rw [if_pos c3] at H
  have c3b0 : ((l0.length : Int) == (l1.length : Int)) = true := beq_iff_eq.mpr c3
  have c3b1 : ((l0.length : Int) != (l1.length : Int)) = false := bne_eq_false_iff_eq.mpr c3
  have c3b2 : (l0.length == l1.length) = true := by first | simpa using c3 | (simp at c3 ⊢; omega)
  clear c3
  have H' := Aside0.mk H
  clear H
  go_enter Tryd.func25, Tryd.ntmps25
  go_wp2
  repeat (go_quiet (fail); try go_wp2)
  go_loopg [5] k (fun kq v5 w' => ∃ (x5_1 : Int), v5 = .int .i64 x5_1 ∧ Aside0 (laws_lpRows.l0 kq l0 l1 x5_1 = some r) ∧ Aside0 (kq ≤ k) ∧ Drawn0 w w')
  case atStart => exact ⟨(0), (si_), H', ⟨Nat.le_refl _⟩, by repeat (first | exact Drawn0.refl _ | apply Drawn0.step)⟩
  case round =>
   clear H'
   try clear c1
   try clear c2
   try clear p2
   try clear c3
   try clear c3b0
   try clear c3b1
   try clear c3b2
   obtain ⟨x5_1, rfl, HA, HK1, ⟨m1, rfl⟩⟩ := hrel
   cases gk with
   | zero => exact absurd HA.out (by simp [laws_lpRows.l0])
   | succ k1 =>
    have H := HA.out
    clear HA
    simp only [laws_lpRows.l0] at H
    by_cases c4 : x5_1 < (l0.length : Int)
    ·rw [if_pos c4] at H
     have c4b0 : decide (x5_1 < (l0.length : Int)) = true := decide_eq_true c4
     clear c4
     by_cases c5 : 0 ≤ x5_1
     ·rw [if_pos c5] at H
      have c5b0 : decide (0 ≤ x5_1) = true := decide_eq_true c5
      clear c5
      by_cases c6 : x5_1 < (l1.length : Int)
      ·rw [if_pos c6] at H
       have c6b0 : decide (x5_1 < (l1.length : Int)) = true := decide_eq_true c6
       clear c6
       by_cases c7 : (!(((rd_T43 l0 x5_1).f0) == ((rd_T43 l1 x5_1).f0)) || (!(((rd_T43 l0 x5_1).f1) == ((rd_T43 l1 x5_1).f1)) || (!((((rd_T43 l0 x5_1).f2).toList) == (((rd_T43 l1 x5_1).f2).toList))))) = true
       ·rw [if_pos c7] at H
        have c7b0 : (!(((rd_T43 l0 x5_1).f0) == ((rd_T43 l1 x5_1).f0)) || (!(((rd_T43 l0 x5_1).f1) == ((rd_T43 l1 x5_1).f1)) || (!((((rd_T43 l0 x5_1).f2).toList) == (((rd_T43 l1 x5_1).f2).toList))))) = true := c7
        clear c7
        obtain rfl := Option.some.inj H
        have p523 : 0 ≤ (x5_1 : Int) := od_
        have q523 : x5_1 < (l0.length : Int) := od_
        obtain ⟨ad523, e523, hx523_0, hx523_1, hx523_2⟩ := at_T43 HR0.out x5_1 p523 q523
        cases e523
        replace p523 := eq_true p523
        replace q523 := eq_true q523
        have p524 : 0 ≤ (x5_1 : Int) := od_
        have q524 : x5_1 < (l1.length : Int) := od_
        obtain ⟨ad524, e524, hx524_0, hx524_1, hx524_2⟩ := at_T43 HR1.out x5_1 p524 q524
        cases e524
        replace p524 := eq_true p524
        replace q524 := eq_true q524
        go_wp2
        repeat (go_quiet (fail); try go_wp2)
        go_ret
        exact ⟨si_, by repeat (first | exact Drawn0.refl _ | apply Drawn0.step)⟩
       ·rw [if_neg c7] at H
        have c7b0 : (!(((rd_T43 l0 x5_1).f0) == ((rd_T43 l1 x5_1).f0)) || (!(((rd_T43 l0 x5_1).f1) == ((rd_T43 l1 x5_1).f1)) || (!((((rd_T43 l0 x5_1).f2).toList) == (((rd_T43 l1 x5_1).f2).toList))))) = false := by simpa using c7
        clear c7
        have H' := Aside0.mk H
        clear H
        have p523 : 0 ≤ (x5_1 : Int) := od_
        have q523 : x5_1 < (l0.length : Int) := od_
        obtain ⟨ad523, e523, hx523_0, hx523_1, hx523_2⟩ := at_T43 HR0.out x5_1 p523 q523
        cases e523
        replace p523 := eq_true p523
        replace q523 := eq_true q523
        have p524 : 0 ≤ (x5_1 : Int) := od_
        have q524 : x5_1 < (l1.length : Int) := od_
        obtain ⟨ad524, e524, hx524_0, hx524_1, hx524_2⟩ := at_T43 HR1.out x5_1 p524 q524
        cases e524
        replace p524 := eq_true p524
        replace q524 := eq_true q524
        go_wp2
        repeat (go_quiet (fail); try go_wp2)
        go_roundg k1
        case measure => have := HK1.out; omega
        case rel => exact ⟨(wrap64 (x5_1 + 1)), (si_), H', ⟨by have := HK1.out; omega⟩, by repeat (first | exact Drawn0.refl _ | apply Drawn0.step)⟩
      ·rw [if_neg c6] at H
       exact absurd H (by simp)
     ·rw [if_neg c5] at H
      exact absurd H (by simp)
    ·rw [if_neg c4] at H
     have c4b0 : decide (x5_1 < (l0.length : Int)) = false := decide_eq_false c4
     clear c4
     obtain rfl := Option.some.inj H
     go_wp2
     repeat (go_quiet (fail); try go_wp2)
     go_ret
     exact ⟨si_, by repeat (first | exact Drawn0.refl _ | apply Drawn0.step)⟩
 ·rw [if_neg c3] at H
  have c3b0 : ((l0.length : Int) == (l1.length : Int)) = false := beq_eq_false_iff_ne.mpr c3
  have c3b1 : ((l0.length : Int) != (l1.length : Int)) = true := bne_iff_ne.mpr c3
  have c3b2 : (l0.length == l1.length) = false := by first | simpa using c3 | (simp at c3 ⊢; omega)
  obtain rfl := Option.some.inj H
  go_enter Tryd.func25, Tryd.ntmps25
  go_wp2
  repeat (go_quiet (fail); try go_wp2)
  go_ret
  exact ⟨si_, by repeat (first | exact Drawn0.refl _ | apply Drawn0.step)⟩

end Go.Proofs.YtkopimbbgckcnaaDoor.P
namespace Go.Proofs.YtkopimbbgckcnaaDoor.P
open Go.RowKit Go.Proofs.YtkopimbbgckcnaaDoorW.PrintWords Go.Proofs.YtkopimbbgckcnaaDoorW.PrintLast Go.Proofs.YtkopimbbgckcnaaDoorW.PrintMore Go.Proofs.YtkopimbbgckcnaaDoor.PL Go.Proofs.YtkopimbbgckcnaaDoor.FP
theorem plant_at (A0 : Option Addr) (c0 : Nat) (l0 : List S43) (w : World) (hr0 : Kd.C k43 w A0 l0.length l0) (hc0 : l0.length ≤ c0) (ht : treeB l0 = true) (hG : Glob w) :
  Calls Tryd.prog 41 #[.slice A0 l0.length c0] w fun e w' => ∃ (Fb : Nat) (A : Nat → Option Nat) (h : Nat → Nd), e = .returned (.tuple #[.pointer (some ⟨Fb, 0, none⟩), .bool true]) ∧ At w' w.heap.size Fb A h (toFo l0) ∧ Below w.heap.size w w' := by
 refine (plant_yes A0 c0 l0 w hr0 hc0 ht hG).mono ?_
 rintro e w' ⟨Fb, G, A, h, rfl, p1, p2, p3, p4, p5, p6, hb⟩
 have hTO := toFo_of ht p6
 rw [hTO]
 exact ⟨Fb, A, h, rfl, ⟨p1, p2, p3, p4, p5⟩, hb⟩
theorem At.found {w : World} {n0 F : Nat} {A : Nat → Option Nat} {h : Nat → Nd} {G : Fo} (t : At w n0 F A h G) {x : Int} (hx : fndF G x ≠ 0) : ∃ b, findA A x = some b ∧ A (fndF G x) = some b := by
 obtain ⟨b, hb⟩ := t.ok (fndF_mem hx).1
 exact ⟨b, (fnd_eq t.m x).trans (by rw [t.fnd]; exact hb), hb⟩
theorem At.lost {w : World} {n0 F : Nat} {A : Nat → Option Nat} {h : Nat → Nd} {G : Fo} (t : At w n0 F A h G) {x : Int} (hx : fndF G x = 0) : findA A x = none := fnd_zero t.m x ((t.fnd x).trans hx)
theorem At.par {w : World} {n0 F : Nat} {A : Nat → Option Nat} {h : Nat → Nd} {G : Fo} (t : At w n0 F A h G) {i : Nat} (hi : i ∈ G.ids) : (h i).up = FP.par i 0 G := reptop_par t.rep t.nd hi
theorem At.parOk {w : World} {n0 F : Nat} {A : Nat → Option Nat} {h : Nat → Nd} {G : Fo} (t : At w n0 F A h G) {i : Nat} (hi : i ∈ G.ids) : FP.par i 0 G = 0 ∨ A (FP.par i 0 G) ≠ none := by
 rw [← t.par hi]
 exact t.m.cu i ((t.dom i).2 hi)
def upR (l : List S43) (id : Int) : Int × Bool := if treeB l = true then (if fndF (toFo l) id = 0 then (0, false) else ((FP.par (fndF (toFo l) id) 0 (toFo l) : Int), true)) else (0, false)
def impl_TreeUp.f (k : Nat) (l0 : List S43) (a1 : Int) : Option (Int × Bool) := some (upR l0 a1)
theorem impl_TreeUp.mono (l0 : List S43) (a1 : Int) (k : Nat) : LeO (impl_TreeUp.f k l0 a1) (impl_TreeUp.f (k + 1) l0 a1) := LeO.refl _
def UpPost (w : World) (r : Int × Bool) (e : Ending) (w' : World) : Prop := e = .returned (.tuple #[.int .i64 r.1, .bool r.2]) ∧ Below w.heap.size w w'
set_option maxHeartbeats 1000000 in
set_option maxRecDepth 100000 in
theorem treeUp_any (A0 : Option Addr) (c0 : Nat) (l0 : List S43) (id : Int) (w : World) (hr0 : Kd.C k43 w A0 l0.length l0) (hc0 : l0.length ≤ c0) (hG : Glob w) :
  Calls Tryd.prog 35 #[.slice A0 l0.length c0, .int .i64 id] w (UpPost w (upR l0 id)) := by
 unfold upR
 cases ht : treeB l0 with
 | false =>
  have HP := Aside0.mk (plant_no A0 c0 l0 w hr0 hc0 ht hG)
  rw [if_neg (by decide)]
  clear hr0 hc0 ht hG
  go_enter Tryd.func35, Tryd.ntmps35
  go_wp2_with (go_at_call 41; (with_reducible refine (HP.out).mono ?_); clear HP; rintro en W1 ⟨rfl, hb⟩; have HB1 := Aside0.mk hb; clear hb)
  go_ret2
  exact ⟨rfl, HB1.out⟩
 | true =>
  have HP := Aside0.mk (plant_at A0 c0 l0 w hr0 hc0 ht hG)
  rw [if_pos rfl]
  clear hr0 hc0 ht hG
  by_cases h0 : fndF (toFo l0) id = 0
  ·rw [if_pos h0]
   have H0 := Aside0.mk h0
   clear h0
   go_enter Tryd.func35, Tryd.ntmps35
   go_wp2_with (first
    | (go_at_call 41; (with_reducible refine (HP.out).mono ?_); clear HP; rintro en W1 ⟨Fb, A, h, rfl, hat, hb⟩; have HB1 := Aside0.mk hb; have HT := Aside0.mk hat; clear hb hat)
    | (go_at_call 55; (with_reducible refine (find_any HT.out.m id).mono ?_); rw [HT.out.lost H0.out, pa_none]; rintro en W2 ⟨rfl, rfl⟩))
   go_ret2
   exact ⟨rfl, HB1.out⟩
  ·rw [if_neg h0]
   obtain ⟨i, hi⟩ : ∃ i, i = fndF (toFo l0) id := ⟨_, rfl⟩
   have hmem : i ∈ (toFo l0).ids := by rw [hi]; exact (fndF_mem h0).1
   have H0 := Aside0.mk h0
   have HI := Aside0.mk hi
   have HM := Aside0.mk hmem
   rw [← hi]
   clear h0 hi hmem
   go_enter Tryd.func35, Tryd.ntmps35
   go_wp2_with (first
    | (go_at_call 41; (with_reducible refine (HP.out).mono ?_); clear HP; rintro en W1 ⟨Fb, A, h, rfl, hat, hb⟩; have HB1 := Aside0.mk hb; have HT := Aside0.mk hat; obtain ⟨b, hb1, hb2⟩ := hat.found H0.out; rw [← HI.out] at hb2; have F1 := Aside0.mk hb1; have c2 := hat.m.c2 hb2; rw [hat.par HM.out] at c2; clear hb hat hb1 hb2)
    | (go_at_call 55; (with_reducible refine (find_any HT.out.m id).mono ?_); rw [F1.out, pa_some]; rintro en W2 ⟨rfl, rfl⟩)
    | (go_at_call 58; (with_reducible refine (idOf_any HT.out.m _ (HT.out.parOk HM.out)).mono ?_); rintro en W2 ⟨rfl, rfl⟩))
   go_ret2
   exact ⟨rfl, HB1.out⟩
theorem impl_TreeUp.calls (k : Nat) (A0 : Option Addr) (c0 : Nat) (l0 : List S43) (a1 : Int) (r1 : Int) (r2 : Bool) (w : World) (hr0 : Kd.C k43 w A0 l0.length l0) (hc0 : l0.length ≤ c0) (h : impl_TreeUp.f k l0 a1 = some (r1, r2)) (hG : Glob w) :
  Calls Tryd.prog 35 #[.slice A0 l0.length c0, .int .i64 a1] w fun e w' => e = .returned (.tuple #[.int .i64 r1, .bool r2]) ∧ Below w.heap.size w w' := by
 have := treeUp_any A0 c0 l0 a1 w hr0 hc0 hG
 rw [Option.some.inj h] at this
 exact this
end Go.Proofs.YtkopimbbgckcnaaDoor.P
