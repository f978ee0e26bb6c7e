/- Joined by a program (wip/shake.py): the declarations that 'YtdpklbomhdpimaaDoorCardFnExactLogTree' reaches. -/
import Derived.Test.YtdpklbomhdpimaaDoorZLe2
set_option linter.unusedVariables false
set_option linter.unusedSimpArgs false
set_option linter.unusedSectionVars false
namespace Go.Proofs.YtdpklbomhdpimaaDoor.P
open Go.RowKit Go.Proofs.YtdpklbomhdpimaaDoorW.PrintWords Go.Proofs.YtdpklbomhdpimaaDoorW.PrintLast
set_option maxHeartbeats 8000000 in
set_option maxRecDepth 100000 in
theorem laws_markEntryS.calls (k : Nat) (P0_ : Nat → Prop) (u9000_ : Value) (l0 : List (S44)) (a1 : Int) (r1 : Int) (r2 : List (S44)) (w0 w : World) (hB : Below w0.heap.size w0 w) (ho0 : Kd.R k44 44 w w0.heap.size P0_ u9000_ l0) (h : laws_markEntryS.f k l0 a1 = some (r1, r2)) :
  Calls Tryd.prog 53 #[u9000_, .int .i64 a1] w fun e w' => e = .returned (.int .i64 r1) ∧ Kd.R k44 44 w' w0.heap.size (fun k_ => (P0_ k_ ∨ w.heap.size ≤ k_)) u9000_ r2 ∧ Below w0.heap.size w0 w' ∧ Kept w w' (fun k_ => P0_ k_) := by
 have HO0 := Aside0.mk (show Kd.R k44 44 w w0.heap.size (fun k_ => (P0_ k_ ∨ w.heap.size ≤ k_)) u9000_ l0 from Kd.R_mono ho0 (fun k_ hk => (.inl hk)))
 have HK := Aside0.mk (Kept.refl w (fun k_ => P0_ k_))
 have HW0 := Aside0.mk hB.size
 have HB := Aside0.mk hB
 clear hB
 unfold laws_markEntryS.f at h
 have H := h
 clear h
 have H' := Aside0.mk H
 clear H
 go_enter Tryd.func53, Tryd.ntmps53
 go_wp2
 go_loopg [1, 5] k (fun kq v1 v5 w' => ∃ (x0_1 : List (S44)) (x1_1 : Int) (x5_1 : Int), v1 = .int .i64 x1_1 ∧ v5 = .int .i64 x5_1 ∧ Aside0 (laws_markEntryS.l0 kq x0_1 x1_1 x5_1 = some (r1, r2)) ∧ Aside0 (kq ≤ k) ∧ Aside0 (Kd.R k44 44 w' w0.heap.size (fun k_ => (P0_ k_ ∨ w.heap.size ≤ k_)) u9000_ x0_1) ∧ Aside0 (Kept w w' (fun k_ => P0_ k_)) ∧ Aside0 (Below w0.heap.size w0 w'))
 case atStart => exact ⟨(l0), (a1), (0), (si_), (si_), H', ⟨Nat.le_refl _⟩, ⟨by (with_reducible repeat (first | apply Kd.R_alloc | apply Kd.R_drewN | apply Kd.R_drew)); exact HO0.out⟩, ⟨by repeat (first | (with_reducible first | exact HK.out | apply Kept.alloc | apply Kept.drewN | apply Kept.drew) | exact HK.out)⟩, ⟨bel_⟩⟩
 case round =>
  clear H'
  try clear p2
  obtain ⟨x0_1, x1_1, x5_1, rfl, rfl, HA, HK1, HO_0, HK, HB⟩ := hrel
  cases gk with
  | zero => exact absurd HA.out (by simp [laws_markEntryS.l0])
  | succ k1 =>
   have H := HA.out
   clear HA
   simp only [laws_markEntryS.l0] at H
   by_cases c3 : x5_1 < (x0_1.length : Int)
   ·rw [if_pos c3] at H
    have c3b0 : decide (x5_1 < (x0_1.length : Int)) = true := decide_eq_true c3
    clear c3
    by_cases c4 : 0 ≤ x5_1
    ·rw [if_pos c4] at H
     have c4b0 : decide (0 ≤ x5_1) = true := decide_eq_true c4
     clear c4
     obtain ⟨y566, hy566⟩ : ∃ y_ : List (S44), y_ = (x0_1.set (x5_1 : Int).toNat (⟨x1_1, (rd_T44 x0_1 x5_1).f1, (⟨(rd_T44 x0_1 x5_1).f2.f0, (rd_T44 x0_1 x5_1).f2.f1, (rd_T44 x0_1 x5_1).f2.f2, (rd_T44 x0_1 x5_1).f2.f3, (rd_T44 x0_1 x5_1).f2.f4⟩ : S42)⟩ : S44)) := ⟨_, rfl⟩
     replace H : ((some (y566.set (x5_1 : Int).toNat (⟨(rd_T44 y566 x5_1).f0, wrap64 (x1_1 + 1), (⟨(rd_T44 y566 x5_1).f2.f0, (rd_T44 y566 x5_1).f2.f1, (rd_T44 y566 x5_1).f2.f2, (rd_T44 y566 x5_1).f2.f3, (rd_T44 y566 x5_1).f2.f4⟩ : S42)⟩ : S44) : List (S44))).bind fun y567 => ((some (y567.set (x5_1 : Int).toNat (⟨(rd_T44 y567 x5_1).f0, (rd_T44 y567 x5_1).f1, (⟨wrap64 ((wrap64 (x1_1 + 1)) + 1), (rd_T44 y567 x5_1).f2.f1, (rd_T44 y567 x5_1).f2.f2, (rd_T44 y567 x5_1).f2.f3, (rd_T44 y567 x5_1).f2.f4⟩ : S42)⟩ : S44) : List (S44))).bind fun y568 => ((some (y568.set (x5_1 : Int).toNat (⟨(rd_T44 y568 x5_1).f0, (rd_T44 y568 x5_1).f1, (⟨(rd_T44 y568 x5_1).f2.f0, wrap64 ((wrap64 ((wrap64 (x1_1 + 1)) + 1)) + 1), (rd_T44 y568 x5_1).f2.f2, (rd_T44 y568 x5_1).f2.f3, (rd_T44 y568 x5_1).f2.f4⟩ : S42)⟩ : S44) : List (S44))).bind fun y569 => ((some (y569.set (x5_1 : Int).toNat (⟨(rd_T44 y569 x5_1).f0, (rd_T44 y569 x5_1).f1, (⟨(rd_T44 y569 x5_1).f2.f0, (rd_T44 y569 x5_1).f2.f1, wrap64 ((wrap64 ((wrap64 ((wrap64 (x1_1 + 1)) + 1)) + 1)) + 1), (rd_T44 y569 x5_1).f2.f3, (rd_T44 y569 x5_1).f2.f4⟩ : S42)⟩ : S44) : List (S44))).bind fun y570 => ((some (y570.set (x5_1 : Int).toNat (⟨(rd_T44 y570 x5_1).f0, (rd_T44 y570 x5_1).f1, (⟨(rd_T44 y570 x5_1).f2.f0, (rd_T44 y570 x5_1).f2.f1, (rd_T44 y570 x5_1).f2.f2, wrap64 ((wrap64 ((wrap64 ((wrap64 ((wrap64 (x1_1 + 1)) + 1)) + 1)) + 1)) + 1), (rd_T44 y570 x5_1).f2.f4⟩ : S42)⟩ : S44) : List (S44))).bind fun y571 => ((laws_markText.f k1 (wrap64 ((wrap64 ((wrap64 ((wrap64 ((wrap64 ((wrap64 (x1_1 + 1)) + 1)) + 1)) + 1)) + 1)) + 1))).bind fun t572 => (laws_markEntryS.l0 k1 (y571.set (x5_1 : Int).toNat (⟨(rd_T44 y571 x5_1).f0, (rd_T44 y571 x5_1).f1, (⟨(rd_T44 y571 x5_1).f2.f0, (rd_T44 y571 x5_1).f2.f1, (rd_T44 y571 x5_1).f2.f2, (rd_T44 y571 x5_1).f2.f3, t572⟩ : S42)⟩ : S44)) (wrap64 ((wrap64 ((wrap64 ((wrap64 ((wrap64 ((wrap64 ((wrap64 (x1_1 + 1)) + 1)) + 1)) + 1)) + 1)) + 1)) + 1)) (wrap64 (x5_1 + 1))))))))) = some (r1, r2) := by first | (rw [hy566]; with_reducible exact H) | (have H2_ := (Option.bind_some _ _).symm.trans H; rw [hy566]; with_reducible exact H2_) | (have H2_ := (Option.bind_some _ _).symm.trans H; with_reducible exact H2_) | with_reducible exact H | (rw [hy566]; exact H) | exact H
     have Ny566 := Aside0.mk hy566
     clear hy566
     obtain ⟨y567, hy567⟩ : ∃ y_ : List (S44), y_ = (y566.set (x5_1 : Int).toNat (⟨(rd_T44 y566 x5_1).f0, wrap64 (x1_1 + 1), (⟨(rd_T44 y566 x5_1).f2.f0, (rd_T44 y566 x5_1).f2.f1, (rd_T44 y566 x5_1).f2.f2, (rd_T44 y566 x5_1).f2.f3, (rd_T44 y566 x5_1).f2.f4⟩ : S42)⟩ : S44)) := ⟨_, rfl⟩
     replace H : ((some (y567.set (x5_1 : Int).toNat (⟨(rd_T44 y567 x5_1).f0, (rd_T44 y567 x5_1).f1, (⟨wrap64 ((wrap64 (x1_1 + 1)) + 1), (rd_T44 y567 x5_1).f2.f1, (rd_T44 y567 x5_1).f2.f2, (rd_T44 y567 x5_1).f2.f3, (rd_T44 y567 x5_1).f2.f4⟩ : S42)⟩ : S44) : List (S44))).bind fun y568 => ((some (y568.set (x5_1 : Int).toNat (⟨(rd_T44 y568 x5_1).f0, (rd_T44 y568 x5_1).f1, (⟨(rd_T44 y568 x5_1).f2.f0, wrap64 ((wrap64 ((wrap64 (x1_1 + 1)) + 1)) + 1), (rd_T44 y568 x5_1).f2.f2, (rd_T44 y568 x5_1).f2.f3, (rd_T44 y568 x5_1).f2.f4⟩ : S42)⟩ : S44) : List (S44))).bind fun y569 => ((some (y569.set (x5_1 : Int).toNat (⟨(rd_T44 y569 x5_1).f0, (rd_T44 y569 x5_1).f1, (⟨(rd_T44 y569 x5_1).f2.f0, (rd_T44 y569 x5_1).f2.f1, wrap64 ((wrap64 ((wrap64 ((wrap64 (x1_1 + 1)) + 1)) + 1)) + 1), (rd_T44 y569 x5_1).f2.f3, (rd_T44 y569 x5_1).f2.f4⟩ : S42)⟩ : S44) : List (S44))).bind fun y570 => ((some (y570.set (x5_1 : Int).toNat (⟨(rd_T44 y570 x5_1).f0, (rd_T44 y570 x5_1).f1, (⟨(rd_T44 y570 x5_1).f2.f0, (rd_T44 y570 x5_1).f2.f1, (rd_T44 y570 x5_1).f2.f2, wrap64 ((wrap64 ((wrap64 ((wrap64 ((wrap64 (x1_1 + 1)) + 1)) + 1)) + 1)) + 1), (rd_T44 y570 x5_1).f2.f4⟩ : S42)⟩ : S44) : List (S44))).bind fun y571 => ((laws_markText.f k1 (wrap64 ((wrap64 ((wrap64 ((wrap64 ((wrap64 ((wrap64 (x1_1 + 1)) + 1)) + 1)) + 1)) + 1)) + 1))).bind fun t572 => (laws_markEntryS.l0 k1 (y571.set (x5_1 : Int).toNat (⟨(rd_T44 y571 x5_1).f0, (rd_T44 y571 x5_1).f1, (⟨(rd_T44 y571 x5_1).f2.f0, (rd_T44 y571 x5_1).f2.f1, (rd_T44 y571 x5_1).f2.f2, (rd_T44 y571 x5_1).f2.f3, t572⟩ : S42)⟩ : S44)) (wrap64 ((wrap64 ((wrap64 ((wrap64 ((wrap64 ((wrap64 ((wrap64 (x1_1 + 1)) + 1)) + 1)) + 1)) + 1)) + 1)) + 1)) (wrap64 (x5_1 + 1)))))))) = some (r1, r2) := by first | (rw [hy567]; with_reducible exact H) | (have H2_ := (Option.bind_some _ _).symm.trans H; rw [hy567]; with_reducible exact H2_) | (have H2_ := (Option.bind_some _ _).symm.trans H; with_reducible exact H2_) | with_reducible exact H | (rw [hy567]; exact H) | exact H
     have Ny567 := Aside0.mk hy567
     clear hy567
     obtain ⟨y568, hy568⟩ : ∃ y_ : List (S44), y_ = (y567.set (x5_1 : Int).toNat (⟨(rd_T44 y567 x5_1).f0, (rd_T44 y567 x5_1).f1, (⟨wrap64 ((wrap64 (x1_1 + 1)) + 1), (rd_T44 y567 x5_1).f2.f1, (rd_T44 y567 x5_1).f2.f2, (rd_T44 y567 x5_1).f2.f3, (rd_T44 y567 x5_1).f2.f4⟩ : S42)⟩ : S44)) := ⟨_, rfl⟩
     replace H : ((some (y568.set (x5_1 : Int).toNat (⟨(rd_T44 y568 x5_1).f0, (rd_T44 y568 x5_1).f1, (⟨(rd_T44 y568 x5_1).f2.f0, wrap64 ((wrap64 ((wrap64 (x1_1 + 1)) + 1)) + 1), (rd_T44 y568 x5_1).f2.f2, (rd_T44 y568 x5_1).f2.f3, (rd_T44 y568 x5_1).f2.f4⟩ : S42)⟩ : S44) : List (S44))).bind fun y569 => ((some (y569.set (x5_1 : Int).toNat (⟨(rd_T44 y569 x5_1).f0, (rd_T44 y569 x5_1).f1, (⟨(rd_T44 y569 x5_1).f2.f0, (rd_T44 y569 x5_1).f2.f1, wrap64 ((wrap64 ((wrap64 ((wrap64 (x1_1 + 1)) + 1)) + 1)) + 1), (rd_T44 y569 x5_1).f2.f3, (rd_T44 y569 x5_1).f2.f4⟩ : S42)⟩ : S44) : List (S44))).bind fun y570 => ((some (y570.set (x5_1 : Int).toNat (⟨(rd_T44 y570 x5_1).f0, (rd_T44 y570 x5_1).f1, (⟨(rd_T44 y570 x5_1).f2.f0, (rd_T44 y570 x5_1).f2.f1, (rd_T44 y570 x5_1).f2.f2, wrap64 ((wrap64 ((wrap64 ((wrap64 ((wrap64 (x1_1 + 1)) + 1)) + 1)) + 1)) + 1), (rd_T44 y570 x5_1).f2.f4⟩ : S42)⟩ : S44) : List (S44))).bind fun y571 => ((laws_markText.f k1 (wrap64 ((wrap64 ((wrap64 ((wrap64 ((wrap64 ((wrap64 (x1_1 + 1)) + 1)) + 1)) + 1)) + 1)) + 1))).bind fun t572 => (laws_markEntryS.l0 k1 (y571.set (x5_1 : Int).toNat (⟨(rd_T44 y571 x5_1).f0, (rd_T44 y571 x5_1).f1, (⟨(rd_T44 y571 x5_1).f2.f0, (rd_T44 y571 x5_1).f2.f1, (rd_T44 y571 x5_1).f2.f2, (rd_T44 y571 x5_1).f2.f3, t572⟩ : S42)⟩ : S44)) (wrap64 ((wrap64 ((wrap64 ((wrap64 ((wrap64 ((wrap64 ((wrap64 (x1_1 + 1)) + 1)) + 1)) + 1)) + 1)) + 1)) + 1)) (wrap64 (x5_1 + 1))))))) = some (r1, r2) := by first | (rw [hy568]; with_reducible exact H) | (have H2_ := (Option.bind_some _ _).symm.trans H; rw [hy568]; with_reducible exact H2_) | (have H2_ := (Option.bind_some _ _).symm.trans H; with_reducible exact H2_) | with_reducible exact H | (rw [hy568]; exact H) | exact H
     have Ny568 := Aside0.mk hy568
     clear hy568
     obtain ⟨y569, hy569⟩ : ∃ y_ : List (S44), y_ = (y568.set (x5_1 : Int).toNat (⟨(rd_T44 y568 x5_1).f0, (rd_T44 y568 x5_1).f1, (⟨(rd_T44 y568 x5_1).f2.f0, wrap64 ((wrap64 ((wrap64 (x1_1 + 1)) + 1)) + 1), (rd_T44 y568 x5_1).f2.f2, (rd_T44 y568 x5_1).f2.f3, (rd_T44 y568 x5_1).f2.f4⟩ : S42)⟩ : S44)) := ⟨_, rfl⟩
     replace H : ((some (y569.set (x5_1 : Int).toNat (⟨(rd_T44 y569 x5_1).f0, (rd_T44 y569 x5_1).f1, (⟨(rd_T44 y569 x5_1).f2.f0, (rd_T44 y569 x5_1).f2.f1, wrap64 ((wrap64 ((wrap64 ((wrap64 (x1_1 + 1)) + 1)) + 1)) + 1), (rd_T44 y569 x5_1).f2.f3, (rd_T44 y569 x5_1).f2.f4⟩ : S42)⟩ : S44) : List (S44))).bind fun y570 => ((some (y570.set (x5_1 : Int).toNat (⟨(rd_T44 y570 x5_1).f0, (rd_T44 y570 x5_1).f1, (⟨(rd_T44 y570 x5_1).f2.f0, (rd_T44 y570 x5_1).f2.f1, (rd_T44 y570 x5_1).f2.f2, wrap64 ((wrap64 ((wrap64 ((wrap64 ((wrap64 (x1_1 + 1)) + 1)) + 1)) + 1)) + 1), (rd_T44 y570 x5_1).f2.f4⟩ : S42)⟩ : S44) : List (S44))).bind fun y571 => ((laws_markText.f k1 (wrap64 ((wrap64 ((wrap64 ((wrap64 ((wrap64 ((wrap64 (x1_1 + 1)) + 1)) + 1)) + 1)) + 1)) + 1))).bind fun t572 => (laws_markEntryS.l0 k1 (y571.set (x5_1 : Int).toNat (⟨(rd_T44 y571 x5_1).f0, (rd_T44 y571 x5_1).f1, (⟨(rd_T44 y571 x5_1).f2.f0, (rd_T44 y571 x5_1).f2.f1, (rd_T44 y571 x5_1).f2.f2, (rd_T44 y571 x5_1).f2.f3, t572⟩ : S42)⟩ : S44)) (wrap64 ((wrap64 ((wrap64 ((wrap64 ((wrap64 ((wrap64 ((wrap64 (x1_1 + 1)) + 1)) + 1)) + 1)) + 1)) + 1)) + 1)) (wrap64 (x5_1 + 1)))))) = some (r1, r2) := by first | (rw [hy569]; with_reducible exact H) | (have H2_ := (Option.bind_some _ _).symm.trans H; rw [hy569]; with_reducible exact H2_) | (have H2_ := (Option.bind_some _ _).symm.trans H; with_reducible exact H2_) | with_reducible exact H | (rw [hy569]; exact H) | exact H
     have Ny569 := Aside0.mk hy569
     clear hy569
     obtain ⟨y570, hy570⟩ : ∃ y_ : List (S44), y_ = (y569.set (x5_1 : Int).toNat (⟨(rd_T44 y569 x5_1).f0, (rd_T44 y569 x5_1).f1, (⟨(rd_T44 y569 x5_1).f2.f0, (rd_T44 y569 x5_1).f2.f1, wrap64 ((wrap64 ((wrap64 ((wrap64 (x1_1 + 1)) + 1)) + 1)) + 1), (rd_T44 y569 x5_1).f2.f3, (rd_T44 y569 x5_1).f2.f4⟩ : S42)⟩ : S44)) := ⟨_, rfl⟩
     replace H : ((some (y570.set (x5_1 : Int).toNat (⟨(rd_T44 y570 x5_1).f0, (rd_T44 y570 x5_1).f1, (⟨(rd_T44 y570 x5_1).f2.f0, (rd_T44 y570 x5_1).f2.f1, (rd_T44 y570 x5_1).f2.f2, wrap64 ((wrap64 ((wrap64 ((wrap64 ((wrap64 (x1_1 + 1)) + 1)) + 1)) + 1)) + 1), (rd_T44 y570 x5_1).f2.f4⟩ : S42)⟩ : S44) : List (S44))).bind fun y571 => ((laws_markText.f k1 (wrap64 ((wrap64 ((wrap64 ((wrap64 ((wrap64 ((wrap64 (x1_1 + 1)) + 1)) + 1)) + 1)) + 1)) + 1))).bind fun t572 => (laws_markEntryS.l0 k1 (y571.set (x5_1 : Int).toNat (⟨(rd_T44 y571 x5_1).f0, (rd_T44 y571 x5_1).f1, (⟨(rd_T44 y571 x5_1).f2.f0, (rd_T44 y571 x5_1).f2.f1, (rd_T44 y571 x5_1).f2.f2, (rd_T44 y571 x5_1).f2.f3, t572⟩ : S42)⟩ : S44)) (wrap64 ((wrap64 ((wrap64 ((wrap64 ((wrap64 ((wrap64 ((wrap64 (x1_1 + 1)) + 1)) + 1)) + 1)) + 1)) + 1)) + 1)) (wrap64 (x5_1 + 1))))) = some (r1, r2) := by first | (rw [hy570]; with_reducible exact H) | (have H2_ := (Option.bind_some _ _).symm.trans H; rw [hy570]; with_reducible exact H2_) | (have H2_ := (Option.bind_some _ _).symm.trans H; with_reducible exact H2_) | with_reducible exact H | (rw [hy570]; exact H) | exact H
     have Ny570 := Aside0.mk hy570
     clear hy570
     obtain ⟨y571, hy571⟩ : ∃ y_ : List (S44), y_ = (y570.set (x5_1 : Int).toNat (⟨(rd_T44 y570 x5_1).f0, (rd_T44 y570 x5_1).f1, (⟨(rd_T44 y570 x5_1).f2.f0, (rd_T44 y570 x5_1).f2.f1, (rd_T44 y570 x5_1).f2.f2, wrap64 ((wrap64 ((wrap64 ((wrap64 ((wrap64 (x1_1 + 1)) + 1)) + 1)) + 1)) + 1), (rd_T44 y570 x5_1).f2.f4⟩ : S42)⟩ : S44)) := ⟨_, rfl⟩
     replace H : ((laws_markText.f k1 (wrap64 ((wrap64 ((wrap64 ((wrap64 ((wrap64 ((wrap64 (x1_1 + 1)) + 1)) + 1)) + 1)) + 1)) + 1))).bind fun t572 => (laws_markEntryS.l0 k1 (y571.set (x5_1 : Int).toNat (⟨(rd_T44 y571 x5_1).f0, (rd_T44 y571 x5_1).f1, (⟨(rd_T44 y571 x5_1).f2.f0, (rd_T44 y571 x5_1).f2.f1, (rd_T44 y571 x5_1).f2.f2, (rd_T44 y571 x5_1).f2.f3, t572⟩ : S42)⟩ : S44)) (wrap64 ((wrap64 ((wrap64 ((wrap64 ((wrap64 ((wrap64 ((wrap64 (x1_1 + 1)) + 1)) + 1)) + 1)) + 1)) + 1)) + 1)) (wrap64 (x5_1 + 1)))) = some (r1, r2) := by first | (rw [hy571]; with_reducible exact H) | (have H2_ := (Option.bind_some _ _).symm.trans H; rw [hy571]; with_reducible exact H2_) | (have H2_ := (Option.bind_some _ _).symm.trans H; with_reducible exact H2_) | with_reducible exact H | (rw [hy571]; exact H) | exact H
     have Ny571 := Aside0.mk hy571
     clear hy571
     replace H := Option.bind_eq_some_iff.mp H
     obtain ⟨t572, A110, H⟩ := H
     try dsimp only at H
     have A11 := Aside0.mk A110
     clear A110
     obtain ⟨y573, hy573⟩ : ∃ y_ : List (S44), y_ = (y571.set (x5_1 : Int).toNat (⟨(rd_T44 y571 x5_1).f0, (rd_T44 y571 x5_1).f1, (⟨(rd_T44 y571 x5_1).f2.f0, (rd_T44 y571 x5_1).f2.f1, (rd_T44 y571 x5_1).f2.f2, (rd_T44 y571 x5_1).f2.f3, t572⟩ : S42)⟩ : S44)) := ⟨_, rfl⟩
     replace H : (laws_markEntryS.l0 k1 y573 (wrap64 ((wrap64 ((wrap64 ((wrap64 ((wrap64 ((wrap64 ((wrap64 (x1_1 + 1)) + 1)) + 1)) + 1)) + 1)) + 1)) + 1)) (wrap64 (x5_1 + 1))) = some (r1, r2) := by first | (rw [hy573]; with_reducible exact H) | (have H2_ := (Option.bind_some _ _).symm.trans H; rw [hy573]; with_reducible exact H2_) | (have H2_ := (Option.bind_some _ _).symm.trans H; with_reducible exact H2_) | with_reducible exact H | (rw [hy573]; exact H) | exact H
     have Ny573 := Aside0.mk hy573
     clear hy573
     have H' := Aside0.mk H
     clear H
     obtain ⟨Ao13, co13, eo13⟩ := Kd.R_slice HO_0.out
     subst eo13
     have p5 : 0 ≤ (x5_1 : Int) := od_
     have q5 : (x5_1 : Int) < ((x0_1.length : Int) : Int) := od_
     obtain ⟨go5, co5, eo5, gb5, gl5, cl5, HG5⟩ := Kd.R_form HO_0.out (by omega)
     (first | cases eo5 | (injection eo5 with ea_ en_ ec_; (first | subst ea_ | (injection ea_ with ea_; subst ea_)); subst ec_; clear en_))
     have GB5 := Aside0.mk gb5
     have GG5 := Aside0.mk HG5
     clear gb5 gl5 HG5
     have HMgo5 := Aside0.mk (show (P0_ go5 ∨ w.heap.size ≤ go5) from (HO_0.out.1 _ rfl))
     obtain ⟨ce5, hcl5, hM5, hcc5, hfr5⟩ := Kd.R_elem HO_0.out z44 (x5_1 : Int) p5 q5
     obtain rfl := k44_openM hM5
     have hx5_0 : wr.cell? ⟨go5, (x5_1 : Int).toNat * 7, none⟩ = some (.int .i64 ((rd_T44 x0_1 x5_1).f0)) := hcc5 0 _ rfl
     have hx5_1 : wr.cell? ⟨go5, (x5_1 : Int).toNat * 7 + 1, none⟩ = some (.int .i64 ((rd_T44 x0_1 x5_1).f1)) := hcc5 1 _ rfl
     have hx5_2 : wr.cell? ⟨go5, (x5_1 : Int).toNat * 7 + 2, none⟩ = some (.int .i64 ((rd_T44 x0_1 x5_1).f2.f0)) := hcc5 2 _ rfl
     have hx5_3 : wr.cell? ⟨go5, (x5_1 : Int).toNat * 7 + 3, none⟩ = some (.int .i64 ((rd_T44 x0_1 x5_1).f2.f1)) := hcc5 3 _ rfl
     have hx5_4 : wr.cell? ⟨go5, (x5_1 : Int).toNat * 7 + 4, none⟩ = some (.int .i64 ((rd_T44 x0_1 x5_1).f2.f2)) := hcc5 4 _ rfl
     have hx5_5 : wr.cell? ⟨go5, (x5_1 : Int).toNat * 7 + 5, none⟩ = some (.int .i64 ((rd_T44 x0_1 x5_1).f2.f3)) := hcc5 5 _ rfl
     have hx5_6 : wr.cell? ⟨go5, (x5_1 : Int).toNat * 7 + 6, none⟩ = some (.string ((rd_T44 x0_1 x5_1).f2.f4)) := hcc5 6 _ rfl
     have hf5_0 : wr.frozen? ⟨go5, (x5_1 : Int).toNat * 7, none⟩ = false := hfr5 0
     have hf5_1 : wr.frozen? ⟨go5, (x5_1 : Int).toNat * 7 + 1, none⟩ = false := hfr5 1
     have hf5_2 : wr.frozen? ⟨go5, (x5_1 : Int).toNat * 7 + 2, none⟩ = false := hfr5 2
     have hf5_3 : wr.frozen? ⟨go5, (x5_1 : Int).toNat * 7 + 3, none⟩ = false := hfr5 3
     have hf5_4 : wr.frozen? ⟨go5, (x5_1 : Int).toNat * 7 + 4, none⟩ = false := hfr5 4
     have hf5_5 : wr.frozen? ⟨go5, (x5_1 : Int).toNat * 7 + 5, none⟩ = false := hfr5 5
     have hf5_6 : wr.frozen? ⟨go5, (x5_1 : Int).toNat * 7 + 6, none⟩ = false := hfr5 6
     clear hcl5 hcc5 hfr5 hM5
     replace p5 := eq_true p5
     replace q5 := eq_true q5
     have HX14 := Aside0.mk (show Kd.R k44 44 wr w0.heap.size (fun k_ => (P0_ k_ ∨ w.heap.size ≤ k_)) (.slice (some ⟨go5, 0, none⟩) x0_1.length co13) x0_1 from (rp_ HO_0.out))
     obtain ⟨ce14, hcl14, hM14, hcc14, hfr14⟩ := Kd.R_elem HX14.out z44 (x5_1 : Int) (od_) (by have h_ : (x5_1 : Int) < ((x0_1.length : Int) : Int) := od_; first | exact h_ | (have e_ := (Kd.R_reads' HO_0.out).1; omega) | simpa using h_)
     obtain rfl := k44_openM hM14
     have HP14 := Kd.R_seg HX14.out (x5_1 : Int) (od_) (by have h_ : (x5_1 : Int) < ((x0_1.length : Int) : Int) := od_; first | exact h_ | (have e_ := (Kd.R_reads' HO_0.out).1; omega) | simpa using h_) (seg := [.int .i64 x1_1]) (j := 0) hcl14 hcc14 (show 1 ≤ 7 from by decide) (x' := (⟨x1_1, (rd_T44 x0_1 x5_1).f1, (⟨(rd_T44 x0_1 x5_1).f2.f0, (rd_T44 x0_1 x5_1).f2.f1, (rd_T44 x0_1 x5_1).f2.f2, (rd_T44 x0_1 x5_1).f2.f3, (rd_T44 x0_1 x5_1).f2.f4⟩ : S42)⟩ : S44)) (k44_mkM _ _ _ (⟨x1_1, (rd_T44 x0_1 x5_1).f1, (⟨(rd_T44 x0_1 x5_1).f2.f0, (rd_T44 x0_1 x5_1).f2.f1, (rd_T44 x0_1 x5_1).f2.f2, (rd_T44 x0_1 x5_1).f2.f3, (rd_T44 x0_1 x5_1).f2.f4⟩ : S42)⟩ : S44) ) (fun _ hk => hk)
     have hx14_0 := hcc14 0 _ rfl
     (try simp only [show (k44).sz = 7 from rfl, Nat.mul_one, Nat.add_zero] at hx14_0)
     have hf14_0 := hfr14 0
     (try simp only [show (k44).sz = 7 from rfl, Nat.mul_one, Nat.add_zero] at hf14_0)
     clear hcl14 hcc14 hfr14 hM14
     go_wp2_with (first | ((with_reducible refine gate_store (t := 3) (p := 16) rfl ?_); refine store_event (t := 3) (p := 16) (v := ?vo_w15) (w1 := (wr.setCell ⟨go5, (x5_1 : Int).toNat * 7, none⟩ (.int .i64 x1_1))) ?hg ?ho ?hn ?hr ?_; (case ho => rfl); (case hg => rfl); (case hn => rfl); (case hr => first | (go_simp; done) | (go_simp; rfl)); intro w15 hw; have hg : wr.grownBy w15 (some go5) := (by rw [hw]; exact HP14.2); have hp_ : Kd.R k44 44 w15 w0.heap.size (fun k_ => (P0_ k_ ∨ w.heap.size ≤ k_)) (.slice (some ⟨go5, 0, none⟩) x0_1.length co13) y566 := (by rw [hw, Ny566.out]; exact HP14.1); clear HP14; have n0_ := Aside0.mk (hp_); have n1_ := Aside0.mk ((by rw [hw]; exact below_set (HB.out) GB5.out : Below w0.heap.size w0 w15)); have n2_ := Aside0.mk (Kept.of_grown (S := (fun k_ => P0_ k_)) hg (by repeat (first | (with_reducible first | exact HK.out | apply Kept.alloc | apply Kept.drewN | apply Kept.drew) | exact HK.out)) (fun k_ e_ => (HO_0.out.1 k_ e_))); clear HO_0; clear HB; clear HK; have HO_0 := n0_; have HB := n1_; have HK := n2_; clear n0_ n1_ n2_; clear hg hw hp_; have p6 : 0 ≤ (x5_1 : Int) := od_; have q6 : (x5_1 : Int) < ((x0_1.length : Int) : Int) := od_; obtain ⟨ce6, hcl6, hM6, hcc6, hfr6⟩ := Kd.R_elem HO_0.out z44 (x5_1 : Int) p6 q6; obtain rfl := k44_openM hM6; have hx6_0 : w15.cell? ⟨go5, (x5_1 : Int).toNat * 7, none⟩ = some (.int .i64 ((rd_T44 y566 x5_1).f0)) := hcc6 0 _ rfl; have hx6_1 : w15.cell? ⟨go5, (x5_1 : Int).toNat * 7 + 1, none⟩ = some (.int .i64 ((rd_T44 y566 x5_1).f1)) := hcc6 1 _ rfl; have hx6_2 : w15.cell? ⟨go5, (x5_1 : Int).toNat * 7 + 2, none⟩ = some (.int .i64 ((rd_T44 y566 x5_1).f2.f0)) := hcc6 2 _ rfl; have hx6_3 : w15.cell? ⟨go5, (x5_1 : Int).toNat * 7 + 3, none⟩ = some (.int .i64 ((rd_T44 y566 x5_1).f2.f1)) := hcc6 3 _ rfl; have hx6_4 : w15.cell? ⟨go5, (x5_1 : Int).toNat * 7 + 4, none⟩ = some (.int .i64 ((rd_T44 y566 x5_1).f2.f2)) := hcc6 4 _ rfl; have hx6_5 : w15.cell? ⟨go5, (x5_1 : Int).toNat * 7 + 5, none⟩ = some (.int .i64 ((rd_T44 y566 x5_1).f2.f3)) := hcc6 5 _ rfl; have hx6_6 : w15.cell? ⟨go5, (x5_1 : Int).toNat * 7 + 6, none⟩ = some (.string ((rd_T44 y566 x5_1).f2.f4)) := hcc6 6 _ rfl; have hf6_0 : w15.frozen? ⟨go5, (x5_1 : Int).toNat * 7, none⟩ = false := hfr6 0; have hf6_1 : w15.frozen? ⟨go5, (x5_1 : Int).toNat * 7 + 1, none⟩ = false := hfr6 1; have hf6_2 : w15.frozen? ⟨go5, (x5_1 : Int).toNat * 7 + 2, none⟩ = false := hfr6 2; have hf6_3 : w15.frozen? ⟨go5, (x5_1 : Int).toNat * 7 + 3, none⟩ = false := hfr6 3; have hf6_4 : w15.frozen? ⟨go5, (x5_1 : Int).toNat * 7 + 4, none⟩ = false := hfr6 4; have hf6_5 : w15.frozen? ⟨go5, (x5_1 : Int).toNat * 7 + 5, none⟩ = false := hfr6 5; have hf6_6 : w15.frozen? ⟨go5, (x5_1 : Int).toNat * 7 + 6, none⟩ = false := hfr6 6; clear hcl6 hcc6 hfr6 hM6; replace p6 := eq_true p6; replace q6 := eq_true q6; have HX16 := Aside0.mk (show Kd.R k44 44 w15 w0.heap.size (fun k_ => (P0_ k_ ∨ w.heap.size ≤ k_)) (.slice (some ⟨go5, 0, none⟩) x0_1.length co13) y566 from (rp_ HO_0.out)); obtain ⟨ce16, hcl16, hM16, hcc16, hfr16⟩ := Kd.R_elem HX16.out z44 (x5_1 : Int) (od_) (by have h_ : (x5_1 : Int) < ((x0_1.length : Int) : Int) := od_; first | exact h_ | (have e_ := (Kd.R_reads' HO_0.out).1; omega) | simpa using h_); obtain rfl := k44_openM hM16; have HP16 := Kd.R_seg HX16.out (x5_1 : Int) (od_) (by have h_ : (x5_1 : Int) < ((x0_1.length : Int) : Int) := od_; first | exact h_ | (have e_ := (Kd.R_reads' HO_0.out).1; omega) | simpa using h_) (seg := [.int .i64 (wrap64 (x1_1 + 1))]) (j := 1) hcl16 hcc16 (show 2 ≤ 7 from by decide) (x' := (⟨(rd_T44 y566 x5_1).f0, wrap64 (x1_1 + 1), (⟨(rd_T44 y566 x5_1).f2.f0, (rd_T44 y566 x5_1).f2.f1, (rd_T44 y566 x5_1).f2.f2, (rd_T44 y566 x5_1).f2.f3, (rd_T44 y566 x5_1).f2.f4⟩ : S42)⟩ : S44)) (k44_mkM _ _ _ (⟨(rd_T44 y566 x5_1).f0, wrap64 (x1_1 + 1), (⟨(rd_T44 y566 x5_1).f2.f0, (rd_T44 y566 x5_1).f2.f1, (rd_T44 y566 x5_1).f2.f2, (rd_T44 y566 x5_1).f2.f3, (rd_T44 y566 x5_1).f2.f4⟩ : S42)⟩ : S44) ) (fun _ hk => hk); have hx16_1 := hcc16 1 _ rfl; (try simp only [show (k44).sz = 7 from rfl, Nat.mul_one, Nat.add_zero] at hx16_1); have hf16_1 := hfr16 1; (try simp only [show (k44).sz = 7 from rfl, Nat.mul_one, Nat.add_zero] at hf16_1); clear hcl16 hcc16 hfr16 hM16) | ((with_reducible refine gate_store (t := 3) (p := 23) rfl ?_); refine store_event (t := 3) (p := 23) (v := ?vo_w17) (w1 := (w15.setCell ⟨go5, (x5_1 : Int).toNat * 7 + 1, none⟩ (.int .i64 (wrap64 (x1_1 + 1))))) ?hg ?ho ?hn ?hr ?_; (case ho => rfl); (case hg => rfl); (case hn => rfl); (case hr => first | (go_simp; done) | (go_simp; rfl)); intro w17 hw; have hg : w15.grownBy w17 (some go5) := (by rw [hw]; exact HP16.2); have hp_ : Kd.R k44 44 w17 w0.heap.size (fun k_ => (P0_ k_ ∨ w.heap.size ≤ k_)) (.slice (some ⟨go5, 0, none⟩) x0_1.length co13) y567 := (by rw [hw, Ny567.out]; exact HP16.1); clear HP16; have n0_ := Aside0.mk (hp_); have n1_ := Aside0.mk ((by rw [hw]; exact below_set (HB.out) GB5.out : Below w0.heap.size w0 w17)); have n2_ := Aside0.mk (Kept.of_grown (S := (fun k_ => P0_ k_)) hg (by repeat (first | (with_reducible first | exact HK.out | apply Kept.alloc | apply Kept.drewN | apply Kept.drew) | exact HK.out)) (fun k_ e_ => (HO_0.out.1 k_ e_))); clear HO_0; clear HB; clear HK; have HO_0 := n0_; have HB := n1_; have HK := n2_; clear n0_ n1_ n2_; clear hg hw hp_; have p7 : 0 ≤ (x5_1 : Int) := od_; have q7 : (x5_1 : Int) < ((x0_1.length : Int) : Int) := od_; obtain ⟨ce7, hcl7, hM7, hcc7, hfr7⟩ := Kd.R_elem HO_0.out z44 (x5_1 : Int) p7 q7; obtain rfl := k44_openM hM7; have hx7_0 : w17.cell? ⟨go5, (x5_1 : Int).toNat * 7, none⟩ = some (.int .i64 ((rd_T44 y567 x5_1).f0)) := hcc7 0 _ rfl; have hx7_1 : w17.cell? ⟨go5, (x5_1 : Int).toNat * 7 + 1, none⟩ = some (.int .i64 ((rd_T44 y567 x5_1).f1)) := hcc7 1 _ rfl; have hx7_2 : w17.cell? ⟨go5, (x5_1 : Int).toNat * 7 + 2, none⟩ = some (.int .i64 ((rd_T44 y567 x5_1).f2.f0)) := hcc7 2 _ rfl; have hx7_3 : w17.cell? ⟨go5, (x5_1 : Int).toNat * 7 + 3, none⟩ = some (.int .i64 ((rd_T44 y567 x5_1).f2.f1)) := hcc7 3 _ rfl; have hx7_4 : w17.cell? ⟨go5, (x5_1 : Int).toNat * 7 + 4, none⟩ = some (.int .i64 ((rd_T44 y567 x5_1).f2.f2)) := hcc7 4 _ rfl; have hx7_5 : w17.cell? ⟨go5, (x5_1 : Int).toNat * 7 + 5, none⟩ = some (.int .i64 ((rd_T44 y567 x5_1).f2.f3)) := hcc7 5 _ rfl; have hx7_6 : w17.cell? ⟨go5, (x5_1 : Int).toNat * 7 + 6, none⟩ = some (.string ((rd_T44 y567 x5_1).f2.f4)) := hcc7 6 _ rfl; have hf7_0 : w17.frozen? ⟨go5, (x5_1 : Int).toNat * 7, none⟩ = false := hfr7 0; have hf7_1 : w17.frozen? ⟨go5, (x5_1 : Int).toNat * 7 + 1, none⟩ = false := hfr7 1; have hf7_2 : w17.frozen? ⟨go5, (x5_1 : Int).toNat * 7 + 2, none⟩ = false := hfr7 2; have hf7_3 : w17.frozen? ⟨go5, (x5_1 : Int).toNat * 7 + 3, none⟩ = false := hfr7 3; have hf7_4 : w17.frozen? ⟨go5, (x5_1 : Int).toNat * 7 + 4, none⟩ = false := hfr7 4; have hf7_5 : w17.frozen? ⟨go5, (x5_1 : Int).toNat * 7 + 5, none⟩ = false := hfr7 5; have hf7_6 : w17.frozen? ⟨go5, (x5_1 : Int).toNat * 7 + 6, none⟩ = false := hfr7 6; clear hcl7 hcc7 hfr7 hM7; replace p7 := eq_true p7; replace q7 := eq_true q7; have HX18 := Aside0.mk (show Kd.R k44 44 w17 w0.heap.size (fun k_ => (P0_ k_ ∨ w.heap.size ≤ k_)) (.slice (some ⟨go5, 0, none⟩) x0_1.length co13) y567 from (rp_ HO_0.out)); obtain ⟨ce18, hcl18, hM18, hcc18, hfr18⟩ := Kd.R_elem HX18.out z44 (x5_1 : Int) (od_) (by have h_ : (x5_1 : Int) < ((x0_1.length : Int) : Int) := od_; first | exact h_ | (have e_ := (Kd.R_reads' HO_0.out).1; omega) | simpa using h_); obtain rfl := k44_openM hM18; have HP18 := Kd.R_seg HX18.out (x5_1 : Int) (od_) (by have h_ : (x5_1 : Int) < ((x0_1.length : Int) : Int) := od_; first | exact h_ | (have e_ := (Kd.R_reads' HO_0.out).1; omega) | simpa using h_) (seg := [.int .i64 (wrap64 ((wrap64 (x1_1 + 1)) + 1))]) (j := 2) hcl18 hcc18 (show 3 ≤ 7 from by decide) (x' := (⟨(rd_T44 y567 x5_1).f0, (rd_T44 y567 x5_1).f1, (⟨wrap64 ((wrap64 (x1_1 + 1)) + 1), (rd_T44 y567 x5_1).f2.f1, (rd_T44 y567 x5_1).f2.f2, (rd_T44 y567 x5_1).f2.f3, (rd_T44 y567 x5_1).f2.f4⟩ : S42)⟩ : S44)) (k44_mkM _ _ _ (⟨(rd_T44 y567 x5_1).f0, (rd_T44 y567 x5_1).f1, (⟨wrap64 ((wrap64 (x1_1 + 1)) + 1), (rd_T44 y567 x5_1).f2.f1, (rd_T44 y567 x5_1).f2.f2, (rd_T44 y567 x5_1).f2.f3, (rd_T44 y567 x5_1).f2.f4⟩ : S42)⟩ : S44) ) (fun _ hk => hk); have hx18_2 := hcc18 2 _ rfl; (try simp only [show (k44).sz = 7 from rfl, Nat.mul_one, Nat.add_zero] at hx18_2); have hf18_2 := hfr18 2; (try simp only [show (k44).sz = 7 from rfl, Nat.mul_one, Nat.add_zero] at hf18_2); clear hcl18 hcc18 hfr18 hM18) | ((with_reducible refine gate_store (t := 3) (p := 31) rfl ?_); refine store_event (t := 3) (p := 31) (v := ?vo_w19) (w1 := (w17.setCell ⟨go5, (x5_1 : Int).toNat * 7 + 2, none⟩ (.int .i64 (wrap64 ((wrap64 (x1_1 + 1)) + 1))))) ?hg ?ho ?hn ?hr ?_; (case ho => rfl); (case hg => rfl); (case hn => rfl); (case hr => first | (go_simp; done) | (go_simp; rfl)); intro w19 hw; have hg : w17.grownBy w19 (some go5) := (by rw [hw]; exact HP18.2); have hp_ : Kd.R k44 44 w19 w0.heap.size (fun k_ => (P0_ k_ ∨ w.heap.size ≤ k_)) (.slice (some ⟨go5, 0, none⟩) x0_1.length co13) y568 := (by rw [hw, Ny568.out]; exact HP18.1); clear HP18; have n0_ := Aside0.mk (hp_); have n1_ := Aside0.mk ((by rw [hw]; exact below_set (HB.out) GB5.out : Below w0.heap.size w0 w19)); have n2_ := Aside0.mk (Kept.of_grown (S := (fun k_ => P0_ k_)) hg (by repeat (first | (with_reducible first | exact HK.out | apply Kept.alloc | apply Kept.drewN | apply Kept.drew) | exact HK.out)) (fun k_ e_ => (HO_0.out.1 k_ e_))); clear HO_0; clear HB; clear HK; have HO_0 := n0_; have HB := n1_; have HK := n2_; clear n0_ n1_ n2_; clear hg hw hp_; have p8 : 0 ≤ (x5_1 : Int) := od_; have q8 : (x5_1 : Int) < ((x0_1.length : Int) : Int) := od_; obtain ⟨ce8, hcl8, hM8, hcc8, hfr8⟩ := Kd.R_elem HO_0.out z44 (x5_1 : Int) p8 q8; obtain rfl := k44_openM hM8; have hx8_0 : w19.cell? ⟨go5, (x5_1 : Int).toNat * 7, none⟩ = some (.int .i64 ((rd_T44 y568 x5_1).f0)) := hcc8 0 _ rfl; have hx8_1 : w19.cell? ⟨go5, (x5_1 : Int).toNat * 7 + 1, none⟩ = some (.int .i64 ((rd_T44 y568 x5_1).f1)) := hcc8 1 _ rfl; have hx8_2 : w19.cell? ⟨go5, (x5_1 : Int).toNat * 7 + 2, none⟩ = some (.int .i64 ((rd_T44 y568 x5_1).f2.f0)) := hcc8 2 _ rfl; have hx8_3 : w19.cell? ⟨go5, (x5_1 : Int).toNat * 7 + 3, none⟩ = some (.int .i64 ((rd_T44 y568 x5_1).f2.f1)) := hcc8 3 _ rfl; have hx8_4 : w19.cell? ⟨go5, (x5_1 : Int).toNat * 7 + 4, none⟩ = some (.int .i64 ((rd_T44 y568 x5_1).f2.f2)) := hcc8 4 _ rfl; have hx8_5 : w19.cell? ⟨go5, (x5_1 : Int).toNat * 7 + 5, none⟩ = some (.int .i64 ((rd_T44 y568 x5_1).f2.f3)) := hcc8 5 _ rfl; have hx8_6 : w19.cell? ⟨go5, (x5_1 : Int).toNat * 7 + 6, none⟩ = some (.string ((rd_T44 y568 x5_1).f2.f4)) := hcc8 6 _ rfl; have hf8_0 : w19.frozen? ⟨go5, (x5_1 : Int).toNat * 7, none⟩ = false := hfr8 0; have hf8_1 : w19.frozen? ⟨go5, (x5_1 : Int).toNat * 7 + 1, none⟩ = false := hfr8 1; have hf8_2 : w19.frozen? ⟨go5, (x5_1 : Int).toNat * 7 + 2, none⟩ = false := hfr8 2; have hf8_3 : w19.frozen? ⟨go5, (x5_1 : Int).toNat * 7 + 3, none⟩ = false := hfr8 3; have hf8_4 : w19.frozen? ⟨go5, (x5_1 : Int).toNat * 7 + 4, none⟩ = false := hfr8 4; have hf8_5 : w19.frozen? ⟨go5, (x5_1 : Int).toNat * 7 + 5, none⟩ = false := hfr8 5; have hf8_6 : w19.frozen? ⟨go5, (x5_1 : Int).toNat * 7 + 6, none⟩ = false := hfr8 6; clear hcl8 hcc8 hfr8 hM8; replace p8 := eq_true p8; replace q8 := eq_true q8; have HX20 := Aside0.mk (show Kd.R k44 44 w19 w0.heap.size (fun k_ => (P0_ k_ ∨ w.heap.size ≤ k_)) (.slice (some ⟨go5, 0, none⟩) x0_1.length co13) y568 from (rp_ HO_0.out)); obtain ⟨ce20, hcl20, hM20, hcc20, hfr20⟩ := Kd.R_elem HX20.out z44 (x5_1 : Int) (od_) (by have h_ : (x5_1 : Int) < ((x0_1.length : Int) : Int) := od_; first | exact h_ | (have e_ := (Kd.R_reads' HO_0.out).1; omega) | simpa using h_); obtain rfl := k44_openM hM20; have HP20 := Kd.R_seg HX20.out (x5_1 : Int) (od_) (by have h_ : (x5_1 : Int) < ((x0_1.length : Int) : Int) := od_; first | exact h_ | (have e_ := (Kd.R_reads' HO_0.out).1; omega) | simpa using h_) (seg := [.int .i64 (wrap64 ((wrap64 ((wrap64 (x1_1 + 1)) + 1)) + 1))]) (j := 3) hcl20 hcc20 (show 4 ≤ 7 from by decide) (x' := (⟨(rd_T44 y568 x5_1).f0, (rd_T44 y568 x5_1).f1, (⟨(rd_T44 y568 x5_1).f2.f0, wrap64 ((wrap64 ((wrap64 (x1_1 + 1)) + 1)) + 1), (rd_T44 y568 x5_1).f2.f2, (rd_T44 y568 x5_1).f2.f3, (rd_T44 y568 x5_1).f2.f4⟩ : S42)⟩ : S44)) (k44_mkM _ _ _ (⟨(rd_T44 y568 x5_1).f0, (rd_T44 y568 x5_1).f1, (⟨(rd_T44 y568 x5_1).f2.f0, wrap64 ((wrap64 ((wrap64 (x1_1 + 1)) + 1)) + 1), (rd_T44 y568 x5_1).f2.f2, (rd_T44 y568 x5_1).f2.f3, (rd_T44 y568 x5_1).f2.f4⟩ : S42)⟩ : S44) ) (fun _ hk => hk); have hx20_3 := hcc20 3 _ rfl; (try simp only [show (k44).sz = 7 from rfl, Nat.mul_one, Nat.add_zero] at hx20_3); have hf20_3 := hfr20 3; (try simp only [show (k44).sz = 7 from rfl, Nat.mul_one, Nat.add_zero] at hf20_3); clear hcl20 hcc20 hfr20 hM20) | ((with_reducible refine gate_store (t := 3) (p := 39) rfl ?_); refine store_event (t := 3) (p := 39) (v := ?vo_w21) (w1 := (w19.setCell ⟨go5, (x5_1 : Int).toNat * 7 + 3, none⟩ (.int .i64 (wrap64 ((wrap64 ((wrap64 (x1_1 + 1)) + 1)) + 1))))) ?hg ?ho ?hn ?hr ?_; (case ho => rfl); (case hg => rfl); (case hn => rfl); (case hr => first | (go_simp; done) | (go_simp; rfl)); intro w21 hw; have hg : w19.grownBy w21 (some go5) := (by rw [hw]; exact HP20.2); have hp_ : Kd.R k44 44 w21 w0.heap.size (fun k_ => (P0_ k_ ∨ w.heap.size ≤ k_)) (.slice (some ⟨go5, 0, none⟩) x0_1.length co13) y569 := (by rw [hw, Ny569.out]; exact HP20.1); clear HP20; have n0_ := Aside0.mk (hp_); have n1_ := Aside0.mk ((by rw [hw]; exact below_set (HB.out) GB5.out : Below w0.heap.size w0 w21)); have n2_ := Aside0.mk (Kept.of_grown (S := (fun k_ => P0_ k_)) hg (by repeat (first | (with_reducible first | exact HK.out | apply Kept.alloc | apply Kept.drewN | apply Kept.drew) | exact HK.out)) (fun k_ e_ => (HO_0.out.1 k_ e_))); clear HO_0; clear HB; clear HK; have HO_0 := n0_; have HB := n1_; have HK := n2_; clear n0_ n1_ n2_; clear hg hw hp_; have p9 : 0 ≤ (x5_1 : Int) := od_; have q9 : (x5_1 : Int) < ((x0_1.length : Int) : Int) := od_; obtain ⟨ce9, hcl9, hM9, hcc9, hfr9⟩ := Kd.R_elem HO_0.out z44 (x5_1 : Int) p9 q9; obtain rfl := k44_openM hM9; have hx9_0 : w21.cell? ⟨go5, (x5_1 : Int).toNat * 7, none⟩ = some (.int .i64 ((rd_T44 y569 x5_1).f0)) := hcc9 0 _ rfl; have hx9_1 : w21.cell? ⟨go5, (x5_1 : Int).toNat * 7 + 1, none⟩ = some (.int .i64 ((rd_T44 y569 x5_1).f1)) := hcc9 1 _ rfl; have hx9_2 : w21.cell? ⟨go5, (x5_1 : Int).toNat * 7 + 2, none⟩ = some (.int .i64 ((rd_T44 y569 x5_1).f2.f0)) := hcc9 2 _ rfl; have hx9_3 : w21.cell? ⟨go5, (x5_1 : Int).toNat * 7 + 3, none⟩ = some (.int .i64 ((rd_T44 y569 x5_1).f2.f1)) := hcc9 3 _ rfl; have hx9_4 : w21.cell? ⟨go5, (x5_1 : Int).toNat * 7 + 4, none⟩ = some (.int .i64 ((rd_T44 y569 x5_1).f2.f2)) := hcc9 4 _ rfl; have hx9_5 : w21.cell? ⟨go5, (x5_1 : Int).toNat * 7 + 5, none⟩ = some (.int .i64 ((rd_T44 y569 x5_1).f2.f3)) := hcc9 5 _ rfl; have hx9_6 : w21.cell? ⟨go5, (x5_1 : Int).toNat * 7 + 6, none⟩ = some (.string ((rd_T44 y569 x5_1).f2.f4)) := hcc9 6 _ rfl; have hf9_0 : w21.frozen? ⟨go5, (x5_1 : Int).toNat * 7, none⟩ = false := hfr9 0; have hf9_1 : w21.frozen? ⟨go5, (x5_1 : Int).toNat * 7 + 1, none⟩ = false := hfr9 1; have hf9_2 : w21.frozen? ⟨go5, (x5_1 : Int).toNat * 7 + 2, none⟩ = false := hfr9 2; have hf9_3 : w21.frozen? ⟨go5, (x5_1 : Int).toNat * 7 + 3, none⟩ = false := hfr9 3; have hf9_4 : w21.frozen? ⟨go5, (x5_1 : Int).toNat * 7 + 4, none⟩ = false := hfr9 4; have hf9_5 : w21.frozen? ⟨go5, (x5_1 : Int).toNat * 7 + 5, none⟩ = false := hfr9 5; have hf9_6 : w21.frozen? ⟨go5, (x5_1 : Int).toNat * 7 + 6, none⟩ = false := hfr9 6; clear hcl9 hcc9 hfr9 hM9; replace p9 := eq_true p9; replace q9 := eq_true q9; have HX22 := Aside0.mk (show Kd.R k44 44 w21 w0.heap.size (fun k_ => (P0_ k_ ∨ w.heap.size ≤ k_)) (.slice (some ⟨go5, 0, none⟩) x0_1.length co13) y569 from (rp_ HO_0.out)); obtain ⟨ce22, hcl22, hM22, hcc22, hfr22⟩ := Kd.R_elem HX22.out z44 (x5_1 : Int) (od_) (by have h_ : (x5_1 : Int) < ((x0_1.length : Int) : Int) := od_; first | exact h_ | (have e_ := (Kd.R_reads' HO_0.out).1; omega) | simpa using h_); obtain rfl := k44_openM hM22; have HP22 := Kd.R_seg HX22.out (x5_1 : Int) (od_) (by have h_ : (x5_1 : Int) < ((x0_1.length : Int) : Int) := od_; first | exact h_ | (have e_ := (Kd.R_reads' HO_0.out).1; omega) | simpa using h_) (seg := [.int .i64 (wrap64 ((wrap64 ((wrap64 ((wrap64 (x1_1 + 1)) + 1)) + 1)) + 1))]) (j := 4) hcl22 hcc22 (show 5 ≤ 7 from by decide) (x' := (⟨(rd_T44 y569 x5_1).f0, (rd_T44 y569 x5_1).f1, (⟨(rd_T44 y569 x5_1).f2.f0, (rd_T44 y569 x5_1).f2.f1, wrap64 ((wrap64 ((wrap64 ((wrap64 (x1_1 + 1)) + 1)) + 1)) + 1), (rd_T44 y569 x5_1).f2.f3, (rd_T44 y569 x5_1).f2.f4⟩ : S42)⟩ : S44)) (k44_mkM _ _ _ (⟨(rd_T44 y569 x5_1).f0, (rd_T44 y569 x5_1).f1, (⟨(rd_T44 y569 x5_1).f2.f0, (rd_T44 y569 x5_1).f2.f1, wrap64 ((wrap64 ((wrap64 ((wrap64 (x1_1 + 1)) + 1)) + 1)) + 1), (rd_T44 y569 x5_1).f2.f3, (rd_T44 y569 x5_1).f2.f4⟩ : S42)⟩ : S44) ) (fun _ hk => hk); have hx22_4 := hcc22 4 _ rfl; (try simp only [show (k44).sz = 7 from rfl, Nat.mul_one, Nat.add_zero] at hx22_4); have hf22_4 := hfr22 4; (try simp only [show (k44).sz = 7 from rfl, Nat.mul_one, Nat.add_zero] at hf22_4); clear hcl22 hcc22 hfr22 hM22) | ((with_reducible refine gate_store (t := 3) (p := 47) rfl ?_); refine store_event (t := 3) (p := 47) (v := ?vo_w23) (w1 := (w21.setCell ⟨go5, (x5_1 : Int).toNat * 7 + 4, none⟩ (.int .i64 (wrap64 ((wrap64 ((wrap64 ((wrap64 (x1_1 + 1)) + 1)) + 1)) + 1))))) ?hg ?ho ?hn ?hr ?_; (case ho => rfl); (case hg => rfl); (case hn => rfl); (case hr => first | (go_simp; done) | (go_simp; rfl)); intro w23 hw; have hg : w21.grownBy w23 (some go5) := (by rw [hw]; exact HP22.2); have hp_ : Kd.R k44 44 w23 w0.heap.size (fun k_ => (P0_ k_ ∨ w.heap.size ≤ k_)) (.slice (some ⟨go5, 0, none⟩) x0_1.length co13) y570 := (by rw [hw, Ny570.out]; exact HP22.1); clear HP22; have n0_ := Aside0.mk (hp_); have n1_ := Aside0.mk ((by rw [hw]; exact below_set (HB.out) GB5.out : Below w0.heap.size w0 w23)); have n2_ := Aside0.mk (Kept.of_grown (S := (fun k_ => P0_ k_)) hg (by repeat (first | (with_reducible first | exact HK.out | apply Kept.alloc | apply Kept.drewN | apply Kept.drew) | exact HK.out)) (fun k_ e_ => (HO_0.out.1 k_ e_))); clear HO_0; clear HB; clear HK; have HO_0 := n0_; have HB := n1_; have HK := n2_; clear n0_ n1_ n2_; clear hg hw hp_; have p10 : 0 ≤ (x5_1 : Int) := od_; have q10 : (x5_1 : Int) < ((x0_1.length : Int) : Int) := od_; obtain ⟨ce10, hcl10, hM10, hcc10, hfr10⟩ := Kd.R_elem HO_0.out z44 (x5_1 : Int) p10 q10; obtain rfl := k44_openM hM10; have hx10_0 : w23.cell? ⟨go5, (x5_1 : Int).toNat * 7, none⟩ = some (.int .i64 ((rd_T44 y570 x5_1).f0)) := hcc10 0 _ rfl; have hx10_1 : w23.cell? ⟨go5, (x5_1 : Int).toNat * 7 + 1, none⟩ = some (.int .i64 ((rd_T44 y570 x5_1).f1)) := hcc10 1 _ rfl; have hx10_2 : w23.cell? ⟨go5, (x5_1 : Int).toNat * 7 + 2, none⟩ = some (.int .i64 ((rd_T44 y570 x5_1).f2.f0)) := hcc10 2 _ rfl; have hx10_3 : w23.cell? ⟨go5, (x5_1 : Int).toNat * 7 + 3, none⟩ = some (.int .i64 ((rd_T44 y570 x5_1).f2.f1)) := hcc10 3 _ rfl; have hx10_4 : w23.cell? ⟨go5, (x5_1 : Int).toNat * 7 + 4, none⟩ = some (.int .i64 ((rd_T44 y570 x5_1).f2.f2)) := hcc10 4 _ rfl; have hx10_5 : w23.cell? ⟨go5, (x5_1 : Int).toNat * 7 + 5, none⟩ = some (.int .i64 ((rd_T44 y570 x5_1).f2.f3)) := hcc10 5 _ rfl; have hx10_6 : w23.cell? ⟨go5, (x5_1 : Int).toNat * 7 + 6, none⟩ = some (.string ((rd_T44 y570 x5_1).f2.f4)) := hcc10 6 _ rfl; have hf10_0 : w23.frozen? ⟨go5, (x5_1 : Int).toNat * 7, none⟩ = false := hfr10 0; have hf10_1 : w23.frozen? ⟨go5, (x5_1 : Int).toNat * 7 + 1, none⟩ = false := hfr10 1; have hf10_2 : w23.frozen? ⟨go5, (x5_1 : Int).toNat * 7 + 2, none⟩ = false := hfr10 2; have hf10_3 : w23.frozen? ⟨go5, (x5_1 : Int).toNat * 7 + 3, none⟩ = false := hfr10 3; have hf10_4 : w23.frozen? ⟨go5, (x5_1 : Int).toNat * 7 + 4, none⟩ = false := hfr10 4; have hf10_5 : w23.frozen? ⟨go5, (x5_1 : Int).toNat * 7 + 5, none⟩ = false := hfr10 5; have hf10_6 : w23.frozen? ⟨go5, (x5_1 : Int).toNat * 7 + 6, none⟩ = false := hfr10 6; clear hcl10 hcc10 hfr10 hM10; replace p10 := eq_true p10; replace q10 := eq_true q10; have HX24 := Aside0.mk (show Kd.R k44 44 w23 w0.heap.size (fun k_ => (P0_ k_ ∨ w.heap.size ≤ k_)) (.slice (some ⟨go5, 0, none⟩) x0_1.length co13) y570 from (rp_ HO_0.out)); obtain ⟨ce24, hcl24, hM24, hcc24, hfr24⟩ := Kd.R_elem HX24.out z44 (x5_1 : Int) (od_) (by have h_ : (x5_1 : Int) < ((x0_1.length : Int) : Int) := od_; first | exact h_ | (have e_ := (Kd.R_reads' HO_0.out).1; omega) | simpa using h_); obtain rfl := k44_openM hM24; have HP24 := Kd.R_seg HX24.out (x5_1 : Int) (od_) (by have h_ : (x5_1 : Int) < ((x0_1.length : Int) : Int) := od_; first | exact h_ | (have e_ := (Kd.R_reads' HO_0.out).1; omega) | simpa using h_) (seg := [.int .i64 (wrap64 ((wrap64 ((wrap64 ((wrap64 ((wrap64 (x1_1 + 1)) + 1)) + 1)) + 1)) + 1))]) (j := 5) hcl24 hcc24 (show 6 ≤ 7 from by decide) (x' := (⟨(rd_T44 y570 x5_1).f0, (rd_T44 y570 x5_1).f1, (⟨(rd_T44 y570 x5_1).f2.f0, (rd_T44 y570 x5_1).f2.f1, (rd_T44 y570 x5_1).f2.f2, wrap64 ((wrap64 ((wrap64 ((wrap64 ((wrap64 (x1_1 + 1)) + 1)) + 1)) + 1)) + 1), (rd_T44 y570 x5_1).f2.f4⟩ : S42)⟩ : S44)) (k44_mkM _ _ _ (⟨(rd_T44 y570 x5_1).f0, (rd_T44 y570 x5_1).f1, (⟨(rd_T44 y570 x5_1).f2.f0, (rd_T44 y570 x5_1).f2.f1, (rd_T44 y570 x5_1).f2.f2, wrap64 ((wrap64 ((wrap64 ((wrap64 ((wrap64 (x1_1 + 1)) + 1)) + 1)) + 1)) + 1), (rd_T44 y570 x5_1).f2.f4⟩ : S42)⟩ : S44) ) (fun _ hk => hk); have hx24_5 := hcc24 5 _ rfl; (try simp only [show (k44).sz = 7 from rfl, Nat.mul_one, Nat.add_zero] at hx24_5); have hf24_5 := hfr24 5; (try simp only [show (k44).sz = 7 from rfl, Nat.mul_one, Nat.add_zero] at hf24_5); clear hcl24 hcc24 hfr24 hM24) | ((with_reducible refine gate_store (t := 3) (p := 55) rfl ?_); refine store_event (t := 3) (p := 55) (v := ?vo_w25) (w1 := (w23.setCell ⟨go5, (x5_1 : Int).toNat * 7 + 5, none⟩ (.int .i64 (wrap64 ((wrap64 ((wrap64 ((wrap64 ((wrap64 (x1_1 + 1)) + 1)) + 1)) + 1)) + 1))))) ?hg ?ho ?hn ?hr ?_; (case ho => rfl); (case hg => rfl); (case hn => rfl); (case hr => first | (go_simp; done) | (go_simp; rfl)); intro w25 hw; have hg : w23.grownBy w25 (some go5) := (by rw [hw]; exact HP24.2); have hp_ : Kd.R k44 44 w25 w0.heap.size (fun k_ => (P0_ k_ ∨ w.heap.size ≤ k_)) (.slice (some ⟨go5, 0, none⟩) x0_1.length co13) y571 := (by rw [hw, Ny571.out]; exact HP24.1); clear HP24; have n0_ := Aside0.mk (hp_); have n1_ := Aside0.mk ((by rw [hw]; exact below_set (HB.out) GB5.out : Below w0.heap.size w0 w25)); have n2_ := Aside0.mk (Kept.of_grown (S := (fun k_ => P0_ k_)) hg (by repeat (first | (with_reducible first | exact HK.out | apply Kept.alloc | apply Kept.drewN | apply Kept.drew) | exact HK.out)) (fun k_ e_ => (HO_0.out.1 k_ e_))); clear HO_0; clear HB; clear HK; have HO_0 := n0_; have HB := n1_; have HK := n2_; clear n0_ n1_ n2_; clear hg hw hp_) | ((with_reducible refine gate_callee (f := 103) rfl ?_); refine gl_ 61 Tryd.func103 #[.int .i64 (wrap64 ((wrap64 ((wrap64 ((wrap64 ((wrap64 ((wrap64 (x1_1 + 1)) + 1)) + 1)) + 1)) + 1)) + 1))] ?_; (with_reducible refine (laws_markText.calls k1 (wrap64 ((wrap64 ((wrap64 ((wrap64 ((wrap64 ((wrap64 (x1_1 + 1)) + 1)) + 1)) + 1)) + 1)) + 1)) t572 _ A11.out).mono ?_); rintro e w26 ⟨rfl, hb⟩; refine ⟨_, rfl, ?_⟩; replace HO_0 := Aside0.mk (Kd.R_below (rp_ HO_0.out) hb); replace HK := Aside0.mk (Kept.below (S := (fun k_ => P0_ k_)) (by repeat (first | (with_reducible first | exact HK.out | apply Kept.alloc | apply Kept.drewN | apply Kept.drew) | exact HK.out)) hb); replace HB := Aside0.mk (below_step (bel_) hb); (try clear hb); have p12 : 0 ≤ (x5_1 : Int) := od_; have q12 : (x5_1 : Int) < ((x0_1.length : Int) : Int) := od_; obtain ⟨ce12, hcl12, hM12, hcc12, hfr12⟩ := Kd.R_elem HO_0.out z44 (x5_1 : Int) p12 q12; obtain rfl := k44_openM hM12; have hx12_0 : w26.cell? ⟨go5, (x5_1 : Int).toNat * 7, none⟩ = some (.int .i64 ((rd_T44 y571 x5_1).f0)) := hcc12 0 _ rfl; have hx12_1 : w26.cell? ⟨go5, (x5_1 : Int).toNat * 7 + 1, none⟩ = some (.int .i64 ((rd_T44 y571 x5_1).f1)) := hcc12 1 _ rfl; have hx12_2 : w26.cell? ⟨go5, (x5_1 : Int).toNat * 7 + 2, none⟩ = some (.int .i64 ((rd_T44 y571 x5_1).f2.f0)) := hcc12 2 _ rfl; have hx12_3 : w26.cell? ⟨go5, (x5_1 : Int).toNat * 7 + 3, none⟩ = some (.int .i64 ((rd_T44 y571 x5_1).f2.f1)) := hcc12 3 _ rfl; have hx12_4 : w26.cell? ⟨go5, (x5_1 : Int).toNat * 7 + 4, none⟩ = some (.int .i64 ((rd_T44 y571 x5_1).f2.f2)) := hcc12 4 _ rfl; have hx12_5 : w26.cell? ⟨go5, (x5_1 : Int).toNat * 7 + 5, none⟩ = some (.int .i64 ((rd_T44 y571 x5_1).f2.f3)) := hcc12 5 _ rfl; have hx12_6 : w26.cell? ⟨go5, (x5_1 : Int).toNat * 7 + 6, none⟩ = some (.string ((rd_T44 y571 x5_1).f2.f4)) := hcc12 6 _ rfl; have hf12_0 : w26.frozen? ⟨go5, (x5_1 : Int).toNat * 7, none⟩ = false := hfr12 0; have hf12_1 : w26.frozen? ⟨go5, (x5_1 : Int).toNat * 7 + 1, none⟩ = false := hfr12 1; have hf12_2 : w26.frozen? ⟨go5, (x5_1 : Int).toNat * 7 + 2, none⟩ = false := hfr12 2; have hf12_3 : w26.frozen? ⟨go5, (x5_1 : Int).toNat * 7 + 3, none⟩ = false := hfr12 3; have hf12_4 : w26.frozen? ⟨go5, (x5_1 : Int).toNat * 7 + 4, none⟩ = false := hfr12 4; have hf12_5 : w26.frozen? ⟨go5, (x5_1 : Int).toNat * 7 + 5, none⟩ = false := hfr12 5; have hf12_6 : w26.frozen? ⟨go5, (x5_1 : Int).toNat * 7 + 6, none⟩ = false := hfr12 6; clear hcl12 hcc12 hfr12 hM12; replace p12 := eq_true p12; replace q12 := eq_true q12; have HX27 := Aside0.mk (show Kd.R k44 44 w26 w0.heap.size (fun k_ => (P0_ k_ ∨ w.heap.size ≤ k_)) (.slice (some ⟨go5, 0, none⟩) x0_1.length co13) y571 from (rp_ HO_0.out)); obtain ⟨ce27, hcl27, hM27, hcc27, hfr27⟩ := Kd.R_elem HX27.out z44 (x5_1 : Int) (od_) (by have h_ : (x5_1 : Int) < ((x0_1.length : Int) : Int) := od_; first | exact h_ | (have e_ := (Kd.R_reads' HO_0.out).1; omega) | simpa using h_); obtain rfl := k44_openM hM27; have HP27 := Kd.R_seg HX27.out (x5_1 : Int) (od_) (by have h_ : (x5_1 : Int) < ((x0_1.length : Int) : Int) := od_; first | exact h_ | (have e_ := (Kd.R_reads' HO_0.out).1; omega) | simpa using h_) (seg := [.string t572]) (j := 6) hcl27 hcc27 (show 7 ≤ 7 from by decide) (x' := (⟨(rd_T44 y571 x5_1).f0, (rd_T44 y571 x5_1).f1, (⟨(rd_T44 y571 x5_1).f2.f0, (rd_T44 y571 x5_1).f2.f1, (rd_T44 y571 x5_1).f2.f2, (rd_T44 y571 x5_1).f2.f3, t572⟩ : S42)⟩ : S44)) (k44_mkM _ _ _ (⟨(rd_T44 y571 x5_1).f0, (rd_T44 y571 x5_1).f1, (⟨(rd_T44 y571 x5_1).f2.f0, (rd_T44 y571 x5_1).f2.f1, (rd_T44 y571 x5_1).f2.f2, (rd_T44 y571 x5_1).f2.f3, t572⟩ : S42)⟩ : S44) ) (fun _ hk => hk); have hx27_6 := hcc27 6 _ rfl; (try simp only [show (k44).sz = 7 from rfl, Nat.mul_one, Nat.add_zero] at hx27_6); have hf27_6 := hfr27 6; (try simp only [show (k44).sz = 7 from rfl, Nat.mul_one, Nat.add_zero] at hf27_6); clear hcl27 hcc27 hfr27 hM27) | ((with_reducible refine gate_store (t := 9) (p := 64) rfl ?_); refine store_event (t := 9) (p := 64) (v := ?vo_w28) (w1 := (w26.setCell ⟨go5, (x5_1 : Int).toNat * 7 + 6, none⟩ (.string t572))) ?hg ?ho ?hn ?hr ?_; (case ho => rfl); (case hg => rfl); (case hn => rfl); (case hr => first | (go_simp; done) | (go_simp; rfl)); intro w28 hw; have hg : w26.grownBy w28 (some go5) := (by rw [hw]; exact HP27.2); have hp_ : Kd.R k44 44 w28 w0.heap.size (fun k_ => (P0_ k_ ∨ w.heap.size ≤ k_)) (.slice (some ⟨go5, 0, none⟩) x0_1.length co13) y573 := (by rw [hw, Ny573.out]; exact HP27.1); clear HP27; have n0_ := Aside0.mk (hp_); have n1_ := Aside0.mk ((by rw [hw]; exact below_set (HB.out) GB5.out : Below w0.heap.size w0 w28)); have n2_ := Aside0.mk (Kept.of_grown (S := (fun k_ => P0_ k_)) hg (by repeat (first | (with_reducible first | exact HK.out | apply Kept.alloc | apply Kept.drewN | apply Kept.drew) | exact HK.out)) (fun k_ e_ => (HO_0.out.1 k_ e_))); clear HO_0; clear HB; clear HK; have HO_0 := n0_; have HB := n1_; have HK := n2_; clear n0_ n1_ n2_; clear hg hw hp_))
     go_roundg k1
     case measure => have := HK1.out; omega
     case rel => exact ⟨(y573), (wrap64 ((wrap64 ((wrap64 ((wrap64 ((wrap64 ((wrap64 ((wrap64 (x1_1 + 1)) + 1)) + 1)) + 1)) + 1)) + 1)) + 1)), (wrap64 (x5_1 + 1)), (si_), (si_), H', ⟨by have := HK1.out; omega⟩, ⟨by (with_reducible repeat (first | apply Kd.R_alloc | apply Kd.R_drewN | apply Kd.R_drew)); exact HO_0.out⟩, ⟨by repeat (first | (with_reducible first | exact HK.out | apply Kept.alloc | apply Kept.drewN | apply Kept.drew) | exact HK.out)⟩, ⟨bel_⟩⟩
    ·rw [if_neg c4] at H
     exact absurd H (by simp)
   ·rw [if_neg c3] at H
    have c3b0 : decide (x5_1 < (x0_1.length : Int)) = false := decide_eq_false c3
    clear c3
    simp only [Option.some.injEq, Prod.mk.injEq] at H
    obtain ⟨rfl, rfl⟩ := H
    obtain ⟨Ao29, co29, eo29⟩ := Kd.R_slice HO_0.out
    subst eo29
    go_wp2
    go_ret
    exact ⟨fi_, by (with_reducible repeat (first | apply Kd.R_alloc | apply Kd.R_drewN | apply Kd.R_drew)); exact HO_0.out, bel_, by repeat (first | (with_reducible first | exact HK.out | apply Kept.alloc | apply Kept.drewN | apply Kept.drew) | exact HK.out)⟩

end Go.Proofs.YtdpklbomhdpimaaDoor.P
namespace Go.Proofs.YtdpklbomhdpimaaDoor.FP
open Go.Proofs.YtdpklbomhdpimaaDoor.P
inductive Fo where
 | nil
 | nd (i : Nat) (t : ByteArray) (k n : Fo)
structure Nd where
 t : ByteArray
 up : Nat
 first : Nat
 next : Nat
def Fo.hd : Fo → Nat
 | .nil => 0
 | .nd i _ _ _ => i
def Fo.ids : Fo → List Nat
 | .nil => []
 | .nd i _ k n => i :: (k.ids ++ n.ids)
def Fo.tops : Fo → List Nat
 | .nil => []
 | .nd i _ _ n => i :: n.tops
def Fo.fl (d : Nat) : Fo → List S69
 | .nil => []
 | .nd i t k n => ⟨(i : Int), (d : Int), t⟩ :: (k.fl (d + 1) ++ n.fl d)
def Rep (h : Nat → Nd) (up : Nat) : Fo → Prop
 | .nil => True
 | .nd i t k n => i ≠ 0 ∧ h i = ⟨t, up, k.hd, n.hd⟩ ∧ Rep h i k ∧ Rep h up n
def insAfter (a i : Nat) (t : ByteArray) (s : Fo) : Fo → Fo
 | .nil => .nil
 | .nd j u k n => if j = a then .nd j u k (.nd i t s n) else .nd j u (insAfter a i t s k) (insAfter a i t s n)
def insFirst (p i : Nat) (t : ByteArray) (s : Fo) : Fo → Fo
 | .nil => .nil
 | .nd j u k n => if j = p then .nd j u (.nd i t s k) n else .nd j u (insFirst p i t s k) (insFirst p i t s n)
def del (x : Nat) : Fo → Fo
 | .nil => .nil
 | .nd j u k n => if j = x then n else .nd j u (del x k) (del x n)
def sub (x : Nat) : Fo → Fo
 | .nil => .nil
 | .nd j u k n => if j = x then k else if x ∈ k.ids then sub x k else sub x n
def attachH (h : Nat → Nd) (i up a : Nat) : Nat → Nd := fun j =>
 if a = 0 then
  if j = up then ⟨(h up).t, (h up).up, i, (h up).next⟩ else if j = i then ⟨(h i).t, up, (h i).first, (h up).first⟩ else h j
 else
  if j = a then ⟨(h a).t, (h a).up, (h a).first, i⟩ else if j = i then ⟨(h i).t, up, (h i).first, (h a).next⟩ else h j
def detachH (h : Nat → Nd) (x a : Nat) : Nat → Nd := fun j =>
 if j = x then ⟨(h x).t, 0, (h x).first, 0⟩
 else if a = 0 then (if j = (h x).up then ⟨(h j).t, (h j).up, (h x).next, (h j).next⟩ else h j)
 else (if j = a then ⟨(h j).t, (h j).up, (h j).first, (h x).next⟩ else h j)
theorem Rep.ext {h h' : Nat → Nd} {up : Nat} : ∀ {F : Fo}, Rep h up F → (∀ i ∈ F.ids, h' i = h i) → Rep h' up F
 | .nil, _, _ => trivial
 | .nd i t k n, ⟨h1, h2, h3, h4⟩, e => ⟨h1, (e i (by simp [Fo.ids])).trans h2, Rep.ext h3 fun j hj => e j (by simp [Fo.ids, hj]), Rep.ext h4 fun j hj => e j (by simp [Fo.ids, hj])⟩
theorem Rep.ne0 {h : Nat → Nd} {up : Nat} : ∀ {F : Fo}, Rep h up F → ∀ i ∈ F.ids, i ≠ 0
 | .nil, _, i, hi => by simp [Fo.ids] at hi
 | .nd j t k n, ⟨h1, h2, h3, h4⟩, i, hi => by
  simp only [Fo.ids, List.mem_cons, List.mem_append] at hi
  rcases hi with rfl | hi | hi
  ·exact h1
  ·exact Rep.ne0 h3 i hi
  ·exact Rep.ne0 h4 i hi
theorem attachH_zero (h : Nat → Nd) (i up : Nat) (j : Nat) : attachH h i up 0 j = if j = up then ⟨(h up).t, (h up).up, i, (h up).next⟩ else if j = i then ⟨(h i).t, up, (h i).first, (h up).first⟩ else h j := rfl
theorem attachH_pos (h : Nat → Nd) (i up a : Nat) (ha : a ≠ 0) (j : Nat) : attachH h i up a j = if j = a then ⟨(h a).t, (h a).up, (h a).first, i⟩ else if j = i then ⟨(h i).t, up, (h i).first, (h a).next⟩ else h j := if_neg ha
theorem detachH_self (h : Nat → Nd) (x a : Nat) : detachH h x a x = ⟨(h x).t, 0, (h x).first, 0⟩ := if_pos rfl
theorem detachH_zero (h : Nat → Nd) (x : Nat) {j : Nat} (e : j ≠ x) : detachH h x 0 j = if j = (h x).up then ⟨(h j).t, (h j).up, (h x).next, (h j).next⟩ else h j := by unfold detachH; rw [if_neg e, if_pos rfl]
theorem detachH_pos (h : Nat → Nd) (x a : Nat) (ha : a ≠ 0) {j : Nat} (e : j ≠ x) : detachH h x a j = if j = a then ⟨(h j).t, (h j).up, (h j).first, (h x).next⟩ else h j := by unfold detachH; rw [if_neg e, if_neg ha]
structure Free (h : Nat → Nd) (i : Nat) (t : ByteArray) (s : Fo) : Prop where
 ne : i ≠ 0
 t : (h i).t = t
 first : (h i).first = s.hd
 rep : Rep h i s
 out : i ∉ s.ids
theorem insAfter_id (a i : Nat) (t : ByteArray) (s : Fo) : ∀ {F : Fo}, a ∉ F.ids → insAfter a i t s F = F
 | .nil, _ => rfl
 | .nd j u k n, h => by
  simp only [Fo.ids, List.mem_cons, List.mem_append, not_or] at h
  unfold insAfter
  rw [if_neg (fun e => h.1 e.symm), insAfter_id a i t s h.2.1, insAfter_id a i t s h.2.2]
theorem insFirst_id (p i : Nat) (t : ByteArray) (s : Fo) : ∀ {F : Fo}, p ∉ F.ids → insFirst p i t s F = F
 | .nil, _ => rfl
 | .nd j u k n, h => by
  simp only [Fo.ids, List.mem_cons, List.mem_append, not_or] at h
  unfold insFirst
  rw [if_neg (fun e => h.1 e.symm), insFirst_id p i t s h.2.1, insFirst_id p i t s h.2.2]
theorem del_id (x : Nat) : ∀ {F : Fo}, x ∉ F.ids → del x F = F
 | .nil, _ => rfl
 | .nd j u k n, h => by
  simp only [Fo.ids, List.mem_cons, List.mem_append, not_or] at h
  unfold del
  rw [if_neg (fun e => h.1 e.symm), del_id x h.2.1, del_id x h.2.2]
theorem insAfter_hd (a i : Nat) (t : ByteArray) (s : Fo) : ∀ (F : Fo), (insAfter a i t s F).hd = F.hd
 | .nil => rfl
 | .nd j u k n => by unfold insAfter; split <;> rfl
theorem insFirst_hd (p i : Nat) (t : ByteArray) (s : Fo) : ∀ (F : Fo), (insFirst p i t s F).hd = F.hd
 | .nil => rfl
 | .nd j u k n => by unfold insFirst; split <;> rfl
theorem nodup_nd {j : Nat} {u : ByteArray} {k n : Fo} (h : (Fo.nd j u k n).ids.Nodup) : j ∉ k.ids ∧ j ∉ n.ids ∧ k.ids.Nodup ∧ n.ids.Nodup ∧ (∀ x ∈ k.ids, x ∉ n.ids) := by
 simp only [Fo.ids, List.nodup_cons, List.nodup_append, List.mem_append, not_or] at h
 exact ⟨h.1.1, h.1.2, h.2.1, h.2.2.1, fun x hx hn => h.2.2.2 x hx x hn rfl⟩
theorem rep_insAfter {h : Nat → Nd} {a i q : Nat} {t : ByteArray} {s : Fo} (hf : Free h i t s) (ha0 : a ≠ 0) (hq : (h a).up = q) :
  ∀ {F : Fo} {up : Nat}, Rep h up F → F.ids.Nodup → i ∉ F.ids → a ∉ s.ids → a ≠ i → (∀ j ∈ s.ids, j ∉ F.ids) → Rep (attachH h i q a) up (insAfter a i t s F)
 | .nil, up, _, _, _, _, _, _ => trivial
 | .nd j u k n, up, ⟨h1, h2, h3, h4⟩, hn, hi, has, hai, hd => by
  obtain ⟨n1, n2, n3, n4, n5⟩ := nodup_nd hn
  have hat := attachH_pos h i q a ha0
  simp only [Fo.ids, List.mem_cons, List.mem_append, not_or] at hi
  have hs : Rep (attachH h i q a) i s := hf.rep.ext fun x hx => by
   rw [hat x, if_neg (fun (e : x = a) => has (e ▸ hx)), if_neg (fun (e : x = i) => hf.out (e ▸ hx))]
  unfold insAfter
  by_cases hj : j = a
  ·subst hj
   rw [if_pos rfl]
   have hup : q = up := by rw [← hq, h2]
   refine ⟨h1, ?_, ?_, hf.ne, ?_, hs, ?_⟩
   ·rw [hat j, if_pos rfl, h2]; rfl
   ·exact h3.ext fun x hx => by rw [hat x, if_neg (fun (e : x = j) => n1 (e ▸ hx)), if_neg (fun (e : x = i) => hi.2.1 (e ▸ hx))]
   ·rw [hat i, if_neg (fun e => hai e.symm), if_pos rfl, h2, hup]
    show Nd.mk (h i).t up (h i).first n.hd = _
    rw [hf.t, hf.first]
   ·exact h4.ext fun x hx => by rw [hat x, if_neg (fun (e : x = j) => n2 (e ▸ hx)), if_neg (fun (e : x = i) => hi.2.2 (e ▸ hx))]
  ·rw [if_neg hj]
   refine ⟨h1, ?_, ?_, ?_⟩
   ·rw [hat j, if_neg hj, if_neg (fun e => hi.1 e.symm), h2, insAfter_hd, insAfter_hd]
   ·exact rep_insAfter hf ha0 hq h3 n3 hi.2.1 has hai fun x hx hk => hd x hx (by simp [Fo.ids, hk])
   ·exact rep_insAfter hf ha0 hq h4 n4 hi.2.2 has hai fun x hx hk => hd x hx (by simp [Fo.ids, hk])
theorem rep_insFirst {h : Nat → Nd} {p i : Nat} {t : ByteArray} {s : Fo} (hf : Free h i t s) :
  ∀ {F : Fo} {up : Nat}, Rep h up F → F.ids.Nodup → i ∉ F.ids → p ∉ s.ids → p ≠ i → (∀ j ∈ s.ids, j ∉ F.ids) → Rep (attachH h i p 0) up (insFirst p i t s F)
 | .nil, up, _, _, _, _, _, _ => trivial
 | .nd j u k n, up, ⟨h1, h2, h3, h4⟩, hn, hi, has, hai, hd => by
  obtain ⟨n1, n2, n3, n4, n5⟩ := nodup_nd hn
  have hat := attachH_zero h i p
  simp only [Fo.ids, List.mem_cons, List.mem_append, not_or] at hi
  have hs : Rep (attachH h i p 0) i s := hf.rep.ext fun x hx => by
   rw [hat x, if_neg (fun (e : x = p) => has (e ▸ hx)), if_neg (fun (e : x = i) => hf.out (e ▸ hx))]
  unfold insFirst
  by_cases hj : j = p
  ·subst hj
   rw [if_pos rfl]
   refine ⟨h1, ?_, ⟨hf.ne, ?_, hs, ?_⟩, ?_⟩
   ·rw [hat j, if_pos rfl, h2]; rfl
   ·rw [hat i, if_neg (fun e => hai e.symm), if_pos rfl, h2]
    show Nd.mk (h i).t j (h i).first k.hd = _
    rw [hf.t, hf.first]
   ·exact h3.ext fun x hx => by rw [hat x, if_neg (fun (e : x = j) => n1 (e ▸ hx)), if_neg (fun (e : x = i) => hi.2.1 (e ▸ hx))]
   ·exact h4.ext fun x hx => by rw [hat x, if_neg (fun (e : x = j) => n2 (e ▸ hx)), if_neg (fun (e : x = i) => hi.2.2 (e ▸ hx))]
  ·rw [if_neg hj]
   refine ⟨h1, ?_, ?_, ?_⟩
   ·rw [hat j, if_neg hj, if_neg (fun e => hi.1 e.symm), h2, insFirst_hd, insFirst_hd]
   ·exact rep_insFirst hf h3 n3 hi.2.1 has hai fun x hx hk => hd x hx (by simp [Fo.ids, hk])
   ·exact rep_insFirst hf h4 n4 hi.2.2 has hai fun x hx hk => hd x hx (by simp [Fo.ids, hk])
def sib (x : Nat) : Nat → Fo → Nat
 | _, .nil => 0
 | p, .nd j u k n => if j = x then p else if x ∈ k.ids then sib x 0 k else sib x j n
theorem sib_mem (x : Nat) : ∀ (F : Fo) (p : Nat), sib x p F = p ∨ sib x p F = 0 ∨ sib x p F ∈ F.ids
 | .nil, p => Or.inr (Or.inl rfl)
 | .nd j u k n, p => by
  unfold sib
  by_cases h1 : j = x
  ·rw [if_pos h1]; exact Or.inl rfl
  ·rw [if_neg h1]
   by_cases h2 : x ∈ k.ids
   ·rw [if_pos h2]
    rcases sib_mem x k 0 with h | h | h
    ·exact Or.inr (Or.inl h)
    ·exact Or.inr (Or.inl h)
    ·exact Or.inr (Or.inr (by simp [Fo.ids, h]))
   ·rw [if_neg h2]
    rcases sib_mem x n j with h | h | h
    ·rw [h]; exact Or.inr (Or.inr (by simp [Fo.ids]))
    ·exact Or.inr (Or.inl h)
    ·exact Or.inr (Or.inr (by simp [Fo.ids, h]))
theorem rep_up {h : Nat → Nd} {x : Nat} : ∀ {F : Fo} {up : Nat}, Rep h up F → F.ids.Nodup → x ∈ F.ids → (h x).up = up ∨ (h x).up ∈ F.ids
 | .nil, _, _, _, hx => by simp [Fo.ids] at hx
 | .nd j u k n, up, ⟨h1, h2, h3, h4⟩, hn, hx => by
  obtain ⟨n1, n2, n3, n4, n5⟩ := nodup_nd hn
  simp only [Fo.ids, List.mem_cons, List.mem_append] at hx
  rcases hx with rfl | hx | hx
  ·left; rw [h2]
  ·rcases rep_up h3 n3 hx with e | e
   ·right; rw [e]; simp [Fo.ids]
   ·right; simp [Fo.ids, e]
  ·rcases rep_up h4 n4 hx with e | e
   ·exact Or.inl e
   ·right; simp [Fo.ids, e]
theorem sib_zero {h : Nat → Nd} {x : Nat} : ∀ {F : Fo} {up p : Nat}, Rep h up F → F.ids.Nodup → x ∈ F.ids → sib x p F = 0 → (p ≠ 0 ∨ F.hd ≠ x) → (h x).up ∈ F.ids
 | .nil, _, _, _, _, hx, _, _ => by simp [Fo.ids] at hx
 | .nd j u k n, up, p, ⟨h1, h2, h3, h4⟩, hn, hx, hs, hp => by
  obtain ⟨n1, n2, n3, n4, n5⟩ := nodup_nd hn
  unfold sib at hs
  simp only [Fo.ids, List.mem_cons, List.mem_append] at hx
  by_cases e : j = x
  ·rw [if_pos e] at hs
   rcases hp with hp | hp
   ·exact absurd hs hp
   ·exact absurd e hp
  ·rw [if_neg e] at hs
   by_cases hk : x ∈ k.ids
   ·rcases rep_up h3 n3 hk with e | e
    ·rw [e]; simp [Fo.ids]
    ·simp [Fo.ids, e]
   ·rw [if_neg hk] at hs
    have hxn : x ∈ n.ids := by
     rcases hx with e' | e' | e'
     ·exact absurd e'.symm e
     ·exact absurd e' hk
     ·exact e'
    have := sib_zero (p := j) h4 n4 hxn hs (Or.inl h1)
    simp [Fo.ids, this]
theorem del_hd (x : Nat) (F : Fo) (h : F.hd ≠ x) : (del x F).hd = F.hd := by
 cases F with
 | nil => rfl
 | nd j u k n => unfold del; rw [if_neg (show j ≠ x from h)]; rfl
theorem del_hd_self {h : Nat → Nd} {up x : Nat} {F : Fo} (hr : Rep h up F) (e : F.hd = x) (hx : x ≠ 0) : (del x F).hd = (h x).next ∧ (h x).up = up := by
 cases F with
 | nil => exact absurd e.symm hx
 | nd j u k n =>
  obtain rfl : j = x := e
  obtain ⟨h1, h2, h3, h4⟩ := hr
  unfold del
  rw [if_pos rfl, h2]
  exact ⟨rfl, rfl⟩
theorem sib_hd {x p : Nat} {F : Fo} (e : F.hd = x) (hx : x ≠ 0) : sib x p F = p := by
 cases F with
 | nil => exact absurd e.symm hx
 | nd j u k n => unfold sib; exact if_pos e
theorem up_ne {h : Nat → Nd} {x : Nat} : ∀ {F : Fo} {up : Nat}, Rep h up F → F.ids.Nodup → x ∈ F.ids → up ∉ F.ids → (h x).up ≠ x
 | .nil, _, _, _, hx, _ => by simp [Fo.ids] at hx
 | .nd j u k n, up, ⟨h1, h2, h3, h4⟩, hn, hx, hup => by
  obtain ⟨n1, n2, n3, n4, n5⟩ := nodup_nd hn
  simp only [Fo.ids, List.mem_cons, List.mem_append, not_or] at hx hup
  rcases hx with rfl | hx | hx
  ·rw [h2]; exact hup.1
  ·exact up_ne h3 n3 hx n1
  ·exact up_ne h4 n4 hx hup.2.2
theorem sib_ne {x : Nat} (hx0 : x ≠ 0) : ∀ {F : Fo} {p : Nat}, F.ids.Nodup → x ∈ F.ids → p ≠ x → sib x p F ≠ x
 | .nil, _, _, hx, _ => by simp [Fo.ids] at hx
 | .nd j u k n, p, hn, hx, hp => by
  obtain ⟨n1, n2, n3, n4, n5⟩ := nodup_nd hn
  simp only [Fo.ids, List.mem_cons, List.mem_append] at hx
  unfold sib
  by_cases e1 : j = x
  ·rw [if_pos e1]; exact hp
  ·rw [if_neg e1]
   by_cases e2 : x ∈ k.ids
   ·rw [if_pos e2]; exact sib_ne hx0 n3 e2 (fun e => hx0 e.symm)
   ·rw [if_neg e2]
    exact sib_ne hx0 n4 (by rcases hx with g | g | g; exact absurd g.symm e1; exact absurd g e2; exact g) e1
theorem rep_del {h : Nat → Nd} {x : Nat} : ∀ {F : Fo} {up p : Nat}, Rep h up F → F.ids.Nodup → x ∈ F.ids → up ∉ F.ids → p ∉ F.ids → Rep (detachH h x (sib x p F)) up (del x F)
 | .nil, _, _, _, _, hx, _, _ => by simp [Fo.ids] at hx
 | .nd j u k n, up, p, hR, hn, hx, hup, hp => by
  have hx0 : x ≠ 0 := hR.ne0 x hx
  have hxup : (h x).up ≠ x := up_ne hR hn hx hup
  obtain ⟨h1, h2, h3, h4⟩ := hR
  obtain ⟨n1, n2, n3, n4, n5⟩ := nodup_nd hn
  simp only [Fo.ids, List.mem_cons, List.mem_append, not_or] at hx hup hp
  unfold sib del
  by_cases e : j = x
  ·subst e
   rw [if_pos rfl, if_pos rfl]
   refine h4.ext fun y hy => ?_
   have hyj : y ≠ j := fun e => n2 (e ▸ hy)
   by_cases hp0 : p = 0
   ·subst hp0
    rw [detachH_zero h j hyj, h2, if_neg (fun (e : y = up) => hup.2.2 (e ▸ hy))]
   ·rw [detachH_pos h j p hp0 hyj, if_neg (fun (e : y = p) => hp.2.2 (e ▸ hy))]
  ·rw [if_neg e, if_neg e]
   by_cases hk : x ∈ k.ids
   ·rw [if_pos hk]
    have z3 : (0 : Nat) ∉ k.ids := fun h0 => h3.ne0 0 h0 rfl
    have ih := rep_del (p := 0) h3 n3 hk n1 z3
    have hnx : x ∉ n.ids := n5 x hk
    have hsx := sib_ne (p := 0) hx0 n3 hk (fun e => hx0 e.symm)
    have hsm : sib x 0 k ≠ 0 → sib x 0 k ∈ k.ids := fun hs => by
     rcases sib_mem x k 0 with h' | h' | h'
     ·exact absurd h' hs
     ·exact absurd h' hs
     ·exact h'
    rw [del_id x hnx]
    refine ⟨h1, ?_, ih, ?_⟩
    ·by_cases hh : k.hd = x
     ·have hs : sib x 0 k = 0 := sib_hd hh hx0
      obtain ⟨d1, d2⟩ := del_hd_self h3 hh hx0
      rw [hs, detachH_zero h x e, d2, if_pos rfl, d1, h2]
     ·rw [del_hd x k hh]
      by_cases hs : sib x 0 k = 0
      ·have hq := sib_zero (p := 0) h3 n3 hk hs (Or.inr hh)
       rw [hs, detachH_zero h x e, if_neg (fun (e2 : j = (h x).up) => n1 (e2 ▸ hq)), h2]
      ·rw [detachH_pos h x _ hs e, if_neg (fun (e2 : j = sib x 0 k) => n1 (e2 ▸ hsm hs)), h2]
    ·refine h4.ext fun y hy => ?_
     have hyx : y ≠ x := fun e2 => hnx (e2 ▸ hy)
     by_cases hs : sib x 0 k = 0
     ·rw [hs, detachH_zero h x hyx, if_neg]
      intro e2
      rcases rep_up h3 n3 hk with e3 | e3
      ·exact n2 (e3 ▸ e2 ▸ hy)
      ·exact n5 _ e3 (e2 ▸ hy)
     ·rw [detachH_pos h x _ hs hyx, if_neg (fun (e2 : y = sib x 0 k) => n5 _ (hsm hs) (e2 ▸ hy))]
   ·rw [if_neg hk]
    have hxn : x ∈ n.ids := by
     rcases hx with g | g | g
     ·exact absurd g.symm e
     ·exact absurd g hk
     ·exact g
    have ih := rep_del (p := j) h4 n4 hxn hup.2.2 n2
    rw [del_id x hk]
    have hsm : sib x j n ≠ j → sib x j n ≠ 0 → sib x j n ∈ n.ids := fun hj hs => by
     rcases sib_mem x n j with h' | h' | h'
     ·exact absurd h' hj
     ·exact absurd h' hs
     ·exact h'
    refine ⟨h1, ?_, ?_, ih⟩
    ·by_cases hh : n.hd = x
     ·have hs : sib x j n = j := sib_hd hh hx0
      obtain ⟨d1, d2⟩ := del_hd_self h4 hh hx0
      rw [hs, detachH_pos h x j h1 e, if_pos rfl, d1, h2]
     ·rw [del_hd x n hh]
      by_cases hs : sib x j n = 0
      ·have hq := sib_zero (p := j) h4 n4 hxn hs (Or.inl h1)
       rw [hs, detachH_zero h x e, if_neg (fun (e2 : j = (h x).up) => n2 (e2 ▸ hq)), h2]
      ·have hsj : sib x j n ≠ j := by
        cases n with
        | nil => simp [Fo.ids] at hxn
        | nd j2 u2 k2 n2' =>
         have hj2 : j2 ≠ x := hh
         unfold sib
         rw [if_neg hj2]
         obtain ⟨m1, m2, m3, m4, m5⟩ := nodup_nd n4
         simp only [Fo.ids, List.mem_cons, List.mem_append, not_or] at n2
         split
         ·rcases sib_mem x k2 0 with h' | h' | h'
          ·rw [h']; exact fun e => h1 e.symm
          ·rw [h']; exact fun e => h1 e.symm
          ·exact fun e => n2.2.1 (e ▸ h')
         ·rcases sib_mem x n2' j2 with h' | h' | h'
          ·rw [h']; exact fun e => n2.1 e.symm
          ·rw [h']; exact fun e => h1 e.symm
          ·exact fun e => n2.2.2 (e ▸ h')
       rw [detachH_pos h x _ hs e, if_neg (fun (e2 : j = sib x j n) => hsj e2.symm), h2]
    ·refine h3.ext fun y hy => ?_
     have hyx : y ≠ x := fun e2 => hk (e2 ▸ hy)
     by_cases hs : sib x j n = 0
     ·rw [hs, detachH_zero h x hyx, if_neg]
      intro e2
      have hq := sib_zero (p := j) h4 n4 hxn hs (Or.inl h1)
      exact n5 _ hy (e2 ▸ hq)
     ·rw [detachH_pos h x _ hs hyx, if_neg]
      intro e2
      by_cases hsj : sib x j n = j
      ·exact n1 (by rw [← hsj, ← e2]; exact hy)
      ·exact n5 _ hy (e2 ▸ hsm hsj hs)
def RepTop (h : Nat → Nd) : Fo → Prop
 | .nil => True
 | .nd i t k n => i ≠ 0 ∧ h i = ⟨t, 0, k.hd, 0⟩ ∧ Rep h i k ∧ RepTop h n
theorem RepTop.ext {h h' : Nat → Nd} : ∀ {F : Fo}, RepTop h F → (∀ i ∈ F.ids, h' i = h i) → RepTop h' F
 | .nil, _, _ => trivial
 | .nd i t k n, ⟨h1, h2, h3, h4⟩, e => ⟨h1, (e i (by simp [Fo.ids])).trans h2, Rep.ext h3 fun j hj => e j (by simp [Fo.ids, hj]), RepTop.ext h4 fun j hj => e j (by simp [Fo.ids, hj])⟩
theorem RepTop.ne0 {h : Nat → Nd} : ∀ {F : Fo}, RepTop h F → ∀ i ∈ F.ids, i ≠ 0
 | .nil, _, i, hi => by simp [Fo.ids] at hi
 | .nd j t k n, ⟨h1, h2, h3, h4⟩, i, hi => by
  simp only [Fo.ids, List.mem_cons, List.mem_append] at hi
  rcases hi with rfl | hi | hi
  ·exact h1
  ·exact Rep.ne0 h3 i hi
  ·exact RepTop.ne0 h4 i hi
theorem tops_ids : ∀ {F : Fo} {x : Nat}, x ∈ F.tops → x ∈ F.ids
 | .nil, x, h => by cases h
 | .nd j t k n, x, h => by
  simp only [Fo.tops, List.mem_cons] at h
  simp only [Fo.ids, List.mem_cons, List.mem_append]
  rcases h with h | h
  ·exact Or.inl h
  ·exact Or.inr (Or.inr (tops_ids h))
theorem reptop_up {h : Nat → Nd} {x : Nat} : ∀ {F : Fo}, RepTop h F → F.ids.Nodup → x ∈ F.ids → x ∉ F.tops → (h x).up ∈ F.ids ∧ (h x).up ≠ x
 | .nil, _, _, hx, _ => by simp [Fo.ids] at hx
 | .nd j u k n, ⟨h1, h2, h3, h4⟩, hn, hx, ht => by
  obtain ⟨n1, n2, n3, n4, n5⟩ := nodup_nd hn
  simp only [Fo.ids, Fo.tops, List.mem_cons, List.mem_append, not_or] at hx ht ⊢
  rcases hx with e | hx | hx
  ·exact absurd e ht.1
  ·refine ⟨?_, up_ne h3 n3 hx n1⟩
   rcases rep_up h3 n3 hx with e | e
   ·exact Or.inl e
   ·exact Or.inr (Or.inl e)
  ·obtain ⟨g1, g2⟩ := reptop_up h4 n4 hx ht.2
   exact ⟨Or.inr (Or.inr g1), g2⟩
theorem reptop_root {h : Nat → Nd} {x : Nat} : ∀ {F : Fo}, RepTop h F → x ∈ F.tops → (h x).up = 0
 | .nil, _, hx => by cases hx
 | .nd j u k n, ⟨h1, h2, h3, h4⟩, hx => by
  simp only [Fo.tops, List.mem_cons] at hx
  rcases hx with rfl | hx
  ·rw [h2]
  ·exact reptop_root h4 hx
theorem reptop_insAfter {h : Nat → Nd} {a i q : Nat} {t : ByteArray} {s : Fo} (hf : Free h i t s) (ha0 : a ≠ 0) (hq : (h a).up = q) :
  ∀ {F : Fo}, RepTop h F → F.ids.Nodup → i ∉ F.ids → a ∉ F.tops → a ∉ s.ids → a ≠ i → (∀ j ∈ s.ids, j ∉ F.ids) → RepTop (attachH h i q a) (insAfter a i t s F)
 | .nil, _, _, _, _, _, _, _ => trivial
 | .nd j u k n, ⟨h1, h2, h3, h4⟩, hn, hi, hta, has, hai, hd => by
  obtain ⟨n1, n2, n3, n4, n5⟩ := nodup_nd hn
  simp only [Fo.ids, Fo.tops, List.mem_cons, List.mem_append, not_or] at hi hta
  have hj : j ≠ a := fun e => hta.1 e.symm
  unfold insAfter
  rw [if_neg hj]
  refine ⟨h1, ?_, ?_, ?_⟩
  ·rw [attachH_pos h i q a ha0 j, if_neg hj, if_neg (fun e => hi.1 e.symm), h2, insAfter_hd]
  ·exact rep_insAfter hf ha0 hq h3 n3 hi.2.1 has hai fun x hx hk => hd x hx (by simp [Fo.ids, hk])
  ·exact reptop_insAfter hf ha0 hq h4 n4 hi.2.2 hta.2 has hai fun x hx hk => hd x hx (by simp [Fo.ids, hk])
theorem reptop_insFirst {h : Nat → Nd} {p i : Nat} {t : ByteArray} {s : Fo} (hf : Free h i t s) :
  ∀ {F : Fo}, RepTop h F → F.ids.Nodup → i ∉ F.ids → p ∉ s.ids → p ≠ i → (∀ j ∈ s.ids, j ∉ F.ids) → RepTop (attachH h i p 0) (insFirst p i t s F)
 | .nil, _, _, _, _, _, _ => trivial
 | .nd j u k n, ⟨h1, h2, h3, h4⟩, hn, hi, has, hai, hd => by
  obtain ⟨n1, n2, n3, n4, n5⟩ := nodup_nd hn
  have hat := attachH_zero h i p
  simp only [Fo.ids, List.mem_cons, List.mem_append, not_or] at hi
  unfold insFirst
  by_cases hj : j = p
  ·subst hj
   rw [if_pos rfl]
   refine ⟨h1, ?_, ⟨hf.ne, ?_, ?_, ?_⟩, ?_⟩
   ·rw [hat j, if_pos rfl, h2]; rfl
   ·rw [hat i, if_neg (fun e => hai e.symm), if_pos rfl, h2]
    show Nd.mk (h i).t j (h i).first k.hd = _
    rw [hf.t, hf.first]
   ·exact hf.rep.ext fun x hx => by
     rw [hat x, if_neg (fun (e : x = j) => has (e ▸ hx)), if_neg (fun (e : x = i) => hf.out (e ▸ hx))]
   ·exact h3.ext fun x hx => by rw [hat x, if_neg (fun (e : x = j) => n1 (e ▸ hx)), if_neg (fun (e : x = i) => hi.2.1 (e ▸ hx))]
   ·exact h4.ext fun x hx => by rw [hat x, if_neg (fun (e : x = j) => n2 (e ▸ hx)), if_neg (fun (e : x = i) => hi.2.2 (e ▸ hx))]
  ·rw [if_neg hj]
   refine ⟨h1, ?_, ?_, ?_⟩
   ·rw [hat j, if_neg hj, if_neg (fun e => hi.1 e.symm), h2, insFirst_hd]
   ·exact rep_insFirst hf h3 n3 hi.2.1 has hai fun x hx hk => hd x hx (by simp [Fo.ids, hk])
   ·exact reptop_insFirst hf h4 n4 hi.2.2 has hai fun x hx hk => hd x hx (by simp [Fo.ids, hk])
def sibT (x : Nat) : Fo → Nat
 | .nil => 0
 | .nd j u k n => if x ∈ k.ids then sib x 0 k else sibT x n
theorem sibT_mem (x : Nat) : ∀ (F : Fo), sibT x F = 0 ∨ sibT x F ∈ F.ids
 | .nil => Or.inl rfl
 | .nd j u k n => by
  unfold sibT
  split
  ·rcases sib_mem x k 0 with h | h | h
   ·exact Or.inl h
   ·exact Or.inl h
   ·exact Or.inr (by simp [Fo.ids, h])
  ·rcases sibT_mem x n with h | h
   ·exact Or.inl h
   ·exact Or.inr (by simp [Fo.ids, h])
theorem reptop_del {h : Nat → Nd} {x : Nat} : ∀ {F : Fo}, RepTop h F → F.ids.Nodup → x ∈ F.ids → x ∉ F.tops → RepTop (detachH h x (sibT x F)) (del x F)
 | .nil, _, _, hx, _ => by simp [Fo.ids] at hx
 | .nd j u k n, hR, hn, hx, ht => by
  have hx0 : x ≠ 0 := hR.ne0 x hx
  obtain ⟨h1, h2, h3, h4⟩ := hR
  obtain ⟨n1, n2, n3, n4, n5⟩ := nodup_nd hn
  simp only [Fo.ids, Fo.tops, List.mem_cons, List.mem_append, not_or] at hx ht
  have e : j ≠ x := fun e => ht.1 e.symm
  unfold sibT del
  rw [if_neg e]
  by_cases hk : x ∈ k.ids
  ·rw [if_pos hk]
   have z3 : (0 : Nat) ∉ k.ids := fun h0 => h3.ne0 0 h0 rfl
   have hxup : (h x).up ≠ x := up_ne h3 n3 hk n1
   have ih := rep_del (p := 0) h3 n3 hk n1 z3
   have hnx : x ∉ n.ids := n5 x hk
   have hsx := sib_ne (p := 0) hx0 n3 hk (fun e => hx0 e.symm)
   have hsm : sib x 0 k ≠ 0 → sib x 0 k ∈ k.ids := fun hs => by
    rcases sib_mem x k 0 with h' | h' | h'
    ·exact absurd h' hs
    ·exact absurd h' hs
    ·exact h'
   rw [del_id x hnx]
   refine ⟨h1, ?_, ih, ?_⟩
   ·by_cases hh : k.hd = x
    ·have hs : sib x 0 k = 0 := sib_hd hh hx0
     obtain ⟨d1, d2⟩ := del_hd_self h3 hh hx0
     rw [hs, detachH_zero h x e, d2, if_pos rfl, d1, h2]
    ·rw [del_hd x k hh]
     by_cases hs : sib x 0 k = 0
     ·have hq := sib_zero (p := 0) h3 n3 hk hs (Or.inr hh)
      rw [hs, detachH_zero h x e, if_neg (fun (e2 : j = (h x).up) => n1 (e2 ▸ hq)), h2]
     ·rw [detachH_pos h x _ hs e, if_neg (fun (e2 : j = sib x 0 k) => n1 (e2 ▸ hsm hs)), h2]
   ·refine h4.ext fun y hy => ?_
    have hyx : y ≠ x := fun e2 => hnx (e2 ▸ hy)
    by_cases hs : sib x 0 k = 0
    ·rw [hs, detachH_zero h x hyx, if_neg]
     intro e2
     rcases rep_up h3 n3 hk with e3 | e3
     ·exact n2 (e3 ▸ e2 ▸ hy)
     ·exact n5 _ e3 (e2 ▸ hy)
    ·rw [detachH_pos h x _ hs hyx, if_neg (fun (e2 : y = sib x 0 k) => n5 _ (hsm hs) (e2 ▸ hy))]
  ·rw [if_neg hk]
   have hxn : x ∈ n.ids := by
    rcases hx with g | g | g
    ·exact absurd g.symm e
    ·exact absurd g hk
    ·exact g
   have ih := reptop_del h4 n4 hxn ht.2
   obtain ⟨u1, u2⟩ := reptop_up h4 n4 hxn ht.2
   have hsm : sibT x n ≠ 0 → sibT x n ∈ n.ids := fun hs => by
    rcases sibT_mem x n with h' | h'
    ·exact absurd h' hs
    ·exact h'
   rw [del_id x hk]
   refine ⟨h1, ?_, ?_, ih⟩
   ·by_cases hs : sibT x n = 0
    ·rw [hs, detachH_zero h x e, if_neg (fun (e2 : j = (h x).up) => n2 (e2 ▸ u1)), h2]
    ·rw [detachH_pos h x _ hs e, if_neg (fun (e2 : j = sibT x n) => n2 (e2 ▸ hsm hs)), h2]
   ·refine h3.ext fun y hy => ?_
    have hyx : y ≠ x := fun e2 => hk (e2 ▸ hy)
    by_cases hs : sibT x n = 0
    ·rw [hs, detachH_zero h x hyx, if_neg (fun (e2 : y = (h x).up) => n5 _ hy (e2 ▸ u1))]
    ·rw [detachH_pos h x _ hs hyx, if_neg (fun (e2 : y = sibT x n) => n5 _ hy (e2 ▸ hsm hs))]
theorem free_detach {h : Nat → Nd} {x a : Nat} : ∀ {F : Fo} {up : Nat}, Rep h up F → F.ids.Nodup → x ∈ F.ids → a ∉ (sub x F).ids → (h x).up ∉ (sub x F).ids → Free (detachH h x a) x (h x).t (sub x F)
 | .nil, _, _, _, hx, _, _ => by simp [Fo.ids] at hx
 | .nd j u k n, up, ⟨h1, h2, h3, h4⟩, hn, hx, ha, hu => by
  obtain ⟨n1, n2, n3, n4, n5⟩ := nodup_nd hn
  unfold sub at ha hu ⊢
  by_cases e : j = x
  ·subst e
   rw [if_pos rfl] at ha hu ⊢
   refine ⟨h1, by rw [detachH_self], by rw [detachH_self, h2], h3.ext fun y hy => ?_, n1⟩
   have hyj : y ≠ j := fun e => n1 (e ▸ hy)
   by_cases ha0 : a = 0
   ·subst ha0; rw [detachH_zero h j hyj, if_neg (fun (e : y = (h j).up) => hu (e ▸ hy))]
   ·rw [detachH_pos h j a ha0 hyj, if_neg (fun (e : y = a) => ha (e ▸ hy))]
  ·rw [if_neg e] at ha hu ⊢
   by_cases hk : x ∈ k.ids
   ·rw [if_pos hk] at ha hu ⊢
    exact free_detach h3 n3 hk ha hu
   ·rw [if_neg hk] at ha hu ⊢
    simp only [Fo.ids, List.mem_cons, List.mem_append] at hx
    exact free_detach h4 n4 (by rcases hx with g | g | g; exact absurd g.symm e; exact absurd g hk; exact g) ha hu
def dpth : Fo → Nat
 | .nil => 0
 | .nd _ _ k .nil => dpth k + 1
 | .nd _ _ _ (.nd i t k n) => dpth (.nd i t k n)
def sp : Nat → Fo → Nat
 | _, .nil => 0
 | 0, .nd i _ _ .nil => i
 | e + 1, .nd _ _ k .nil => sp e k
 | e, .nd _ _ _ (.nd i t k n) => sp e (.nd i t k n)
def snoc (i : Nat) (t : ByteArray) : Nat → Fo → Fo
 | _, .nil => .nd i t .nil .nil
 | 0, .nd j u k .nil => .nd j u k (.nd i t .nil .nil)
 | e + 1, .nd j u k .nil => .nd j u (snoc i t e k) .nil
 | e, .nd j u k (.nd j2 u2 k2 n2) => .nd j u k (snoc i t e (.nd j2 u2 k2 n2))
theorem snoc_ne (i : Nat) (t : ByteArray) : ∀ (e : Nat) (G : Fo), ∃ j u k n, snoc i t e G = .nd j u k n
 | e, .nil => ⟨_, _, _, _, by unfold snoc; rfl⟩
 | 0, .nd j u k .nil => ⟨_, _, _, _, by unfold snoc; rfl⟩
 | e + 1, .nd j u k .nil => ⟨_, _, _, _, by unfold snoc; rfl⟩
 | e, .nd j u k (.nd j2 u2 k2 n2) => ⟨_, _, _, _, by unfold snoc; rfl⟩
theorem snoc_fl (i : Nat) (t : ByteArray) : ∀ (G : Fo) (e d : Nat), e ≤ dpth G → (snoc i t e G).fl d = G.fl d ++ [⟨(i : Int), ((d + e : Nat) : Int), t⟩]
 | .nil, e, d, h => by
  have : e = 0 := by simpa [dpth] using h
  subst this
  simp [snoc, Fo.fl]
 | .nd j u k .nil, 0, d, h => by simp [snoc, Fo.fl]
 | .nd j u k .nil, e + 1, d, h => by
  have := snoc_fl i t k e (d + 1) (by simp only [dpth] at h; omega)
  simp only [snoc, Fo.fl, this]
  rw [show d + 1 + e = d + (e + 1) by omega]
  simp
 | .nd j u k (.nd j2 u2 k2 n2), e, d, h => by
  have := snoc_fl i t (.nd j2 u2 k2 n2) e d h
  have e1 : snoc i t e (.nd j u k (.nd j2 u2 k2 n2)) = .nd j u k (snoc i t e (.nd j2 u2 k2 n2)) := by cases e <;> rfl
  rw [e1]
  simp only [Fo.fl] at this ⊢
  rw [this]
  simp
theorem snoc_ids (i : Nat) (t : ByteArray) : ∀ (G : Fo) (e : Nat), (snoc i t e G).ids = G.ids ++ [i]
 | .nil, e => by simp [snoc, Fo.ids]
 | .nd j u k .nil, 0 => by simp [snoc, Fo.ids]
 | .nd j u k .nil, e + 1 => by simp [snoc, Fo.ids, snoc_ids i t k e]
 | .nd j u k (.nd j2 u2 k2 n2), e => by
  have e1 : snoc i t e (.nd j u k (.nd j2 u2 k2 n2)) = .nd j u k (snoc i t e (.nd j2 u2 k2 n2)) := by cases e <;> rfl
  rw [e1]
  show j :: (k.ids ++ (snoc i t e (.nd j2 u2 k2 n2)).ids) = _
  rw [snoc_ids i t (.nd j2 u2 k2 n2) e]
  simp [Fo.ids]
theorem snoc_tops (i : Nat) (t : ByteArray) : ∀ (G : Fo) (e : Nat), e ≤ dpth G → (snoc i t e G).tops = if e = 0 then G.tops ++ [i] else G.tops
 | .nil, e, h => by
  have : e = 0 := by simpa [dpth] using h
  subst this
  simp [snoc, Fo.tops]
 | .nd j u k .nil, 0, _ => by simp [snoc, Fo.tops]
 | .nd j u k .nil, e + 1, _ => by simp [snoc, Fo.tops]
 | .nd j u k (.nd j2 u2 k2 n2), e, h => by
  have e1 : snoc i t e (.nd j u k (.nd j2 u2 k2 n2)) = .nd j u k (snoc i t e (.nd j2 u2 k2 n2)) := by cases e <;> rfl
  rw [e1]
  show j :: (snoc i t e (.nd j2 u2 k2 n2)).tops = _
  rw [snoc_tops i t (.nd j2 u2 k2 n2) e h]
  by_cases he : e = 0 <;> simp [he, Fo.tops]
theorem dpth_nd {j : Nat} {u : ByteArray} {k n : Fo} (h : ∃ a b c d, n = .nd a b c d) : dpth (.nd j u k n) = dpth n := by
 obtain ⟨a, b, c, d, rfl⟩ := h
 rfl
theorem sp_nd {e j : Nat} {u : ByteArray} {k n : Fo} (h : ∃ a b c d, n = .nd a b c d) : sp e (.nd j u k n) = sp e n := by
 obtain ⟨a, b, c, d, rfl⟩ := h
 cases e <;> rfl
theorem snoc_dpth (i : Nat) (t : ByteArray) : ∀ (G : Fo) (e : Nat), e ≤ dpth G → dpth (snoc i t e G) = e + 1
 | .nil, e, h => by
  have : e = 0 := by simpa [dpth] using h
  subst this
  rfl
 | .nd j u k .nil, 0, _ => rfl
 | .nd j u k .nil, e + 1, h => by
  show dpth (.nd j u (snoc i t e k) .nil) = _
  show dpth (snoc i t e k) + 1 = _
  rw [snoc_dpth i t k e (by simp only [dpth] at h; omega)]
 | .nd j u k (.nd j2 u2 k2 n2), e, h => by
  have e1 : snoc i t e (.nd j u k (.nd j2 u2 k2 n2)) = .nd j u k (snoc i t e (.nd j2 u2 k2 n2)) := by cases e <;> rfl
  rw [e1, dpth_nd (snoc_ne i t e _)]
  exact snoc_dpth i t (.nd j2 u2 k2 n2) e h
theorem snoc_sp (i : Nat) (t : ByteArray) : ∀ (G : Fo) (e : Nat), e ≤ dpth G → sp e (snoc i t e G) = i ∧ ∀ d, d < e → sp d (snoc i t e G) = sp d G
 | .nil, e, h => by
  have : e = 0 := by simpa [dpth] using h
  subst this
  exact ⟨rfl, fun d hd => by omega⟩
 | .nd j u k .nil, 0, _ => ⟨rfl, fun d hd => by omega⟩
 | .nd j u k .nil, e + 1, h => by
  obtain ⟨h1, h2⟩ := snoc_sp i t k e (by simp only [dpth] at h; omega)
  refine ⟨h1, fun d hd => ?_⟩
  cases d with
  | zero => rfl
  | succ d => exact h2 d (by omega)
 | .nd j u k (.nd j2 u2 k2 n2), e, h => by
  have e1 : snoc i t e (.nd j u k (.nd j2 u2 k2 n2)) = .nd j u k (snoc i t e (.nd j2 u2 k2 n2)) := by cases e <;> rfl
  obtain ⟨h1, h2⟩ := snoc_sp i t (.nd j2 u2 k2 n2) e h
  rw [e1]
  refine ⟨(sp_nd (snoc_ne i t e _)).trans h1, fun d hd => ?_⟩
  rw [sp_nd (snoc_ne i t e _), h2 d hd]
  exact (sp_nd ⟨_, _, _, _, rfl⟩).symm
theorem sp_mem : ∀ (G : Fo) (e : Nat), e < dpth G → sp e G ∈ G.ids
 | .nil, e, h => by simp [dpth] at h
 | .nd j u k .nil, 0, _ => by simp [sp, Fo.ids]
 | .nd j u k .nil, e + 1, h => by
  have := sp_mem k e (by simp only [dpth] at h; omega)
  show sp e k ∈ _
  simp [Fo.ids, this]
 | .nd j u k (.nd j2 u2 k2 n2), e, h => by
  have := sp_mem (.nd j2 u2 k2 n2) e h
  rw [sp_nd ⟨_, _, _, _, rfl⟩]
  show _ ∈ j :: (k.ids ++ (Fo.nd j2 u2 k2 n2).ids)
  simp only [List.mem_cons, List.mem_append]
  exact Or.inr (Or.inr this)
theorem rep_sp {h : Nat → Nd} : ∀ (G : Fo) {up : Nat} (e : Nat), Rep h up G → e < dpth G → (h (sp e G)).up = if e = 0 then up else sp (e - 1) G
 | .nil, up, e, _, hl => by simp [dpth] at hl
 | .nd j u k .nil, up, 0, ⟨h1, h2, h3, h4⟩, _ => by show (h j).up = _; rw [h2]; rfl
 | .nd j u k .nil, up, e + 1, ⟨h1, h2, h3, h4⟩, hl => by
  have := rep_sp k e h3 (by simp only [dpth] at hl; omega)
  show (h (sp e k)).up = _
  rw [this, if_neg (by omega : ¬ e + 1 = 0)]
  cases e with
  | zero => rfl
  | succ e => rfl
 | .nd j u k (.nd j2 u2 k2 n2), up, e, ⟨h1, h2, h3, h4⟩, hl => by
  have := rep_sp (.nd j2 u2 k2 n2) e h4 hl
  rw [sp_nd ⟨_, _, _, _, rfl⟩, sp_nd ⟨_, _, _, _, rfl⟩]
  exact this
theorem reptop_sp {h : Nat → Nd} : ∀ (G : Fo) (e : Nat), RepTop h G → e + 1 < dpth G → (h (sp (e + 1) G)).up = sp e G
 | .nil, e, _, hl => by simp [dpth] at hl
 | .nd j u k .nil, e, ⟨h1, h2, h3, h4⟩, hl => by
  have := rep_sp k e h3 (by simp only [dpth] at hl; omega)
  show (h (sp e k)).up = _
  rw [this]
  cases e with
  | zero => rfl
  | succ e => rfl
 | .nd j u k (.nd j2 u2 k2 n2), e, ⟨h1, h2, h3, h4⟩, hl => by
  have := reptop_sp (.nd j2 u2 k2 n2) e h4 hl
  rw [sp_nd ⟨_, _, _, _, rfl⟩, sp_nd ⟨_, _, _, _, rfl⟩]
  exact this
theorem sp_not_top : ∀ (G : Fo) (e : Nat), G.ids.Nodup → e + 1 < dpth G → sp (e + 1) G ∉ G.tops
 | .nil, e, _, hl => by simp [dpth] at hl
 | .nd j u k .nil, e, hn, hl => by
  obtain ⟨n1, n2, n3, n4, n5⟩ := nodup_nd hn
  have hm := sp_mem k e (by simp only [dpth] at hl; omega)
  show sp e k ∉ [j]
  intro hc
  rw [List.mem_singleton.1 hc] at hm
  exact n1 hm
 | .nd j u k (.nd j2 u2 k2 n2), e, hn, hl => by
  obtain ⟨n1, m2, n3, n4, n5⟩ := nodup_nd hn
  have := sp_not_top (.nd j2 u2 k2 n2) e n4 hl
  have hm := sp_mem (.nd j2 u2 k2 n2) (e + 1) hl
  rw [sp_nd ⟨_, _, _, _, rfl⟩]
  intro hc
  rcases List.mem_cons.1 hc with hc | hc
  ·rw [hc] at hm; exact m2 hm
  ·exact this hc
theorem snoc_after (i : Nat) (t : ByteArray) : ∀ (G : Fo) (e : Nat), G.ids.Nodup → e < dpth G → snoc i t e G = insAfter (sp e G) i t .nil G
 | .nil, e, _, hl => by simp [dpth] at hl
 | .nd j u k .nil, 0, hn, _ => by
  show Fo.nd j u k (.nd i t .nil .nil) = insAfter j i t .nil (.nd j u k .nil)
  unfold insAfter
  rw [if_pos rfl]
 | .nd j u k .nil, e + 1, hn, hl => by
  obtain ⟨n1, n2, n3, n4, n5⟩ := nodup_nd hn
  have hl' : e < dpth k := by simp only [dpth] at hl; omega
  have hm := sp_mem k e hl'
  show Fo.nd j u (snoc i t e k) .nil = insAfter (sp e k) i t .nil (.nd j u k .nil)
  unfold insAfter
  rw [if_neg (fun (e2 : j = sp e k) => n1 (e2 ▸ hm)), snoc_after i t k e n3 hl']
  rfl
 | .nd j u k (.nd j2 u2 k2 n2), e, hn, hl => by
  obtain ⟨n1, n2', n3, n4, n5⟩ := nodup_nd hn
  have e1 : snoc i t e (.nd j u k (.nd j2 u2 k2 n2)) = .nd j u k (snoc i t e (.nd j2 u2 k2 n2)) := by cases e <;> rfl
  have hm := sp_mem (.nd j2 u2 k2 n2) e hl
  have e2 : sp e (.nd j u k (.nd j2 u2 k2 n2)) = sp e (.nd j2 u2 k2 n2) := sp_nd ⟨_, _, _, _, rfl⟩
  rw [e1, e2, snoc_after i t _ e n4 hl]
  have e3 : insAfter (sp e (.nd j2 u2 k2 n2)) i t .nil (.nd j u k (.nd j2 u2 k2 n2)) = .nd j u (insAfter (sp e (.nd j2 u2 k2 n2)) i t .nil k) (insAfter (sp e (.nd j2 u2 k2 n2)) i t .nil (.nd j2 u2 k2 n2)) := by
   conv => lhs; unfold insAfter
   rw [if_neg (fun (e2 : j = sp e (.nd j2 u2 k2 n2)) => n2' (e2 ▸ hm))]
  rw [e3, insAfter_id _ i t .nil (fun hk => n5 _ hk hm)]
theorem snoc_first (i : Nat) (t : ByteArray) : ∀ (G : Fo) (e : Nat), G.ids.Nodup → dpth G = e + 1 → snoc i t (e + 1) G = insFirst (sp e G) i t .nil G
 | .nil, e, _, hl => by simp [dpth] at hl
 | .nd j u k .nil, 0, hn, hl => by
  have : dpth k = 0 := by simp only [dpth] at hl; omega
  have hk : k = .nil := by
   cases k with
   | nil => rfl
   | nd a b c d =>
    exfalso
    have : ∀ (F : Fo), dpth F = 0 → F = .nil := by
     intro F
     induction F with
     | nil => intro _; rfl
     | nd a b c d _ ihd =>
      intro h0
      cases d with
      | nil => simp [dpth] at h0
      | nd a2 b2 c2 d2 =>
       have := ihd (by simpa [dpth] using h0)
       cases this
    have h3 := this _ ‹dpth (Fo.nd a b c d) = 0›
    cases h3
  subst hk
  show Fo.nd j u (.nd i t .nil .nil) .nil = insFirst j i t .nil (.nd j u .nil .nil)
  unfold insFirst
  rw [if_pos rfl]
 | .nd j u k .nil, e + 1, hn, hl => by
  obtain ⟨n1, n2, n3, n4, n5⟩ := nodup_nd hn
  have hl' : dpth k = e + 1 := by simp only [dpth] at hl; omega
  have hm := sp_mem k e (by omega)
  show Fo.nd j u (snoc i t (e + 1) k) .nil = insFirst (sp e k) i t .nil (.nd j u k .nil)
  unfold insFirst
  rw [if_neg (fun (e2 : j = sp e k) => n1 (e2 ▸ hm)), snoc_first i t k e n3 hl']
  rfl
 | .nd j u k (.nd j2 u2 k2 n2), e, hn, hl => by
  obtain ⟨n1, n2', n3, n4, n5⟩ := nodup_nd hn
  have e1 : snoc i t (e + 1) (.nd j u k (.nd j2 u2 k2 n2)) = .nd j u k (snoc i t (e + 1) (.nd j2 u2 k2 n2)) := rfl
  have hl' : dpth (.nd j2 u2 k2 n2) = e + 1 := hl
  have hm := sp_mem (.nd j2 u2 k2 n2) e (by omega)
  have e2 : sp e (.nd j u k (.nd j2 u2 k2 n2)) = sp e (.nd j2 u2 k2 n2) := sp_nd ⟨_, _, _, _, rfl⟩
  rw [e1, e2, snoc_first i t _ e n4 hl']
  have e3 : insFirst (sp e (.nd j2 u2 k2 n2)) i t .nil (.nd j u k (.nd j2 u2 k2 n2)) = .nd j u (insFirst (sp e (.nd j2 u2 k2 n2)) i t .nil k) (insFirst (sp e (.nd j2 u2 k2 n2)) i t .nil (.nd j2 u2 k2 n2)) := by
   conv => lhs; unfold insFirst
   rw [if_neg (fun (e2 : j = sp e (.nd j2 u2 k2 n2)) => n2' (e2 ▸ hm))]
  rw [e3, insFirst_id _ i t .nil (fun hk => n5 _ hk hm)]
theorem reptop_snoc0 {h : Nat → Nd} {i : Nat} {t : ByteArray} (h0 : i ≠ 0) (hi : h i = ⟨t, 0, 0, 0⟩) : ∀ (G : Fo), RepTop h G → RepTop h (snoc i t 0 G)
 | .nil, _ => ⟨h0, hi, trivial, trivial⟩
 | .nd j u k .nil, ⟨h1, h2, h3, h4⟩ => ⟨h1, h2, h3, h0, hi, trivial, trivial⟩
 | .nd j u k (.nd j2 u2 k2 n2), ⟨h1, h2, h3, h4⟩ => ⟨h1, h2, h3, reptop_snoc0 h0 hi _ h4⟩
end Go.Proofs.YtdpklbomhdpimaaDoor.FP
namespace Go.Proofs.YtdpklbomhdpimaaDoor.P
open Go.RowKit Go.Proofs.YtdpklbomhdpimaaDoorW.PrintWords Go.Proofs.YtdpklbomhdpimaaDoorW.PrintLast Go.Proofs.YtdpklbomhdpimaaDoorW.PrintMore Go.Proofs.YtdpklbomhdpimaaDoor.FP
def pa (o : Option Nat) : Option Addr := o.map fun b => ⟨b, 0, none⟩
theorem pa_none : pa none = none := rfl
theorem pa_some (b : Nat) : pa (some b) = some ⟨b, 0, none⟩ := rfl
def nodeC (A : Nat → Option Nat) (i : Nat) (x : Nd) : Array Value := #[.int .i64 (i : Int), .string x.t, .pointer (pa (A x.up)), .pointer (pa (A x.first)), .pointer (pa (A x.next))]
def tabC (A : Nat → Option Nat) : Array Value := ((List.range 37).map fun i => Value.pointer (pa (A i))).toArray
structure Mem (w : World) (n0 F : Nat) (A : Nat → Option Nat) (h : Nat → Nd) : Prop where
 z : A 0 = none
 rng : ∀ i b, A i = some b → i < 37
 inj : ∀ i j b, A i = some b → A j = some b → i = j
 ne : ∀ i b, A i = some b → b ≠ F
 lo : ∀ i b, A i = some b → n0 ≤ b
 loF : n0 ≤ F
 tab : w.heap[F]? = some (.cells (tabC A) 165 (0, 0))
 nod : ∀ i b, A i = some b → w.heap[b]? = some (.cells (nodeC A i (h i)) 168 (0, 0))
 cu : ∀ i, A i ≠ none → (h i).up = 0 ∨ A (h i).up ≠ none
 cf : ∀ i, A i ≠ none → (h i).first = 0 ∨ A (h i).first ≠ none
 cn : ∀ i, A i ≠ none → (h i).next = 0 ∨ A (h i).next ≠ none
theorem Mem.kept {w w' : World} {n0 F : Nat} {A : Nat → Option Nat} {h : Nat → Nd} (m : Mem w n0 F A h) (hk : ∀ b, b < w.heap.size → w'.heap[b]? = w.heap[b]?) : Mem w' n0 F A h :=
 { m with tab := (hk F (blk_lt m.tab)).trans m.tab, nod := fun i b e => (hk b (blk_lt (m.nod i b e))).trans (m.nod i b e) }
theorem Mem.below {w w' : World} {n0 F : Nat} {A : Nat → Option Nat} {h : Nat → Nd} (m : Mem w n0 F A h) (hb : Below w.heap.size w w') : Mem w' n0 F A h := m.kept fun b hl => hb.block b hl
theorem Mem.alloc {w : World} {n0 F : Nat} {A : Nat → Option Nat} {h : Nat → Nd} (m : Mem w n0 F A h) (o : Obj) : Mem (w.alloc o) n0 F A h := m.kept fun b hl => Below.heap_alloc w o b hl
theorem Mem.drew {w : World} {n0 F : Nat} {A : Nat → Option Nat} {h : Nat → Nd} (m : Mem w n0 F A h) : Mem w.drew n0 F A h := m.kept fun _ _ => rfl
theorem Mem.drewN {w : World} {n0 F : Nat} {A : Nat → Option Nat} {h : Nat → Nd} (m : Mem w n0 F A h) (n : Nat) : Mem (w.drewN n) n0 F A h := m.kept fun _ _ => rfl
theorem Mem.lt {w : World} {n0 F : Nat} {A : Nat → Option Nat} {h : Nat → Nd} (m : Mem w n0 F A h) {i b : Nat} (e : A i = some b) : b < w.heap.size := blk_lt (m.nod i b e)
theorem Mem.ltF {w : World} {n0 F : Nat} {A : Nat → Option Nat} {h : Nat → Nd} (m : Mem w n0 F A h) : F < w.heap.size := blk_lt m.tab
theorem Mem.c0 {w : World} {n0 F : Nat} {A : Nat → Option Nat} {h : Nat → Nd} (m : Mem w n0 F A h) {i b : Nat} (e : A i = some b) : w.cell? ⟨b, 0, none⟩ = some (.int .i64 (i : Int)) := (blk_cell (m.nod i b e) 0).trans rfl
theorem Mem.c1 {w : World} {n0 F : Nat} {A : Nat → Option Nat} {h : Nat → Nd} (m : Mem w n0 F A h) {i b : Nat} (e : A i = some b) : w.cell? ⟨b, 1, none⟩ = some (.string (h i).t) := (blk_cell (m.nod i b e) 1).trans rfl
theorem Mem.c2 {w : World} {n0 F : Nat} {A : Nat → Option Nat} {h : Nat → Nd} (m : Mem w n0 F A h) {i b : Nat} (e : A i = some b) : w.cell? ⟨b, 2, none⟩ = some (.pointer (pa (A (h i).up))) := (blk_cell (m.nod i b e) 2).trans rfl
theorem Mem.c3 {w : World} {n0 F : Nat} {A : Nat → Option Nat} {h : Nat → Nd} (m : Mem w n0 F A h) {i b : Nat} (e : A i = some b) : w.cell? ⟨b, 3, none⟩ = some (.pointer (pa (A (h i).first))) := (blk_cell (m.nod i b e) 3).trans rfl
theorem Mem.c4 {w : World} {n0 F : Nat} {A : Nat → Option Nat} {h : Nat → Nd} (m : Mem w n0 F A h) {i b : Nat} (e : A i = some b) : w.cell? ⟨b, 4, none⟩ = some (.pointer (pa (A (h i).next))) := (blk_cell (m.nod i b e) 4).trans rfl
theorem Mem.fz {w : World} {n0 F : Nat} {A : Nat → Option Nat} {h : Nat → Nd} (m : Mem w n0 F A h) {i b : Nat} (e : A i = some b) (j : Nat) : w.frozen? ⟨b, j, none⟩ = false := blk_frozen (m.nod i b e) j
theorem Mem.fzF {w : World} {n0 F : Nat} {A : Nat → Option Nat} {h : Nat → Nd} (m : Mem w n0 F A h) (j : Nat) : w.frozen? ⟨F, j, none⟩ = false := blk_frozen m.tab j
theorem tabC_get (A : Nat → Option Nat) (i : Nat) (hi : i < 37) : (tabC A)[i]? = some (.pointer (pa (A i))) := by
 simp [tabC, hi]
theorem Mem.cF {w : World} {n0 F : Nat} {A : Nat → Option Nat} {h : Nat → Nd} (m : Mem w n0 F A h) (i : Nat) (hi : i < 37) : w.cell? ⟨F, i, none⟩ = some (.pointer (pa (A i))) := (blk_cell m.tab i).trans (tabC_get A i hi)
def upN (h : Nat → Nd) (i : Nat) (x : Nd) : Nat → Nd := fun j => if j = i then x else h j
theorem Mem.set {w : World} {n0 F : Nat} {A : Nat → Option Nat} {h : Nat → Nd} (m : Mem w n0 F A h) {i b : Nat} (e : A i = some b) (k : Nat) (v : Value) (x : Nd) (hx : (nodeC A i (h i)).setIfInBounds k v = nodeC A i x)
  (xu : x.up = 0 ∨ A x.up ≠ none) (xf : x.first = 0 ∨ A x.first ≠ none) (xn : x.next = 0 ∨ A x.next ≠ none) : Mem (w.setCell ⟨b, k, none⟩ v) n0 F A (upN h i x) where
 z := m.z
 rng := m.rng
 inj := m.inj
 ne := m.ne
 lo := m.lo
 loF := m.loF
 tab := blk_far m.tab (fun e2 => m.ne i b e e2.symm) v
 nod := fun j c ec => by
  unfold upN
  by_cases hj : j = i
  ·subst hj
   obtain rfl : c = b := by rw [e] at ec; exact (Option.some.inj ec).symm
   rw [if_pos rfl, ← hx]
   exact blk_set (m.nod j c e) k v
  ·rw [if_neg hj]
   exact blk_far (m.nod j c ec) (fun (e2 : c = b) => hj (m.inj j i c ec (e2 ▸ e))) v
 cu := fun j hj => by unfold upN; split; exact xu; exact m.cu j hj
 cf := fun j hj => by unfold upN; split; exact xf; exact m.cf j hj
 cn := fun j hj => by unfold upN; split; exact xn; exact m.cn j hj
theorem Mem.ext {w : World} {n0 F : Nat} {A : Nat → Option Nat} {h h' : Nat → Nd} (m : Mem w n0 F A h) (e : ∀ j, h j = h' j) : Mem w n0 F A h' := (funext e : h = h') ▸ m
def upA (A : Nat → Option Nat) (i b : Nat) : Nat → Option Nat := fun j => if j = i then some b else A j
theorem tabC_up (A : Nat → Option Nat) (i b : Nat) (hi : i < 37) : (tabC A).setIfInBounds i (.pointer (some ⟨b, 0, none⟩)) = tabC (upA A i b) := by
 unfold tabC
 rw [List.setIfInBounds_toArray]
 congr 1
 apply List.ext_getElem (by simp)
 intro k h1 h2
 simp only [List.getElem_set, List.getElem_map, List.getElem_range, upA]
 by_cases hk : i = k
 ·rw [if_pos hk, if_pos hk.symm]; rfl
 ·rw [if_neg hk, if_neg (fun e => hk e.symm)]
theorem Mem.add {w : World} {n0 F : Nat} {A : Nat → Option Nat} {h : Nat → Nd} (m : Mem w n0 F A h) {i : Nat} (h0 : i ≠ 0) (hi : i < 37) (hA : A i = none) (hne : ∀ j, A j ≠ none → (h j).up ≠ i ∧ (h j).first ≠ i ∧ (h j).next ≠ i) {b : Nat} {t : ByteArray} (hb : ∀ j, A j ≠ some b) (hbF : b ≠ F) (hlo : n0 ≤ b)
  (hnew : w.heap[b]? = some (.cells #[.int .i64 (i : Int), .string t, .pointer none, .pointer none, .pointer none] 168 (0, 0))) :
  Mem (w.setCell ⟨F, i, none⟩ (.pointer (some ⟨b, 0, none⟩))) n0 F (upA A i b) (upN h i ⟨t, 0, 0, 0⟩) where
 z := by unfold upA; rw [if_neg (fun e => h0 e.symm)]; exact m.z
 rng := fun j c e => by
  unfold upA at e
  by_cases hj : j = i
  ·rw [hj]; exact hi
  ·rw [if_neg hj] at e; exact m.rng j c e
 inj := fun j k c ej ek => by
  unfold upA at ej ek
  by_cases hj : j = i
  ·by_cases hk : k = i
   ·rw [hj, hk]
   ·rw [if_pos hj] at ej; rw [if_neg hk] at ek
    exact absurd (ek.trans ej.symm) (hb k)
  ·by_cases hk : k = i
   ·rw [if_neg hj] at ej; rw [if_pos hk] at ek
    exact absurd (ej.trans ek.symm) (hb j)
   ·rw [if_neg hj] at ej; rw [if_neg hk] at ek
    exact m.inj j k c ej ek
 ne := fun j c e => by
  unfold upA at e
  by_cases hj : j = i
  ·rw [if_pos hj] at e; rw [← Option.some.inj e]; exact hbF
  ·rw [if_neg hj] at e; exact m.ne j c e
 lo := fun j c e => by
  unfold upA at e
  by_cases hj : j = i
  ·rw [if_pos hj] at e; rw [← Option.some.inj e]; exact hlo
  ·rw [if_neg hj] at e; exact m.lo j c e
 loF := m.loF
 tab := by
  rw [← tabC_up A i b hi]
  exact blk_set m.tab i _
 nod := fun j c e => by
  have hF : ∀ {c : Nat} {cs : Array Value} {t : TypeId}, c ≠ F → w.heap[c]? = some (.cells cs t (0, 0)) → (w.setCell ⟨F, i, none⟩ (.pointer (some ⟨b, 0, none⟩))).heap[c]? = some (.cells cs t (0, 0)) := fun hc hh => blk_far hh (p := ⟨F, i, none⟩) hc _
  unfold upA at e
  by_cases hj : j = i
  ·rw [if_pos hj] at e
   obtain rfl := Option.some.inj e
   subst hj
   have : nodeC (upA A j b) j (upN h j ⟨t, 0, 0, 0⟩ j) = #[.int .i64 (j : Int), .string t, .pointer none, .pointer none, .pointer none] := by
    have h0' : ¬ (0 = j) := fun e => h0 e.symm
    simp [nodeC, upN, upA, h0', m.z, pa]
   rw [this]
   exact hF hbF hnew
  ·rw [if_neg hj] at e
   have hn := m.nod j c e
   have e2 : nodeC (upA A i b) j (upN h i ⟨t, 0, 0, 0⟩ j) = nodeC A j (h j) := by
    obtain ⟨n1, n2, n3⟩ := hne j (by rw [e]; simp)
    unfold nodeC upN upA
    rw [if_neg hj, if_neg n1, if_neg n2, if_neg n3]
   rw [e2]
   exact hF (m.ne j c e) hn
 cu := fun j hj => by
  unfold upN
  by_cases hji : j = i
  ·rw [if_pos hji]; exact Or.inl rfl
  ·rw [if_neg hji]
   have hj' : A j ≠ none := by unfold upA at hj; rw [if_neg hji] at hj; exact hj
   rcases m.cu j hj' with h1 | h1
   ·exact Or.inl h1
   ·right; unfold upA; split; simp; exact h1
 cf := fun j hj => by
  unfold upN
  by_cases hji : j = i
  ·rw [if_pos hji]; exact Or.inl rfl
  ·rw [if_neg hji]
   have hj' : A j ≠ none := by unfold upA at hj; rw [if_neg hji] at hj; exact hj
   rcases m.cf j hj' with h1 | h1
   ·exact Or.inl h1
   ·right; unfold upA; split; simp; exact h1
 cn := fun j hj => by
  unfold upN
  by_cases hji : j = i
  ·rw [if_pos hji]; exact Or.inl rfl
  ·rw [if_neg hji]
   have hj' : A j ≠ none := by unfold upA at hj; rw [if_neg hji] at hj; exact hj
   rcases m.cn j hj' with h1 | h1
   ·exact Or.inl h1
   ·right; unfold upA; split; simp; exact h1
theorem nodeSize : (Tryd.prog.info? 168).map (·.size) = some 5 := by kernel_rfl
theorem equalS (a : Addr) (w : World) : (Op.equal 162 (.pointer (some a)) (.pointer (some a))).run Tryd.prog w = .ok true w := by
 obtain ⟨j, hj, hjs⟩ := Option.map_eq_some_iff.1 nodeSize
 have h : ∀ d : Nat, (Op.equalIn (d + 1) 162 (.pointer (some a)) (.pointer (some a))).run Tryd.prog w = .ok true w := fun d => by
  simp [Op.equalIn, run_underlying Tryd.underlying162, sizeOf, typeInfo, hj, run_sameAddr_same]
 simp [Op.equal, Op.maxDepth, h 9999]
theorem equalO {a b : Addr} {ca cb : Array Value} {ta tb : TypeId} (w : World) (hne : a ≠ b) (ha : w.heap[a.block]? = some (.cells ca ta (0, 0))) (hb : w.heap[b.block]? = some (.cells cb tb (0, 0))) :
  (Op.equal 162 (.pointer (some a)) (.pointer (some b))).run Tryd.prog w = .ok false w := by
 obtain ⟨j, hj, hjs⟩ := Option.map_eq_some_iff.1 nodeSize
 have hsz : j.size ≠ 0 := by rw [hjs]; decide
 have h : ∀ d : Nat, (Op.equalIn (d + 1) 162 (.pointer (some a)) (.pointer (some b))).run Tryd.prog w = .ok false w := fun d => by
  simp [Op.equalIn, run_underlying Tryd.underlying162, sizeOf, typeInfo, hj, hsz, run_sameAddr_other w hne ha hb]
 simp [Op.equal, Op.maxDepth, h 9999]
theorem eqS (a : Addr) (w : World) : (binOp .eql 162 (.pointer (some a)) (.pointer (some a))).run Tryd.prog w = .ok (.bool true) w := by
 simp only [binOp]; simp [equalS]
theorem neS (a : Addr) (w : World) : (binOp .neq 162 (.pointer (some a)) (.pointer (some a))).run Tryd.prog w = .ok (.bool false) w := by
 simp only [binOp]; simp [equalS]
theorem eqO {a b : Addr} {ca cb : Array Value} {ta tb : TypeId} (w : World) (hne : a ≠ b) (ha : w.heap[a.block]? = some (.cells ca ta (0, 0))) (hb : w.heap[b.block]? = some (.cells cb tb (0, 0))) :
  (binOp .eql 162 (.pointer (some a)) (.pointer (some b))).run Tryd.prog w = .ok (.bool false) w := by
 simp only [binOp]; simp [equalO w hne ha hb]
theorem neO {a b : Addr} {ca cb : Array Value} {ta tb : TypeId} (w : World) (hne : a ≠ b) (ha : w.heap[a.block]? = some (.cells ca ta (0, 0))) (hb : w.heap[b.block]? = some (.cells cb tb (0, 0))) :
  (binOp .neq 162 (.pointer (some a)) (.pointer (some b))).run Tryd.prog w = .ok (.bool true) w := by
 simp only [binOp]; simp [equalO w hne ha hb]
theorem blk_ne {b c : Nat} (h : b ≠ c) : (⟨b, 0, none⟩ : Addr) ≠ ⟨c, 0, none⟩ := fun e => h (congrArg Addr.block e)
theorem Mem.eqn {w : World} {n0 F : Nat} {A : Nat → Option Nat} {h : Nat → Nd} (m : Mem w n0 F A h) {i j b c : Nat} (hi : A i = some b) (hj : A j = some c) (hne : i ≠ j) : (binOp .eql 162 (.pointer (some ⟨b, 0, none⟩)) (.pointer (some ⟨c, 0, none⟩))).run Tryd.prog w = .ok (.bool false) w :=
 eqO w (blk_ne fun e => hne (m.inj i j b hi (e ▸ hj))) (m.nod i b hi) (m.nod j c hj)
theorem Mem.nen {w : World} {n0 F : Nat} {A : Nat → Option Nat} {h : Nat → Nd} (m : Mem w n0 F A h) {i j b c : Nat} (hi : A i = some b) (hj : A j = some c) (hne : i ≠ j) : (binOp .neq 162 (.pointer (some ⟨b, 0, none⟩)) (.pointer (some ⟨c, 0, none⟩))).run Tryd.prog w = .ok (.bool true) w :=
 neO w (blk_ne fun e => hne (m.inj i j b hi (e ▸ hj))) (m.nod i b hi) (m.nod j c hj)
def findA (A : Nat → Option Nat) (id : Int) : Option Nat := if 0 ≤ id ∧ id < 37 then A id.toNat else none
theorem find_any {w : World} {n0 F : Nat} {A : Nat → Option Nat} {h : Nat → Nd} (m : Mem w n0 F A h) (id : Int) :
  Calls Tryd.prog 131 #[.pointer (some ⟨F, 0, none⟩), .int .i64 id] w fun e w' => e = .returned (.pointer (pa (findA A id))) ∧ w' = w := by
 unfold findA
 by_cases h0 : id < 0
 ·rw [if_neg (by omega)]
  have hd : decide (id < 0) = true := decide_eq_true h0
  go_enter Tryd.func131, Tryd.ntmps131
  go_wp2
  go_ret
  exact ⟨rfl, rfl⟩
 ·by_cases h1 : 37 ≤ id
  ·rw [if_neg (by omega)]
   have hd : decide (id < 0) = false := decide_eq_false h0
   have hd1 : decide (37 ≤ id) = true := decide_eq_true h1
   go_enter Tryd.func131, Tryd.ntmps131
   go_wp2
   go_ret
   exact ⟨rfl, rfl⟩
  ·rw [if_pos (by omega)]
   obtain ⟨i, rfl⟩ := Int.eq_ofNat_of_zero_le (show 0 ≤ id by omega)
   have hd : decide ((i : Int) < 0) = false := decide_eq_false h0
   have hd1 : decide (37 ≤ (i : Int)) = false := decide_eq_false h1
   have hc := m.cF i (by omega)
   have hi : (i : Int) < 37 := by omega
   have hi0 : 0 ≤ (i : Int) := by omega
   rw [Int.toNat_natCast]
   go_enter Tryd.func131, Tryd.ntmps131
   go_wp2
   go_ret
   exact ⟨rfl, rfl⟩
theorem nodeC_2 (A : Nat → Option Nat) (i : Nat) (x : Nd) (u : Nat) : (nodeC A i x).setIfInBounds 2 (.pointer (pa (A u))) = nodeC A i ⟨x.t, u, x.first, x.next⟩ := rfl
theorem nodeC_3 (A : Nat → Option Nat) (i : Nat) (x : Nd) (u : Nat) : (nodeC A i x).setIfInBounds 3 (.pointer (pa (A u))) = nodeC A i ⟨x.t, x.up, u, x.next⟩ := rfl
theorem nodeC_4 (A : Nat → Option Nat) (i : Nat) (x : Nd) (u : Nat) : (nodeC A i x).setIfInBounds 4 (.pointer (pa (A u))) = nodeC A i ⟨x.t, x.up, x.first, u⟩ := rfl
theorem nodeC_1 (A : Nat → Option Nat) (i : Nat) (x : Nd) (t : ByteArray) : (nodeC A i x).setIfInBounds 1 (.string t) = nodeC A i ⟨t, x.up, x.first, x.next⟩ := rfl
theorem Mem.setU {w : World} {n0 F : Nat} {A : Nat → Option Nat} {h : Nat → Nd} (m : Mem w n0 F A h) {i b : Nat} (e : A i = some b) (u : Nat) (hu : u = 0 ∨ A u ≠ none) : Mem (w.setCell ⟨b, 2, none⟩ (.pointer (pa (A u)))) n0 F A (upN h i ⟨(h i).t, u, (h i).first, (h i).next⟩) :=
 m.set e 2 _ _ (nodeC_2 A i (h i) u) hu (m.cf i (by rw [e]; simp)) (m.cn i (by rw [e]; simp))
theorem Mem.setF {w : World} {n0 F : Nat} {A : Nat → Option Nat} {h : Nat → Nd} (m : Mem w n0 F A h) {i b : Nat} (e : A i = some b) (u : Nat) (hu : u = 0 ∨ A u ≠ none) : Mem (w.setCell ⟨b, 3, none⟩ (.pointer (pa (A u)))) n0 F A (upN h i ⟨(h i).t, (h i).up, u, (h i).next⟩) :=
 m.set e 3 _ _ (nodeC_3 A i (h i) u) (m.cu i (by rw [e]; simp)) hu (m.cn i (by rw [e]; simp))
theorem Mem.setN {w : World} {n0 F : Nat} {A : Nat → Option Nat} {h : Nat → Nd} (m : Mem w n0 F A h) {i b : Nat} (e : A i = some b) (u : Nat) (hu : u = 0 ∨ A u ≠ none) : Mem (w.setCell ⟨b, 4, none⟩ (.pointer (pa (A u)))) n0 F A (upN h i ⟨(h i).t, (h i).up, (h i).first, u⟩) :=
 m.set e 4 _ _ (nodeC_4 A i (h i) u) (m.cu i (by rw [e]; simp)) (m.cf i (by rw [e]; simp)) hu
theorem Mem.setT {w : World} {n0 F : Nat} {A : Nat → Option Nat} {h : Nat → Nd} (m : Mem w n0 F A h) {i b : Nat} (e : A i = some b) (t : ByteArray) : Mem (w.setCell ⟨b, 1, none⟩ (.string t)) n0 F A (upN h i ⟨t, (h i).up, (h i).first, (h i).next⟩) :=
 m.set e 1 _ _ (nodeC_1 A i (h i) t) (m.cu i (by rw [e]; simp)) (m.cf i (by rw [e]; simp)) (m.cn i (by rw [e]; simp))
theorem attach_first {w : World} {n0 F : Nat} {A : Nat → Option Nat} {h : Nat → Nd} (m : Mem w n0 F A h) {i u bi bu : Nat} (hi : A i = some bi) (hu : A u = some bu) (hne : u ≠ i) :
  Calls Tryd.prog 130 #[.pointer (some ⟨bi, 0, none⟩), .pointer (some ⟨bu, 0, none⟩), .pointer none] w fun e w' => (∃ v, e = .returned v) ∧ Mem w' n0 F A (attachH h i u 0) ∧ Below n0 w w' ∧ (∀ k, (∀ x, A x ≠ some k) → w'.heap[k]? = w.heap[k]?) := by
 have hnb : bu ≠ bi := fun e => hne (m.inj u i bu hu (e ▸ hi))
 have hnb' : bi ≠ bu := fun e => hnb e.symm
 have c3 := m.c3 hu
 have c4 := m.c4 hi
 have c2 := m.c2 hi
 have z2 := m.fz hi 2
 have z4 := m.fz hi 4
 have z3 := m.fz hu 3
 have M3 := Aside0.mk (((m.setU hi u (Or.inr (by rw [hu]; simp))).setN hi (h u).first (m.cf u (by rw [hu]; simp))).setF hu i (Or.inr (by rw [hi]; simp)))
 rw [hu, hi, pa_some, pa_some] at M3
 have L1 := m.lo i bi hi
 have L2 := m.lo u bu hu
 have HI := Aside0.mk hi
 have HU := Aside0.mk hu
 clear m hi hu
 go_enter Tryd.func130, Tryd.ntmps130
 go_wp2
 refine bodyPost_ret (results_none rfl _ _ _) rfl ?_
 refine ⟨⟨_, rfl⟩, M3.out.ext (fun j => ?_), (((Below.refl n0 w).setCell (p := ⟨bi, 2, none⟩) L1 _).setCell (p := ⟨bi, 4, none⟩) L1 _).setCell (p := ⟨bu, 3, none⟩) L2 _, fun k hk => by
  rw [Below.heap_setCell _ _ _ _ (fun e => hk u (by rw [HU.out, e])), Below.heap_setCell _ _ _ _ (fun e => hk i (by rw [HI.out, e])), Below.heap_setCell _ _ _ _ (fun e => hk i (by rw [HI.out, e]))]⟩
 unfold attachH upN
 by_cases e1 : j = u
 ·subst e1; simp [hne]
 ·by_cases e2 : j = i
  ·subst e2; simp [e1]
  ·simp [e1, e2]
theorem attach_behind {w : World} {n0 F : Nat} {A : Nat → Option Nat} {h : Nat → Nd} (m : Mem w n0 F A h) {i u a bi bu ba : Nat} (hi : A i = some bi) (hu : A u = some bu) (ha : A a = some ba) (hne : a ≠ i) :
  Calls Tryd.prog 130 #[.pointer (some ⟨bi, 0, none⟩), .pointer (some ⟨bu, 0, none⟩), .pointer (some ⟨ba, 0, none⟩)] w fun e w' => (∃ v, e = .returned v) ∧ Mem w' n0 F A (attachH h i u a) ∧ Below n0 w w' ∧ (∀ k, (∀ x, A x ≠ some k) → w'.heap[k]? = w.heap[k]?) := by
 have hnb : ba ≠ bi := fun e => hne (m.inj a i ba ha (e ▸ hi))
 have hnb' : bi ≠ ba := fun e => hnb e.symm
 have ha0 : a ≠ 0 := fun e => by rw [e, m.z] at ha; cases ha
 have c4 := m.c4 hi
 have c2 := m.c2 hi
 have d4 := m.c4 ha
 have z2 := m.fz hi 2
 have z4 := m.fz hi 4
 have z3 := m.fz ha 4
 have M3 := Aside0.mk (((m.setU hi u (Or.inr (by rw [hu]; simp))).setN hi (h a).next (m.cn a (by rw [ha]; simp))).setN ha i (Or.inr (by rw [hi]; simp)))
 rw [hu, hi, pa_some, pa_some] at M3
 have L1 := m.lo i bi hi
 have L2 := m.lo a ba ha
 have HI := Aside0.mk hi
 have HA := Aside0.mk ha
 clear m hi hu ha
 go_enter Tryd.func130, Tryd.ntmps130
 go_wp2
 go_end0
 refine ⟨⟨_, rfl⟩, M3.out.ext (fun j => ?_), (((Below.refl n0 w).setCell (p := ⟨bi, 2, none⟩) L1 _).setCell (p := ⟨bi, 4, none⟩) L1 _).setCell (p := ⟨ba, 4, none⟩) L2 _, fun k hk => by
  rw [Below.heap_setCell _ _ _ _ (fun e => hk a (by rw [HA.out, e])), Below.heap_setCell _ _ _ _ (fun e => hk i (by rw [HI.out, e])), Below.heap_setCell _ _ _ _ (fun e => hk i (by rw [HI.out, e]))]⟩
 unfold attachH upN
 rw [if_neg ha0]
 by_cases e1 : j = a
 ·subst e1; simp [hne]
 ·by_cases e2 : j = i
  ·subst e2; simp [e1]
  ·simp [e1, e2]
def withinF (h : Nat → Nd) (u : Nat) : Nat → Nat → Option Bool
 | 0, _ => none
 | k + 1, x => if x = 0 then some false else if x = u then some true else withinF h u k (h x).up
set_option maxRecDepth 100000 in
set_option maxHeartbeats 1000000 in
theorem within_any {w : World} {n0 F : Nat} {A : Nat → Option Nat} {h : Nat → Nd} (m : Mem w n0 F A h) (x u : Nat) (hx : x = 0 ∨ A x ≠ none) {c : Nat} (hu : A u = some c) (k : Nat) (r : Bool) (hr : withinF h u k x = some r) :
  Calls Tryd.prog 150 #[.pointer (pa (A x)), .pointer (some ⟨c, 0, none⟩)] w fun e w' => e = .returned (.bool r) ∧ w' = w := by
 have HX := Aside0.mk hx
 have HR := Aside0.mk hr
 have M := Aside0.mk m
 have HU := Aside0.mk hu
 clear hx hr m hu
 go_enter Tryd.func150, Tryd.ntmps150
 go_wp2
 go_loopg [0] k (fun kq v w' => ∃ y : Nat, v = .pointer (pa (A y)) ∧ Aside0 (y = 0 ∨ A y ≠ none) ∧ Aside0 (withinF h u kq y = some r) ∧ w' = w)
 case atStart => exact ⟨x, rfl, HX, HR, rfl⟩
 case round =>
  obtain ⟨y, rfl, HY, HQ, rfl⟩ := hrel
  clear HX HR
  cases gk with
  | zero => exact absurd HQ.out (by simp [withinF])
  | succ k1 =>
   have hq := HQ.out
   clear HQ
   unfold withinF at hq
   by_cases hy0 : y = 0
   ·rw [if_pos hy0] at hq
    obtain rfl := Option.some.inj hq
    subst hy0
    have hz := M.out.z
    rw [hz, pa_none]
    clear hq hz HY
    go_wp2
    go_ret
    exact ⟨rfl, rfl⟩
   ·rw [if_neg hy0] at hq
    obtain ⟨b, hb⟩ := Option.ne_none_iff_exists'.1 (HY.out.resolve_left hy0)
    have HB := Aside0.mk hb
    have HC := HU
    clear hb
    by_cases hyu : y = u
    ·rw [if_pos hyu] at hq
     obtain rfl := Option.some.inj hq
     subst hyu
     obtain rfl : b = c := Option.some.inj (HB.out.symm.trans HC.out)
     rw [HB.out, pa_some]
     have hE := eqS ⟨b, 0, none⟩ wr
     clear hq
     go_wp2
     go_ret
     exact ⟨rfl, rfl⟩
    ·rw [if_neg hyu] at hq
     have hbc : b ≠ c := fun e => hyu (M.out.inj y u b HB.out (e ▸ HC.out))
     have c2 := M.out.c2 HB.out
     have HQ := Aside0.mk hq
     have HUP := Aside0.mk (M.out.cu y (by rw [HB.out]; simp))
     have hE := M.out.eqn HB.out HC.out hyu
     rw [HB.out, pa_some]
     clear hq
     go_wp2
     go_roundg k1
     case measure => exact Nat.lt_succ_self _
     case rel => exact ⟨(h y).up, rfl, HUP, HQ, rfl⟩
end Go.Proofs.YtdpklbomhdpimaaDoor.P
namespace Go.Proofs.YtdpklbomhdpimaaDoor.P
open Go.RowKit Go.Shelf Go.Proofs.YtdpklbomhdpimaaDoorW.PrintWords Go.Proofs.YtdpklbomhdpimaaDoorW.PrintLast Go.Proofs.YtdpklbomhdpimaaDoorW.PrintMore Go.Proofs.YtdpklbomhdpimaaDoor.FP
attribute [local go_sem] Oper.semAt_some

def NList (A : Nat → Option Nat) (n0 : Nat) (W : World) : Option Addr → List Nat → Prop
 | p, [] => p = none
 | p, x :: rest => ∃ b q, A x = some b ∧ p = some ⟨b, 0, none⟩ ∧ b < n0 ∧ W.cell? ⟨b, 4, none⟩ = some (.pointer q) ∧ NList A n0 W q rest
theorem NList.below {A : Nat → Option Nat} {n0 : Nat} {V W : World} (h : Below n0 V W) : ∀ {p : Option Addr} {xs : List Nat}, NList A n0 V p xs → NList A n0 W p xs
 | _, [], hl => hl
 | _, _ :: _, ⟨b, q, h1, h2, h3, h4, h5⟩ => ⟨b, q, h1, h2, h3, (h.cell (p := ⟨b, 4, none⟩) h3).trans h4, NList.below h h5⟩
theorem NList.len {A : Nat → Option Nat} {n0 : Nat} {W : World} : ∀ {xs ys : List Nat} {p : Option Addr}, NList A n0 W p xs → NList A n0 W p ys → xs.length = ys.length
 | [], [], _, _, _ => rfl
 | [], _ :: _, _, h, ⟨b, q, _, h2, _⟩ => by rw [show _ = none from h] at h2; cases h2
 | _ :: _, [], _, ⟨b, q, _, h2, _⟩, h => by rw [show _ = none from h] at h2; cases h2
 | _ :: _, _ :: _, _, ⟨b, q, h1, h2, h3, h4, h5⟩, ⟨c, r, g1, g2, g3, g4, g5⟩ => by
  rw [h2] at g2
  obtain rfl : b = c := congrArg Addr.block (Option.some.inj g2)
  rw [h4] at g4
  obtain rfl : q = r := by injection g4 with e; injection e
  rw [List.length_cons, List.length_cons, NList.len h5 g5]
open Classical in
noncomputable def nleft (A : Nat → Option Nat) (n0 : Nat) (W : World) (v : Value) : Nat :=
 if h : ∃ r : Option Addr × List Nat, v = .pointer r.1 ∧ NList A n0 W r.1 r.2 then (Classical.choose h).2.length else 0
theorem nleft_eq {A : Nat → Option Nat} {n0 : Nat} {W : World} {q : Option Addr} {xs : List Nat} (h : NList A n0 W q xs) : nleft A n0 W (.pointer q) = xs.length := by
 have hex : ∃ r : Option Addr × List Nat, Value.pointer q = .pointer r.1 ∧ NList A n0 W r.1 r.2 := ⟨(q, xs), rfl, h⟩
 unfold nleft
 rw [dif_pos hex]
 obtain ⟨e, hl⟩ := Classical.choose_spec hex
 have e' : q = (Classical.choose hex).1 := by simpa using e
 rw [← e'] at hl
 exact NList.len hl h
theorem nlist_of {w : World} {n0 F : Nat} {A : Nat → Option Nat} {h : Nat → Nd} (m : Mem w n0 F A h) {up : Nat} : ∀ {G : Fo}, Rep h up G → (∀ x ∈ G.ids, A x ≠ none) → NList A w.heap.size w (pa (A G.hd)) G.tops
 | .nil, _, _ => by show pa (A 0) = none; rw [m.z]; rfl
 | .nd i t k n, ⟨h1, h2, h3, h4⟩, hA => by
  obtain ⟨b, hb⟩ := Option.ne_none_iff_exists'.1 (hA i (by simp [Fo.ids]))
  refine ⟨b, pa (A n.hd), hb, by show pa (A i) = _; rw [hb]; rfl, m.lt hb, ?_, nlist_of m h4 fun x hx => hA x (by simp [Fo.ids, hx])⟩
  rw [m.c4 hb, h2]
theorem kids_in (F : Fence) (n : Nat) (hf : F.fn 156) (hro : F.round = none) (p0 : Option Addr) (w : World) :
  CallsIn F n Tryd.prog 156 #[.pointer p0] w fun e w' => e = .returned (.func (.func 157) #[] #[.pointer (some ⟨w.heap.size, 0, none⟩)]) ∧ w' = w.alloc (.cells #[.pointer p0] 162) := by
 refine callsIn_of_wp Tryd.func156 rfl hf ?_ hro
 simp only [Tryd.ntmps156, List.size_toArray, List.length_cons, List.length_nil, Nat.reduceAdd, Nat.reduceSub, Array.replicate_succ, Array.replicate_zero, List.push_toArray, List.append_toArray, List.nil_append, List.cons_append]
 gi_wp2
 go_ret
 exact ⟨rfl, rfl⟩
structure KA (Q : Nat → Prop) where
 val : Nat
 ok : Q val
set_option maxRecDepth 100000 in
set_option maxHeartbeats 1000000 in
theorem kids1_in (F : Fence) (n : Nat) (hf : F.fn 157) (hro : F.round = none) (hn : 1 ≤ n) (l Bn n0 b : Nat) (Q : Nat → Prop) (A : Nat → Option Nat) (p0 : Option Addr) (xs : List (KA Q)) (J Jx : List (KA Q) → World → Prop)
  (hY : ∀ pre x W, J pre W → pre.length < xs.length → YieldAt F (n - 1) Tryd.prog l #[.pointer (pa (A x.val))] W fun e W' =>
   (e = .returned (.bool true) ∧ J (pre ++ [x]) W' ∧ Below n0 W W') ∨ (e = .returned (.bool false) ∧ Jx (pre ++ [x]) W'))
  (W : World) (hBn : W.cell? ⟨Bn, 0, none⟩ = some (.pointer (some ⟨b, 0, none⟩))) (hb3 : W.cell? ⟨b, 3, none⟩ = some (.pointer p0)) (hL : NList A n0 W p0 (xs.map KA.val)) (h0 : J [] W) :
  CallsIn F n Tryd.prog 157 #[.func (.yield l) #[] #[], .pointer (some ⟨Bn, 0, none⟩)] W fun e W' => (∃ v, e = .returned v) ∧
   ((∃ ys, ys = xs ∧ J ys W') ∨ (∃ pre, pre <+: xs ∧ Jx pre W')) := by
 refine callsIn_of_wp Tryd.func157 rfl hf ?_ hro
 simp only [Tryd.ntmps157, List.size_toArray, List.length_cons, List.length_nil, Nat.reduceAdd, Nat.reduceSub, Array.replicate_succ, Array.replicate_zero, List.push_toArray, List.append_toArray, List.nil_append, List.cons_append]
 gi_wp2
 gi_loopw [3] (fun p wr => ∃ (pre rest : List (KA Q)) (q : Option Addr), p = .pointer q ∧ xs = pre ++ rest ∧ NList A n0 wr q (rest.map KA.val) ∧ J pre wr)
  (fun p wr => nleft A n0 wr p)
 case atStart =>
  exact ⟨[], xs, p0, rfl, rfl, hL, h0⟩
 case round =>
  obtain ⟨pre, rest, q, rfl, hx, hl, hJs⟩ := hrel
  cases rest with
  | nil =>
   obtain rfl : q = none := hl
   gi_wp2
   go_end0
   exact ⟨⟨_, rfl⟩, .inl ⟨pre, by simp [hx], hJs⟩⟩
  | cons x rest =>
   have hl' := hl
   obtain ⟨c, q', hA, rfl, hc, hq, hr⟩ := hl
   obtain ⟨fn, tmps, assign, body, hy, hR⟩ := hY pre x wr hJs (by rw [hx]; simp)
   rw [hA, pa_some] at hy
   have HA := Aside0.mk hA
   clear hA
   gi_wp2
   refine hR.mono ?_
   rintro e W3 (⟨rfl, hJ3, hk3⟩ | ⟨rfl, hJx3⟩)
   ·have hq3 : W3.cell? ⟨c, 4, none⟩ = some (.pointer q') := (hk3.cell (p := ⟨c, 4, none⟩) hc).trans hq
    gi_wp2
    go_roundw
    case rel => exact ⟨pre ++ [x], rest, q', rfl, by simp [hx], hr.below hk3, hJ3⟩
    case measure => rw [nleft_eq (hr.below hk3), nleft_eq hl']; simp
   ·gi_wp2
    refine bodyPost_ret (results_none rfl _ _ _) rfl ?_
    exact ⟨⟨_, rfl⟩, .inr ⟨pre ++ [x], ⟨rest, by simp [hx]⟩, hJx3⟩⟩
theorem kids_stops (F : Fence) (n : Nat) (hf : F.fn 157) (hro : F.round = none) (hn : 1 ≤ n) (Bn n0 b : Nat) (Q : Nat → Prop) (A : Nat → Option Nat) (p0 : Option Addr) (xs : List (KA Q)) (w : World) (hBn : Bn < w.heap.size) (hn0 : n0 ≤ w.heap.size) (hb : b < w.heap.size)
  (hc : w.cell? ⟨Bn, 0, none⟩ = some (.pointer (some ⟨b, 0, none⟩))) (hb3 : w.cell? ⟨b, 3, none⟩ = some (.pointer p0)) (hL : NList A n0 w p0 (xs.map KA.val)) :
  SeqStopsK F n Tryd.prog 157 #[.pointer (some ⟨Bn, 0, none⟩)] (fun x : KA Q => #[.pointer (pa (A x.val))]) (Below n0) (fun ys => ys = xs) (fun pre => pre <+: xs) xs.length w := fun l J Jx W hW _ _ hY h0 =>
 kids1_in F n hf hro hn l Bn n0 b Q A p0 xs J Jx hY W ((hW.cell (p := ⟨Bn, 0, none⟩) hBn).trans hc) ((hW.cell (p := ⟨b, 3, none⟩) hb).trans hb3) (hL.below (hW.mono hn0)) h0
theorem attach_val {Q : Nat → Prop} : ∀ {l : List Nat} (h : ∀ x ∈ l, Q x), ∃ xs : List (KA Q), xs.map KA.val = l
 | [], _ => ⟨[], rfl⟩
 | x :: l, h => by
  obtain ⟨xs, hx⟩ := attach_val (l := l) fun y hy => h y (List.mem_cons_of_mem _ hy)
  exact ⟨⟨x, h x List.mem_cons_self⟩ :: xs, by rw [List.map_cons, hx]⟩
def pv (i : Nat) : Nat → List Nat → Nat
 | p, [] => p
 | p, y :: r => if y = i then p else pv i y r
def lastN (p : Nat) (l : List Nat) : Nat := l.foldl (fun _ y => y) p
theorem pv_done (i : Nat) : ∀ (l : List Nat) (p : Nat), (∀ y ∈ l, y ≠ i) → pv i p l = lastN p l
 | [], p, _ => rfl
 | y :: r, p, h => by
  unfold pv
  rw [if_neg (h y List.mem_cons_self), pv_done i r y fun z hz => h z (List.mem_cons_of_mem _ hz)]
  rfl
theorem pv_stop (i : Nat) (rest : List Nat) : ∀ (l : List Nat) (p : Nat), (∀ y ∈ l, y ≠ i) → pv i p (l ++ i :: rest) = lastN p l
 | [], p, _ => by show pv i p (i :: rest) = p; unfold pv; rw [if_pos rfl]
 | y :: r, p, h => by
  show pv i p (y :: (r ++ i :: rest)) = _
  unfold pv
  rw [if_neg (h y List.mem_cons_self), pv_stop i rest r y fun z hz => h z (List.mem_cons_of_mem _ hz)]
  rfl
theorem lastN_snoc (p : Nat) (l : List Nat) (x : Nat) : lastN p (l ++ [x]) = x := by simp [lastN]
theorem cell_of_box_f {W : World} {B : Nat} {v : Value} {t : TypeId} (h : W.heap[B]? = some (.cells #[v] t (0, 0))) : W.cell? ⟨B, 0, none⟩ = some v ∧ W.frozen? ⟨B, 0, none⟩ = false := by
 constructor <;> simp [World.cell?, World.frozen?, h]
theorem cell_new_f (W : World) (v : Value) (t : TypeId) : (W.alloc (.cells #[v] t)).cell? ⟨W.heap.size, 0, none⟩ = some v ∧ (W.alloc (.cells #[v] t)).frozen? ⟨W.heap.size, 0, none⟩ = false :=
 cell_of_box_f (World.alloc_heap_new W _)
theorem cell_alloc_f {W : World} {a : Addr} {v : Value} (o : Obj) (h : W.cell? a = some v) : (W.alloc o).cell? a = some v := cell_kept h (World.grownBy_alloc W o none) (fun r e => by cases e)
theorem frozen_alloc_f {W : World} {a : Addr} {v : Value} (o : Obj) (h : W.cell? a = some v) (hf : W.frozen? a = false) : (W.alloc o).frozen? a = false := (frozen_kept h (World.grownBy_alloc W o none) (fun r e => by cases e)).trans hf
def AheadI (w : World) (A : Nat → Option Nat) (i b : Nat) (pre : List (KA fun x => A x ≠ none)) (W : World) : Prop :=
 (∀ y ∈ pre, y.val ≠ i) ∧ W.cell? ⟨w.heap.size, 0, none⟩ = some (.pointer (some ⟨b, 0, none⟩)) ∧ W.cell? ⟨w.heap.size + 1, 0, none⟩ = some (.pointer (pa (A (lastN 0 (pre.map KA.val))))) ∧ W.frozen? ⟨w.heap.size + 1, 0, none⟩ = false
def AheadX (w : World) (A : Nat → Option Nat) (i : Nat) (c : Code) (pre : List (KA fun x => A x ≠ none)) (W : World) : Prop :=
 c = .exit 0 ∧ ∃ (pre' : List (KA fun x => A x ≠ none)) (x : KA fun x => A x ≠ none), pre = pre' ++ [x] ∧ x.val = i ∧ (∀ y ∈ pre', y.val ≠ i) ∧ W.cell? ⟨w.heap.size + 1, 0, none⟩ = some (.pointer (pa (A (lastN 0 (pre'.map KA.val)))))
theorem aheadI_own (w : World) (A : Nat → Option Nat) (i b : Nat) : Own (AheadI w A i b) := fun s V W row hs hg hr => ⟨hs.1, cell_kept hs.2.1 hg hr, cell_kept hs.2.2.1 hg hr, (frozen_kept hs.2.2.1 hg hr).trans hs.2.2.2⟩
theorem aheadX_own (w : World) (A : Nat → Option Nat) (i : Nat) (c : Code) : Own (AheadX w A i c) := fun s V W row hs hg hr => by
 obtain ⟨e1, p', x, e2, e3, e4, e5⟩ := hs
 exact ⟨e1, p', x, e2, e3, e4, cell_kept e5 hg hr⟩
set_option maxRecDepth 100000 in
set_option maxHeartbeats 2000000 in
theorem ahead_in (F : Fence) (n : Nat) (h79 : F.fn 151) (h56 : F.fn 156) (h76 : F.fn 157) (hro : F.round = none) (hn : 3 ≤ n) {w : World} {n0 Fb : Nat} {A : Nat → Option Nat} {h : Nat → Nd} (m : Mem w n0 Fb A h)
  {i u b bu : Nat} (hi : A i = some b) (hu : A u = some bu) (hup : (h i).up = u) (xs : List Nat) (hxs : ∀ x ∈ xs, A x ≠ none) (hL : NList A w.heap.size w (pa (A (h u).first)) xs) :
  CallsIn F n Tryd.prog 151 #[.pointer (some ⟨b, 0, none⟩)] w fun e W' => e = .returned (.pointer (pa (A (pv i 0 xs)))) ∧ Below w.heap.size w W' := by
 have h1 : 1 ≤ n := by omega
 obtain ⟨ys, hys⟩ := attach_val (Q := fun x => A x ≠ none) hxs
 subst hys
 have hz := m.z
 have c2 := m.c2 hi
 rw [hup, hu, pa_some] at c2
 replace c2 := cell_alloc_f (.cells #[.pointer none] 162) (cell_alloc_f (.cells #[.pointer (some ⟨b, 0, none⟩)] 162) c2)
 have c3 := m.c3 hu
 have HBU := Aside0.mk (m.lt hu)
 have HB := Aside0.mk (m.lt hi)
 have M := Aside0.mk m
 have HI := Aside0.mk hi
 have HZ := Aside0.mk hz
 clear hz hi hu hup m
 refine callsIn_of_wp_marks Tryd.func151 rfl h79 ?_ hro
 simp only [Tryd.ntmps151, List.size_toArray, List.length_cons, List.length_nil, Nat.reduceAdd, Nat.reduceSub, Array.replicate_succ, Array.replicate_zero, List.push_toArray, List.append_toArray, List.nil_append, List.cons_append]
 gi_wp2_with (gi_at_call 156; refine (kids_in F (n - 1) h56 hro _ _).mono ?_; rintro e w' ⟨rfl, rfl⟩)
 have b0 := cell_new_f w (.pointer (some ⟨b, 0, none⟩)) 162
 have b1 := cell_new_f (w.alloc (.cells #[.pointer (some ⟨b, 0, none⟩)] 162)) (.pointer none) 162
 have b2 := cell_new_f ((w.alloc (.cells #[.pointer (some ⟨b, 0, none⟩)] 162)).alloc (.cells #[.pointer none] 162)) (.pointer (some ⟨bu, 0, none⟩)) 162
 simp only [World.size_alloc] at b1 b2
 have hB0 : Below w.heap.size w (((w.alloc (.cells #[.pointer (some ⟨b, 0, none⟩)] 162)).alloc (.cells #[.pointer none] 162)).alloc (.cells #[.pointer (some ⟨bu, 0, none⟩)] 162)) := (((Below.refl _ w).alloc (Nat.le_refl _) _).alloc (by simp) _).alloc (by simp; omega) _
 refine wpIn_rangeFunc_ownF hro h1 (gf := 157) (lb := #[.pointer (some ⟨w.heap.size + 1 + 1, 0, none⟩)]) rfl h76 (enters_of Tryd.func157 (by kernel_rfl) rfl)
  (kids_stops F (n - 1) h76 hro (by omega) (w.heap.size + 1 + 1) w.heap.size bu _ A _ ys _ (by simp) (by simp; omega) (by simp; have := HBU.out; omega) b2.1 (cell_alloc_f _ (cell_alloc_f _ (cell_alloc_f _ c3))) (hL.below hB0)) belowK_t (belowK_b (by simp; omega)) (Below.refl _ _) (fun _ => by rfl)
  (fun pre W => AheadI w A i b pre W ∧ Below w.heap.size w W)
  (fun c pre W => AheadX w A i c pre W ∧ Below w.heap.size w W)
  (OwnFrom.and (Own.from (aheadI_own w A i b) _) (ownFrom_below (Nat.le_refl _) (by simp; omega)))
  (fun c => OwnFrom.and (Own.from (aheadX_own w A i c) _) (ownFrom_below (Nat.le_refl _) (by simp; omega)))
  ⟨⟨by simp, cell_alloc_f _ (cell_alloc_f _ b0.1), by rw [show lastN 0 (([] : List (KA fun x => A x ≠ none)).map KA.val) = 0 from rfl, HZ.out]; exact cell_alloc_f _ b1.1, frozen_alloc_f _ b1.1 b1.2⟩, hB0⟩
  (fun x => { tmps := #[.pointer (some ⟨b, 0, none⟩), .pointer (some ⟨w.heap.size, 0, none⟩), .pointer none, .pointer (some ⟨w.heap.size + 1, 0, none⟩), .pointer (pa (A x.val)), .pointer (some ⟨b, 0, none⟩), .pointer (some ⟨b, 0, none⟩), .pointer (some ⟨b, 2, none⟩), .pointer (some ⟨bu, 0, none⟩), .func (.func 157) #[] #[.pointer (some ⟨w.heap.size + 1 + 1, 0, none⟩)], .pointer (pa (A x.val)), undef, undef, undef, undef, undef], defers := [] }) ?assign ?body ?done ?stop
 case assign =>
  intro l x W K hK
  gi_wp2
  exact hK
 case body =>
  rintro l pre x W ⟨⟨hp, hcn, hca, hfa⟩, hB⟩ _
  obtain ⟨c, hc⟩ := Option.ne_none_iff_exists'.1 x.ok
  have MW := M.out.below hB
  have hbelow : Below w.heap.size W (W.setCell ⟨w.heap.size + 1, 0, none⟩ (.pointer (some ⟨c, 0, none⟩))) := (Below.refl _ W).setCell (p := ⟨w.heap.size + 1, 0, none⟩) (by simp) _
  by_cases hx : x.val = i
  ·obtain rfl : c = b := by rw [hx, HI.out] at hc; exact (Option.some.inj hc).symm
   have hE := eqS ⟨c, 0, none⟩ W
   have HX := Aside0.mk hx
   rw [hc, pa_some]
   clear hx hc
   gi_wp2
   exact ⟨KeepsOthers.refl _, ⟨rfl, pre, x, rfl, HX.out, hp, hca⟩, hB⟩
  ·have hE := MW.eqn hc HI.out hx
   have HX := Aside0.mk hx
   have HC := Aside0.mk hc
   rw [hc, pa_some]
   clear hx hc
   gi_wp2
   refine ⟨KeepsOthers.setCell _ _ _, hbelow, ⟨fun y hy => ?_, ?_, ?_, ?_⟩, hB.trans hbelow⟩
   ·rcases List.mem_append.1 hy with hy | hy
    ·exact hp y hy
    ·rw [List.mem_singleton.1 hy]; exact HX.out
   ·rw [World.cell?_setCell_other _ _ _ _ (by intro e; have := congrArg Addr.block e; simp at this)]; exact hcn
   ·rw [List.map_append, List.map_cons, List.map_nil, lastN_snoc, HC.out]
    exact World.cell?_setCell_same' _ _ _ (by rw [hca]; rfl)
   ·rw [World.frozen?_setCell]; exact hfa
 case done =>
  rintro D zs W hD rfl ⟨⟨hp, _, hca, _⟩, hB⟩ hK
  gi_wp2
  refine ⟨by simp, .inl ⟨_, _, rfl, run_takeDeferred hK, ?_⟩⟩
  refine ⟨_, results_tmp rfl _ _ _, ?_, hB.trans (belowK_b (w := w) (Nat.le_refl _) W D _ _ (by simp at hD; omega) hK rfl rfl)⟩
  rw [pv_done i _ 0 (fun y hy => by obtain ⟨z, hz, rfl⟩ := List.mem_map.1 hy; exact hp z hz)]
  rfl
 case stop =>
  rintro D c pre W hD hpre ⟨⟨rfl, pre', x, rfl, hx, hp, hca⟩, hB⟩ hK
  gi_wp2
  refine ⟨by simp, .inl ⟨_, _, rfl, run_takeDeferred hK, ?_⟩⟩
  refine ⟨_, results_tmp rfl _ _ _, ?_, hB.trans (belowK_b (w := w) (Nat.le_refl _) W D _ _ (by simp at hD; omega) hK rfl rfl)⟩
  obtain ⟨rest, rfl⟩ := hpre
  rw [List.map_append, List.map_append, List.map_cons, List.map_nil, hx, List.append_assoc, List.singleton_append, pv_stop i _ _ 0 (fun y hy => by obtain ⟨z, hz, rfl⟩ := List.mem_map.1 hy; exact hp z hz)]
  rfl
theorem ahead_any {w : World} {n0 Fb : Nat} {A : Nat → Option Nat} {h : Nat → Nd} (m : Mem w n0 Fb A h)
  {i u b bu : Nat} (hi : A i = some b) (hu : A u = some bu) (hup : (h i).up = u) (xs : List Nat) (hxs : ∀ x ∈ xs, A x ≠ none) (hL : NList A w.heap.size w (pa (A (h u).first)) xs) :
  Calls Tryd.prog 151 #[.pointer (some ⟨b, 0, none⟩)] w fun e W' => e = .returned (.pointer (pa (A (pv i 0 xs)))) ∧ Below w.heap.size w W' :=
 (callsIn_wide (n := 3)).1 (ahead_in _ 3 trivial trivial trivial rfl (by omega) m hi hu hup xs hxs hL)
set_option maxRecDepth 100000 in
set_option maxHeartbeats 2000000 in
theorem detach_any {w : World} {n0 Fb : Nat} {A : Nat → Option Nat} {h : Nat → Nd} (m : Mem w n0 Fb A h)
  {i u b bu : Nat} (hi : A i = some b) (hu : A u = some bu) (hup : (h i).up = u) (hui : u ≠ i) (xs : List Nat) (hxs : ∀ x ∈ xs, A x ≠ none) (hL : NList A w.heap.size w (pa (A (h u).first)) xs) (hpv : pv i 0 xs ≠ 0 → A (pv i 0 xs) ≠ none ∧ pv i 0 xs ≠ i) :
  Calls Tryd.prog 133 #[.pointer (some ⟨b, 0, none⟩)] w fun e W' => (∃ v, e = .returned v) ∧ Mem W' n0 Fb A (detachH h i (pv i 0 xs)) ∧ Below n0 w W' := by
 have HA := Aside0.mk (ahead_any m hi hu hup xs hxs hL)
 generalize pv i 0 xs = a at HA hpv ⊢
 have HM := Aside0.mk m
 have HI := Aside0.mk hi
 have HU := Aside0.mk hu
 have HP := Aside0.mk hup
 have hne : bu ≠ b := fun e => hui (m.inj u i bu hu (e ▸ hi))
 have hne0 := Aside0.mk hui
 have HS := Aside0.mk (show n0 ≤ w.heap.size from Nat.le_of_lt (Nat.lt_of_le_of_lt (m.lo i b hi) (m.lt hi)))
 have L1 := Aside0.mk (m.lo i b hi)
 have L2 := Aside0.mk (m.lo u bu hu)
 by_cases ha : a = 0
 ·subst ha
  rw [m.z, pa_none] at HA
  have hne' : b ≠ bu := fun e => hne e.symm
  clear hL hpv m hi hu hup hui hxs
  go_enter Tryd.func133, Tryd.ntmps133
  go_wp2_with (go_at_call 151; refine (HA.out).mono ?_; clear HA; rintro e W1 ⟨rfl, hb1⟩; have HB1 := Aside0.mk hb1; have M1 := Aside0.mk (HM.out.below hb1); clear hb1)
  have c2 := M1.out.c2 HI.out
  rw [HP.out, HU.out, pa_some] at c2
  have c4 := M1.out.c4 HI.out
  have z2 := M1.out.fz HI.out 2
  have z4 := M1.out.fz HI.out 4
  have z3 := M1.out.fz HU.out 3
  have c3 := M1.out.c3 HU.out
  go_region
  all_goals go_wp2
  go_end0
  have z := M1.out.z
  have M4 := ((M1.out.setF HU.out (h i).next (M1.out.cn i (by rw [HI.out]; simp))).setU HI.out 0 (Or.inl rfl)).setN HI.out 0 (Or.inl rfl)
  rw [z, pa_none] at M4
  refine ⟨⟨_, rfl⟩, M4.drew.ext fun j => ?_, ?_⟩
  ·unfold upN detachH
   rw [HP.out]
   by_cases e1 : j = i
   ·subst e1; have e' : ¬ (j = u) := fun e => hne0.out e.symm
    simp [e']
   ·by_cases e2 : j = u
    ·subst e2; simp [e1]
    ·simp [e1, e2]
  ·exact ((((HB1.out.mono HS.out).setCell (p := ⟨bu, 3, none⟩) L2.out _).setCell (p := ⟨b, 2, none⟩) L1.out _).setCell (p := ⟨b, 4, none⟩) L1.out _).drew
 ·obtain ⟨hA1, hai⟩ := hpv ha
  obtain ⟨ba, hba⟩ := Option.ne_none_iff_exists'.1 hA1
  rw [hba, pa_some] at HA
  have HBA := Aside0.mk hba
  have hab : ba ≠ b := fun e => hai (m.inj a i ba hba (e ▸ hi))
  have hab' : b ≠ ba := fun e => hab e.symm
  have L3 := Aside0.mk (m.lo a ba hba)
  have ha0 := Aside0.mk ha
  have hai0 := Aside0.mk hai
  clear hL m hi hu hup hui hxs hba hA1 ha hai hne
  go_enter Tryd.func133, Tryd.ntmps133
  go_wp2_with (go_at_call 151; refine (HA.out).mono ?_; clear HA; rintro e W1 ⟨rfl, hb1⟩; have HB1 := Aside0.mk hb1; have M1 := Aside0.mk (HM.out.below hb1); clear hb1; have c4 := M1.out.c4 HI.out; have c2 := M1.out.c2 HI.out; have z2 := M1.out.fz HI.out 2; have z4 := M1.out.fz HI.out 4; have z3 := M1.out.fz HBA.out 4; have c3 := M1.out.c4 HBA.out)
  go_end0
  have z := M1.out.z
  have M4 := ((M1.out.setN HBA.out (h i).next (M1.out.cn i (by rw [HI.out]; simp))).setU HI.out 0 (Or.inl rfl)).setN HI.out 0 (Or.inl rfl)
  rw [z, pa_none] at M4
  refine ⟨⟨_, rfl⟩, M4.ext fun j => ?_, ?_⟩
  ·unfold upN detachH
   have ha := ha0.out
   have hai := hai0.out
   by_cases e1 : j = i
   ·subst e1; have e' : ¬ (j = a) := fun e => hai e.symm
    simp [e']
   ·by_cases e2 : j = a
    ·subst e2; simp [e1, ha]
    ·simp [e1, e2, ha]
  ·exact (((HB1.out.mono HS.out).setCell (p := ⟨ba, 4, none⟩) L3.out _).setCell (p := ⟨b, 2, none⟩) L1.out _).setCell (p := ⟨b, 4, none⟩) L1.out _
end Go.Proofs.YtdpklbomhdpimaaDoor.P
namespace Go.Proofs.YtdpklbomhdpimaaDoor.FP
open Go.Proofs.YtdpklbomhdpimaaDoor.P
theorem sub_ids (u : Nat) : ∀ {F : Fo} {y : Nat}, y ∈ (sub u F).ids → y ∈ F.ids
 | .nil, y, h => by simp [sub, Fo.ids] at h
 | .nd j t k n, y, h => by
  unfold sub at h
  split at h
  ·simp [Fo.ids, h]
  ·split at h
   ·simp [Fo.ids, sub_ids u h]
   ·simp [Fo.ids, sub_ids u h]
theorem sub_nodup (u : Nat) : ∀ {F : Fo}, F.ids.Nodup → (sub u F).ids.Nodup
 | .nil, _ => by simp [sub, Fo.ids]
 | .nd j t k n, hn => by
  obtain ⟨n1, n2, n3, n4, n5⟩ := nodup_nd hn
  unfold sub
  split
  ·exact n3
  ·split
   ·exact sub_nodup u n3
   ·exact sub_nodup u n4
theorem sub_self (u : Nat) : ∀ {F : Fo}, F.ids.Nodup → u ∉ (sub u F).ids
 | .nil, _ => by simp [sub, Fo.ids]
 | .nd j t k n, hn => by
  obtain ⟨n1, n2, n3, n4, n5⟩ := nodup_nd hn
  unfold sub
  split
  ·rename_i h; exact h ▸ n1
  ·split
   ·exact sub_self u n3
   ·exact sub_self u n4
theorem rep_sub {h : Nat → Nd} {u : Nat} : ∀ {F : Fo} {up : Nat}, Rep h up F → F.ids.Nodup → u ∈ F.ids → Rep h u (sub u F) ∧ (h u).first = (sub u F).hd
 | .nil, _, _, _, hx => by simp [Fo.ids] at hx
 | .nd j t k n, up, ⟨h1, h2, h3, h4⟩, hn, hx => by
  obtain ⟨n1, n2, n3, n4, n5⟩ := nodup_nd hn
  simp only [Fo.ids, List.mem_cons, List.mem_append] at hx
  unfold sub
  by_cases e : j = u
  ·subst e; rw [if_pos rfl]; exact ⟨h3, by rw [h2]⟩
  ·rw [if_neg e]
   by_cases hk : u ∈ k.ids
   ·rw [if_pos hk]; exact rep_sub h3 n3 hk
   ·rw [if_neg hk]; exact rep_sub h4 n4 (by rcases hx with g | g | g; exact absurd g.symm e; exact absurd g hk; exact g)
theorem reptop_sub {h : Nat → Nd} {u : Nat} : ∀ {F : Fo}, RepTop h F → F.ids.Nodup → u ∈ F.ids → Rep h u (sub u F) ∧ (h u).first = (sub u F).hd
 | .nil, _, _, hx => by simp [Fo.ids] at hx
 | .nd j t k n, ⟨h1, h2, h3, h4⟩, hn, hx => by
  obtain ⟨n1, n2, n3, n4, n5⟩ := nodup_nd hn
  simp only [Fo.ids, List.mem_cons, List.mem_append] at hx
  unfold sub
  by_cases e : j = u
  ·subst e; rw [if_pos rfl]; exact ⟨h3, by rw [h2]⟩
  ·rw [if_neg e]
   by_cases hk : u ∈ k.ids
   ·rw [if_pos hk]; exact rep_sub h3 n3 hk
   ·rw [if_neg hk]; exact reptop_sub h4 n4 (by rcases hx with g | g | g; exact absurd g.symm e; exact absurd g hk; exact g)
theorem rep_at {h : Nat → Nd} {x : Nat} : ∀ {F : Fo} {up : Nat}, Rep h up F → F.ids.Nodup → x ∈ F.ids → (x ∈ F.tops ∧ (h x).up = up) ∨ (x ∉ F.tops ∧ (h x).up ∈ F.ids)
 | .nil, _, _, _, hx => by simp [Fo.ids] at hx
 | .nd j u k n, up, ⟨h1, h2, h3, h4⟩, hn, hx => by
  obtain ⟨n1, n2, n3, n4, n5⟩ := nodup_nd hn
  simp only [Fo.ids, Fo.tops, List.mem_cons, List.mem_append, not_or] at hx ⊢
  rcases hx with rfl | hx | hx
  ·left; exact ⟨Or.inl rfl, by rw [h2]⟩
  ·right
   refine ⟨⟨fun e => n1 (e ▸ hx), fun e => n5 x hx (tops_ids e)⟩, ?_⟩
   rcases rep_at h3 n3 hx with ⟨_, e⟩ | ⟨_, e⟩
   ·exact Or.inl e
   ·exact Or.inr (Or.inl e)
  ·rcases rep_at h4 n4 hx with ⟨e1, e2⟩ | ⟨e1, e2⟩
   ·exact Or.inl ⟨Or.inr e1, e2⟩
   ·exact Or.inr ⟨⟨fun e => n2 (e ▸ hx), e1⟩, Or.inr (Or.inr e2)⟩
theorem sib_pv {h : Nat → Nd} {x : Nat} : ∀ {F : Fo} {up : Nat} (p : Nat), Rep h up F → F.ids.Nodup → x ∈ F.ids → sib x p F = if x ∈ F.tops then pv x p F.tops else pv x 0 (sub (h x).up F).tops
 | .nil, _, _, _, _, hx => by simp [Fo.ids] at hx
 | .nd j u k n, up, p, ⟨h1, h2, h3, h4⟩, hn, hx => by
  obtain ⟨n1, n2, n3, n4, n5⟩ := nodup_nd hn
  unfold sib
  by_cases e : j = x
  ·subst e
   rw [if_pos rfl, if_pos (by simp [Fo.tops])]
   show p = pv j p (j :: n.tops)
   unfold pv
   rw [if_pos rfl]
  ·rw [if_neg e]
   have e' : x ≠ j := fun g => e g.symm
   by_cases hk : x ∈ k.ids
   ·have hxn : x ∉ n.ids := n5 x hk
    rw [if_pos hk, if_neg (by simp only [Fo.tops, List.mem_cons, not_or]; exact ⟨e', fun g => hxn (tops_ids g)⟩), sib_pv 0 h3 n3 hk]
    rcases rep_at h3 n3 hk with ⟨g1, g2⟩ | ⟨g1, g2⟩
    ·rw [if_pos g1, g2]
     unfold sub
     rw [if_pos rfl]
    ·rw [if_neg g1]
     rw [show sub (h x).up (Fo.nd j u k n) = sub (h x).up k by
      rw [sub, if_neg (fun (g : j = (h x).up) => n1 (by rw [g]; exact g2)), if_pos g2]]
   ·have hxn : x ∈ n.ids := by
     simp only [Fo.ids, List.mem_cons, List.mem_append] at hx
     rcases hx with g | g | g
     ·exact absurd g e'
     ·exact absurd g hk
     ·exact g
    rw [if_neg hk, sib_pv j h4 n4 hxn]
    rcases rep_at h4 n4 hxn with ⟨g1, g2⟩ | ⟨g1, g2⟩
    ·rw [if_pos g1, if_pos (by simp [Fo.tops, g1])]
     show pv x j n.tops = pv x p (j :: n.tops)
     rw [pv, if_neg e]
    ·rw [if_neg g1, if_neg (by simp only [Fo.tops, List.mem_cons, not_or]; exact ⟨e', g1⟩)]
     rw [show sub (h x).up (Fo.nd j u k n) = sub (h x).up n by
      rw [sub, if_neg (fun (g : j = (h x).up) => n2 (by rw [g]; exact g2)), if_neg (fun g => n5 _ g g2)]]
theorem sibT_pv {h : Nat → Nd} {x : Nat} : ∀ {F : Fo}, RepTop h F → F.ids.Nodup → x ∈ F.ids → x ∉ F.tops → sibT x F = pv x 0 (sub (h x).up F).tops ∧ x ∈ (sub (h x).up F).tops
 | .nil, _, _, hx, _ => by simp [Fo.ids] at hx
 | .nd j u k n, ⟨h1, h2, h3, h4⟩, hn, hx, ht => by
  obtain ⟨n1, n2, n3, n4, n5⟩ := nodup_nd hn
  simp only [Fo.ids, Fo.tops, List.mem_cons, List.mem_append, not_or] at hx ht
  unfold sibT
  by_cases hk : x ∈ k.ids
  ·rw [if_pos hk, sib_pv 0 h3 n3 hk]
   rcases rep_at h3 n3 hk with ⟨g1, g2⟩ | ⟨g1, g2⟩
   ·rw [if_pos g1, g2]
    unfold sub
    rw [if_pos rfl]
    exact ⟨rfl, g1⟩
   ·rw [if_neg g1]
    rw [show sub (h x).up (Fo.nd j u k n) = sub (h x).up k by rw [sub, if_neg (fun (g : j = (h x).up) => n1 (by rw [g]; exact g2)), if_pos g2]]
    exact ⟨rfl, in_sub h3 n3 hk g1⟩
  ·have hxn : x ∈ n.ids := by rcases hx with g | g | g; exact absurd g ht.1; exact absurd g hk; exact g
   rw [if_neg hk]
   obtain ⟨a1, a2⟩ := sibT_pv h4 n4 hxn ht.2
   obtain ⟨a3, _⟩ := reptop_up h4 n4 hxn ht.2
   rw [show sub (h x).up (Fo.nd j u k n) = sub (h x).up n by rw [sub, if_neg (fun (g : j = (h x).up) => n2 (by rw [g]; exact a3)), if_neg (fun g => n5 _ g a3)]]
   exact ⟨a1, a2⟩
where
 in_sub {h : Nat → Nd} {x : Nat} : ∀ {F : Fo} {up : Nat}, Rep h up F → F.ids.Nodup → x ∈ F.ids → x ∉ F.tops → x ∈ (sub (h x).up F).tops
 | .nil, _, _, _, hx, _ => by simp [Fo.ids] at hx
 | .nd j u k n, up, ⟨h1, h2, h3, h4⟩, hn, hx, ht => by
  obtain ⟨n1, n2, n3, n4, n5⟩ := nodup_nd hn
  simp only [Fo.ids, Fo.tops, List.mem_cons, List.mem_append, not_or] at hx ht
  rcases hx with g | hk | hxn
  ·exact absurd g ht.1
  ·rcases rep_at h3 n3 hk with ⟨g1, g2⟩ | ⟨g1, g2⟩
   ·rw [g2, sub, if_pos rfl]; exact g1
   ·rw [sub, if_neg (fun (g : j = (h x).up) => n1 (by rw [g]; exact g2)), if_pos g2]; exact in_sub h3 n3 hk g1
  ·rcases rep_at h4 n4 hxn with ⟨g1, g2⟩ | ⟨g1, g2⟩
   ·exact absurd g1 ht.2
   ·rw [sub, if_neg (fun (g : j = (h x).up) => n2 (by rw [g]; exact g2)), if_neg (fun g => n5 _ g g2)]; exact in_sub h4 n4 hxn g1
def under (u x : Nat) (F : Fo) : Prop := u ∈ F.ids ∧ (x = u ∨ x ∈ (sub u F).ids)
instance (u x : Nat) (F : Fo) : Decidable (under u x F) := by unfold under; exact inferInstance
theorem within_rep {h : Nat → Nd} {u x : Nat} : ∀ {F : Fo} {up : Nat}, Rep h up F → F.ids.Nodup → x ∈ F.ids → ∃ c, ∀ k, (under u x F → withinF h u (c + k) x = some true) ∧ (¬ under u x F → withinF h u (c + k) x = withinF h u k up)
 | .nil, _, _, _, hx => by simp [Fo.ids] at hx
 | .nd j t m n, up, ⟨h1, h2, h3, h4⟩, hn, hx => by
  obtain ⟨n1, n2, n3, n4, n5⟩ := nodup_nd hn
  have step : ∀ k, withinF h u (k + 1) j = if j = u then some true else withinF h u k up := fun k => by
   rw [withinF, if_neg h1, h2]
  simp only [Fo.ids, List.mem_cons, List.mem_append] at hx
  rcases hx with rfl | hk | hxn
  ·refine ⟨1, fun k => ⟨fun hu => ?_, fun hu => ?_⟩⟩
   ·rw [Nat.add_comm, step]
    by_cases e : x = u
    ·rw [if_pos e]
    ·exfalso
     rcases hu.2 with g | g
     ·exact e g
     ·rw [sub, if_neg e] at g
      split at g
      ·exact n1 (sub_ids u g)
      ·exact n2 (sub_ids u g)
   ·rw [Nat.add_comm, step, if_neg]
    intro e
    exact hu ⟨by simp [Fo.ids, e], Or.inl e⟩
  ·obtain ⟨c, hc⟩ := within_rep (u := u) h3 n3 hk
   have key : ∀ k, withinF h u (c + (k + 1)) x = if under u x m then some true else if j = u then some true else withinF h u k up := fun k => by
    by_cases hu : under u x m
    ·rw [if_pos hu, (hc (k + 1)).1 hu]
    ·rw [if_neg hu, (hc (k + 1)).2 hu, step]
   have hiff : under u x (.nd j t m n) ↔ (under u x m ∨ j = u) := by
    unfold under
    constructor
    ·rintro ⟨g1, g2⟩
     by_cases e : j = u
     ·exact Or.inr e
     ·left
      rw [sub, if_neg e] at g2
      simp only [Fo.ids, List.mem_cons, List.mem_append] at g1
      by_cases hum : u ∈ m.ids
      ·rw [if_pos hum] at g2; exact ⟨hum, g2⟩
      ·rw [if_neg hum] at g2
       exfalso
       rcases g2 with g2 | g2
       ·exact hum (g2 ▸ hk)
       ·exact n5 x hk (sub_ids u g2)
    ·rintro (⟨g1, g2⟩ | e)
     ·refine ⟨by simp [Fo.ids, g1], ?_⟩
      rw [sub, if_neg (fun (e : j = u) => n1 (by rw [e]; exact g1)), if_pos g1]
      exact g2
     ·refine ⟨by simp [Fo.ids, e], Or.inr ?_⟩
      rw [sub, if_pos e]; exact hk
   refine ⟨c + 1, fun k => ?_⟩
   rw [show c + 1 + k = c + (k + 1) by omega, key, hiff]
   refine ⟨fun hu => ?_, fun hu => ?_⟩
   ·rcases hu with hu | hu
    ·rw [if_pos hu]
    ·rw [if_pos hu]; split <;> rfl
   ·rw [if_neg (fun g => hu (Or.inl g)), if_neg (fun g => hu (Or.inr g))]
  ·obtain ⟨c, hc⟩ := within_rep (u := u) h4 n4 hxn
   refine ⟨c, fun k => ?_⟩
   have hiff : under u x (.nd j t m n) ↔ under u x n := by
    unfold under
    constructor
    ·rintro ⟨g1, g2⟩
     have e : j ≠ u := fun e => by
      rw [sub, if_pos e] at g2
      rcases g2 with g2 | g2
      ·exact n2 (by rw [e, ← g2]; exact hxn)
      ·exact n5 x g2 hxn
     rw [sub, if_neg e] at g2
     by_cases hum : u ∈ m.ids
     ·rw [if_pos hum] at g2
      exfalso
      rcases g2 with g2 | g2
      ·exact n5 u hum (g2 ▸ hxn)
      ·exact n5 x (sub_ids u g2) hxn
     ·rw [if_neg hum] at g2
      simp only [Fo.ids, List.mem_cons, List.mem_append] at g1
      exact ⟨by rcases g1 with g | g | g; exact absurd g.symm e; exact absurd g hum; exact g, g2⟩
    ·rintro ⟨g1, g2⟩
     refine ⟨by simp [Fo.ids, g1], ?_⟩
     rw [sub, if_neg (fun (e : j = u) => n2 (by rw [e]; exact g1)), if_neg (fun g => n5 u g g1)]
     exact g2
   rw [hiff]
   exact hc k
theorem within_top {h : Nat → Nd} {u x : Nat} : ∀ {F : Fo}, RepTop h F → F.ids.Nodup → x ∈ F.ids → ∃ c, ∀ k, (under u x F → withinF h u (c + k) x = some true) ∧ (¬ under u x F → withinF h u (c + k + 1) x = some false)
 | .nil, _, _, hx => by simp [Fo.ids] at hx
 | .nd j t m n, ⟨h1, h2, h3, h4⟩, hn, hx => by
  obtain ⟨n1, n2, n3, n4, n5⟩ := nodup_nd hn
  have hx2 := hx
  simp only [Fo.ids, List.mem_cons, List.mem_append] at hx
  have hRep : Rep h 0 (.nd j t m .nil) := ⟨h1, h2, h3, trivial⟩
  have hnd1 : (Fo.nd j t m .nil).ids.Nodup := by simp [Fo.ids, n1, n3]
  have hz : ∀ k, withinF h u (k + 1) 0 = some false := fun k => by rw [withinF, if_pos rfl]
  by_cases hxn : x ∈ n.ids
  ·obtain ⟨c, hc⟩ := within_top (u := u) h4 n4 hxn
   have hiff : under u x (.nd j t m n) ↔ under u x n := by
    unfold under
    constructor
    ·rintro ⟨g1, g2⟩
     have e : j ≠ u := fun e => by
      rw [sub, if_pos e] at g2
      rcases g2 with g2 | g2
      ·exact n2 (by rw [e, ← g2]; exact hxn)
      ·exact n5 x g2 hxn
     rw [sub, if_neg e] at g2
     by_cases hum : u ∈ m.ids
     ·rw [if_pos hum] at g2
      exfalso
      rcases g2 with g2 | g2
      ·exact n5 u hum (g2 ▸ hxn)
      ·exact n5 x (sub_ids u g2) hxn
     ·rw [if_neg hum] at g2
      simp only [Fo.ids, List.mem_cons, List.mem_append] at g1
      exact ⟨by rcases g1 with g | g | g; exact absurd g.symm e; exact absurd g hum; exact g, g2⟩
    ·rintro ⟨g1, g2⟩
     refine ⟨by simp [Fo.ids, g1], ?_⟩
     rw [sub, if_neg (fun (e : j = u) => n2 (by rw [e]; exact g1)), if_neg (fun g => n5 u g g1)]
     exact g2
   exact ⟨c, fun k => by rw [hiff]; exact hc k⟩
  ·have hx1 : x ∈ (Fo.nd j t m .nil).ids := by
    simp only [Fo.ids, List.mem_cons, List.mem_append, List.not_mem_nil, or_false]
    rcases hx with g | g | g
    ·exact Or.inl g
    ·exact Or.inr g
    ·exact absurd g hxn
   obtain ⟨c, hc⟩ := within_rep (u := u) hRep hnd1 hx1
   have hiff : under u x (.nd j t m n) ↔ under u x (.nd j t m .nil) := by
    unfold under
    have hs : ∀ {y : Nat}, y ∈ (sub u (Fo.nd j t m n)).ids → u ∉ (Fo.nd j t m .nil).ids → y ∈ n.ids := fun {y} hy hu => by
     simp only [Fo.ids, List.mem_cons, List.mem_append, List.not_mem_nil, or_false, not_or] at hu
     rw [sub, if_neg (fun e => hu.1 e.symm), if_neg hu.2] at hy
     exact sub_ids u hy
    have he : u ∈ (Fo.nd j t m .nil).ids → sub u (Fo.nd j t m n) = sub u (Fo.nd j t m .nil) := fun hu => by
     simp only [Fo.ids, List.mem_cons, List.mem_append, List.not_mem_nil, or_false] at hu
     rw [sub, sub]
     by_cases e : j = u
     ·rw [if_pos e, if_pos e]
     ·have hum : u ∈ m.ids := hu.resolve_left fun g => e g.symm
      rw [if_neg e, if_neg e, if_pos hum, if_pos hum]
    constructor
    ·rintro ⟨g1, g2⟩
     by_cases hu : u ∈ (Fo.nd j t m .nil).ids
     ·exact ⟨hu, he hu ▸ g2⟩
     ·exfalso
      rcases g2 with g2 | g2
      ·exact hu (g2 ▸ hx1)
      ·exact hxn (hs g2 hu)
    ·rintro ⟨g1, g2⟩
     refine ⟨?_, by rw [he g1]; exact g2⟩
     simp only [Fo.ids, List.mem_cons, List.mem_append, List.not_mem_nil, or_false] at g1 ⊢
     rcases g1 with g | g
     ·exact Or.inl g
     ·exact Or.inr (Or.inl g)
   refine ⟨c, fun k => ?_⟩
   rw [hiff]
   refine ⟨(hc k).1, fun hu => ?_⟩
   rw [show c + k + 1 = c + (k + 1) by omega, (hc (k + 1)).2 hu, hz]
theorem ids_insAfter (a i : Nat) (t : ByteArray) (s : Fo) : ∀ (F : Fo), F.ids.Nodup → a ∈ F.ids → (insAfter a i t s F).ids.Perm (i :: (s.ids ++ F.ids))
 | .nil, _, hx => by simp [Fo.ids] at hx
 | .nd j u k n, hn, hx => by
  obtain ⟨n1, n2, n3, n4, n5⟩ := nodup_nd hn
  simp only [Fo.ids, List.mem_cons, List.mem_append] at hx
  unfold insAfter
  by_cases e : j = a
  ·rw [if_pos e]
   simp only [Fo.ids]
   have : (j :: (k.ids ++ i :: (s.ids ++ n.ids))).Perm (i :: (s.ids ++ (j :: (k.ids ++ n.ids)))) := by
    refine List.perm_iff_count.2 fun z => ?_
    simp only [List.count_cons, List.count_append]
    omega
   exact this
  ·rw [if_neg e]
   simp only [Fo.ids]
   by_cases hk : a ∈ k.ids
   ·have p := ids_insAfter a i t s k n3 hk
    rw [insAfter_id a i t s (n5 a hk)]
    refine List.perm_iff_count.2 fun z => ?_
    have q := List.perm_iff_count.1 p z
    simp only [List.count_cons, List.count_append] at q ⊢
    omega
   ·have hxn : a ∈ n.ids := by rcases hx with g | g | g; exact absurd g.symm e; exact absurd g hk; exact g
    have p := ids_insAfter a i t s n n4 hxn
    rw [insAfter_id a i t s hk]
    refine List.perm_iff_count.2 fun z => ?_
    have q := List.perm_iff_count.1 p z
    simp only [List.count_cons, List.count_append] at q ⊢
    omega
theorem ids_insFirst (a i : Nat) (t : ByteArray) (s : Fo) : ∀ (F : Fo), F.ids.Nodup → a ∈ F.ids → (insFirst a i t s F).ids.Perm (i :: (s.ids ++ F.ids))
 | .nil, _, hx => by simp [Fo.ids] at hx
 | .nd j u k n, hn, hx => by
  obtain ⟨n1, n2, n3, n4, n5⟩ := nodup_nd hn
  simp only [Fo.ids, List.mem_cons, List.mem_append] at hx
  unfold insFirst
  by_cases e : j = a
  ·rw [if_pos e]
   simp only [Fo.ids]
   refine List.perm_iff_count.2 fun z => ?_
   simp only [List.count_cons, List.count_append]
   omega
  ·rw [if_neg e]
   simp only [Fo.ids]
   by_cases hk : a ∈ k.ids
   ·have p := ids_insFirst a i t s k n3 hk
    rw [insFirst_id a i t s (n5 a hk)]
    refine List.perm_iff_count.2 fun z => ?_
    have q := List.perm_iff_count.1 p z
    simp only [List.count_cons, List.count_append] at q ⊢
    omega
   ·have hxn : a ∈ n.ids := by rcases hx with g | g | g; exact absurd g.symm e; exact absurd g hk; exact g
    have p := ids_insFirst a i t s n n4 hxn
    rw [insFirst_id a i t s hk]
    refine List.perm_iff_count.2 fun z => ?_
    have q := List.perm_iff_count.1 p z
    simp only [List.count_cons, List.count_append] at q ⊢
    omega
theorem ids_del (x : Nat) : ∀ (F : Fo), F.ids.Nodup → x ∈ F.ids → F.ids.Perm (x :: ((sub x F).ids ++ (del x F).ids))
 | .nil, _, hx => by simp [Fo.ids] at hx
 | .nd j u k n, hn, hx => by
  obtain ⟨n1, n2, n3, n4, n5⟩ := nodup_nd hn
  simp only [Fo.ids, List.mem_cons, List.mem_append] at hx
  unfold del sub
  by_cases e : j = x
  ·rw [if_pos e, if_pos e]
   simp only [Fo.ids, e]
   exact List.Perm.refl _
  ·rw [if_neg e, if_neg e]
   by_cases hk : x ∈ k.ids
   ·have p := ids_del x k n3 hk
    rw [if_pos hk, del_id x (n5 x hk)]
    refine List.perm_iff_count.2 fun z => ?_
    have q := List.perm_iff_count.1 p z
    simp only [Fo.ids, List.count_cons, List.count_append] at q ⊢
    omega
   ·have hxn : x ∈ n.ids := by rcases hx with g | g | g; exact absurd g.symm e; exact absurd g hk; exact g
    have p := ids_del x n n4 hxn
    rw [if_neg hk, del_id x hk]
    refine List.perm_iff_count.2 fun z => ?_
    have q := List.perm_iff_count.1 p z
    simp only [Fo.ids, List.count_cons, List.count_append] at q ⊢
    omega
theorem tops_insAfter (a i : Nat) (t : ByteArray) (s : Fo) : ∀ (F : Fo), a ∉ F.tops → (insAfter a i t s F).tops = F.tops
 | .nil, _ => rfl
 | .nd j u k n, h => by
  simp only [Fo.tops, List.mem_cons, not_or] at h
  unfold insAfter
  rw [if_neg (fun e => h.1 e.symm)]
  simp only [Fo.tops]
  rw [tops_insAfter a i t s n h.2]
theorem tops_insFirst (a i : Nat) (t : ByteArray) (s : Fo) : ∀ (F : Fo), (insFirst a i t s F).tops = F.tops
 | .nil => rfl
 | .nd j u k n => by
  unfold insFirst
  split
  ·rfl
  ·simp only [Fo.tops]
   rw [tops_insFirst a i t s n]
theorem tops_del (x : Nat) : ∀ (F : Fo), x ∉ F.tops → (del x F).tops = F.tops
 | .nil, _ => rfl
 | .nd j u k n, h => by
  simp only [Fo.tops, List.mem_cons, not_or] at h
  unfold del
  rw [if_neg (fun e => h.1 e.symm)]
  simp only [Fo.tops]
  rw [tops_del x n h.2]
def setF (x : Nat) (t : ByteArray) : Fo → Fo
 | .nil => .nil
 | .nd j u k n => .nd j (if j = x then t else u) (setF x t k) (setF x t n)
theorem setF_ids (x : Nat) (t : ByteArray) : ∀ (F : Fo), (setF x t F).ids = F.ids
 | .nil => rfl
 | .nd j u k n => by simp [setF, Fo.ids, setF_ids x t k, setF_ids x t n]
theorem setF_tops (x : Nat) (t : ByteArray) : ∀ (F : Fo), (setF x t F).tops = F.tops
 | .nil => rfl
 | .nd j u k n => by simp [setF, Fo.tops, setF_tops x t n]
theorem setF_hd (x : Nat) (t : ByteArray) (F : Fo) : (setF x t F).hd = F.hd := by cases F <;> rfl
theorem rep_setF {h : Nat → Nd} {x : Nat} {t : ByteArray} : ∀ {F : Fo} {up : Nat}, Rep h up F → Rep (upN h x ⟨t, (h x).up, (h x).first, (h x).next⟩) up (setF x t F)
 | .nil, _, _ => trivial
 | .nd j u k n, up, ⟨h1, h2, h3, h4⟩ => by
  refine ⟨h1, ?_, rep_setF h3, rep_setF h4⟩
  rw [setF_hd, setF_hd]
  unfold upN
  by_cases e : j = x
  ·rw [if_pos e, if_pos e, ← e, h2]
  ·rw [if_neg e, if_neg e, h2]
theorem reptop_setF {h : Nat → Nd} {x : Nat} {t : ByteArray} : ∀ {F : Fo}, RepTop h F → RepTop (upN h x ⟨t, (h x).up, (h x).first, (h x).next⟩) (setF x t F)
 | .nil, _ => trivial
 | .nd j u k n, ⟨h1, h2, h3, h4⟩ => by
  refine ⟨h1, ?_, rep_setF h3, reptop_setF h4⟩
  rw [setF_hd]
  unfold upN
  by_cases e : j = x
  ·rw [if_pos e, if_pos e, ← e, h2]
  ·rw [if_neg e, if_neg e, h2]
def par (x : Nat) (up : Nat) : Fo → Nat
 | .nil => 0
 | .nd j _ k n => if j = x then up else if x ∈ k.ids then par x j k else par x up n
theorem rep_par {h : Nat → Nd} {x : Nat} : ∀ {F : Fo} {up : Nat}, Rep h up F → F.ids.Nodup → x ∈ F.ids → (h x).up = par x up F
 | .nil, _, _, _, hx => by simp [Fo.ids] at hx
 | .nd j t k n, up, ⟨h1, h2, h3, h4⟩, hn, hx => by
  obtain ⟨n1, n2, n3, n4, n5⟩ := nodup_nd hn
  simp only [Fo.ids, List.mem_cons, List.mem_append] at hx
  unfold par
  by_cases e : j = x
  ·subst e; rw [if_pos rfl, h2]
  ·rw [if_neg e]
   by_cases hk : x ∈ k.ids
   ·rw [if_pos hk]; exact rep_par h3 n3 hk
   ·rw [if_neg hk]; exact rep_par h4 n4 (by rcases hx with g | g | g; exact absurd g.symm e; exact absurd g hk; exact g)
theorem reptop_par {h : Nat → Nd} {x : Nat} : ∀ {F : Fo}, RepTop h F → F.ids.Nodup → x ∈ F.ids → (h x).up = par x 0 F
 | .nil, _, _, hx => by simp [Fo.ids] at hx
 | .nd j t k n, ⟨h1, h2, h3, h4⟩, hn, hx => by
  obtain ⟨n1, n2, n3, n4, n5⟩ := nodup_nd hn
  simp only [Fo.ids, List.mem_cons, List.mem_append] at hx
  unfold par
  by_cases e : j = x
  ·subst e; rw [if_pos rfl, h2]
  ·rw [if_neg e]
   by_cases hk : x ∈ k.ids
   ·rw [if_pos hk]; exact rep_par h3 n3 hk
   ·rw [if_neg hk]; exact reptop_par h4 n4 (by rcases hx with g | g | g; exact absurd g.symm e; exact absurd g hk; exact g)
def txtF (x : Nat) : Fo → ByteArray
 | .nil => ByteArray.empty
 | .nd j u k n => if j = x then u else if x ∈ k.ids then txtF x k else txtF x n
theorem rep_txt {h : Nat → Nd} {x : Nat} : ∀ {F : Fo} {up : Nat}, Rep h up F → F.ids.Nodup → x ∈ F.ids → (h x).t = txtF x F
 | .nil, _, _, _, hx => by simp [Fo.ids] at hx
 | .nd j t k n, up, ⟨h1, h2, h3, h4⟩, hn, hx => by
  obtain ⟨n1, n2, n3, n4, n5⟩ := nodup_nd hn
  simp only [Fo.ids, List.mem_cons, List.mem_append] at hx
  unfold txtF
  by_cases e : j = x
  ·subst e; rw [if_pos rfl, h2]
  ·rw [if_neg e]
   by_cases hk : x ∈ k.ids
   ·rw [if_pos hk]; exact rep_txt h3 n3 hk
   ·rw [if_neg hk]; exact rep_txt h4 n4 (by rcases hx with g | g | g; exact absurd g.symm e; exact absurd g hk; exact g)
theorem reptop_txt {h : Nat → Nd} {x : Nat} : ∀ {F : Fo}, RepTop h F → F.ids.Nodup → x ∈ F.ids → (h x).t = txtF x F
 | .nil, _, _, hx => by simp [Fo.ids] at hx
 | .nd j t k n, ⟨h1, h2, h3, h4⟩, hn, hx => by
  obtain ⟨n1, n2, n3, n4, n5⟩ := nodup_nd hn
  simp only [Fo.ids, List.mem_cons, List.mem_append] at hx
  unfold txtF
  by_cases e : j = x
  ·subst e; rw [if_pos rfl, h2]
  ·rw [if_neg e]
   by_cases hk : x ∈ k.ids
   ·rw [if_pos hk]; exact rep_txt h3 n3 hk
   ·rw [if_neg hk]; exact reptop_txt h4 n4 (by rcases hx with g | g | g; exact absurd g.symm e; exact absurd g hk; exact g)
theorem sib_out {x : Nat} : ∀ {F : Fo} {h : Nat → Nd} {up p : Nat}, Rep h up F → F.ids.Nodup → x ∈ F.ids → p ∉ F.ids → sib x p F ∉ (sub x F).ids
 | .nil, _, _, _, _, _, hx, _ => by simp [Fo.ids] at hx
 | .nd j t k n, h, up, p, ⟨h1, h2, h3, h4⟩, hn, hx, hp => by
  obtain ⟨n1, n2, n3, n4, n5⟩ := nodup_nd hn
  simp only [Fo.ids, List.mem_cons, List.mem_append, not_or] at hx hp
  unfold sib sub
  by_cases e : j = x
  ·rw [if_pos e, if_pos e]; exact hp.2.1
  ·rw [if_neg e, if_neg e]
   by_cases hk : x ∈ k.ids
   ·rw [if_pos hk, if_pos hk]; exact sib_out h3 n3 hk (fun g => h3.ne0 0 g rfl)
   ·rw [if_neg hk, if_neg hk]; exact sib_out h4 n4 (by rcases hx with g | g | g; exact absurd g.symm e; exact absurd g hk; exact g) n2
theorem sibT_out {x : Nat} : ∀ {F : Fo} {h : Nat → Nd}, RepTop h F → F.ids.Nodup → x ∈ F.ids → x ∉ F.tops → sibT x F ∉ (sub x F).ids
 | .nil, _, _, _, hx, _ => by simp [Fo.ids] at hx
 | .nd j t k n, h, ⟨h1, h2, h3, h4⟩, hn, hx, ht => by
  obtain ⟨n1, n2, n3, n4, n5⟩ := nodup_nd hn
  simp only [Fo.ids, Fo.tops, List.mem_cons, List.mem_append, not_or] at hx ht
  unfold sibT sub
  rw [if_neg (fun e => ht.1 e.symm)]
  by_cases hk : x ∈ k.ids
  ·rw [if_pos hk, if_pos hk]; exact sib_out h3 n3 hk (fun g => h3.ne0 0 g rfl)
  ·rw [if_neg hk, if_neg hk]; exact sibT_out h4 n4 (by rcases hx with g | g | g; exact absurd g ht.1; exact absurd g hk; exact g) ht.2
theorem up_out {h : Nat → Nd} {x : Nat} : ∀ {F : Fo} {up : Nat}, Rep h up F → F.ids.Nodup → x ∈ F.ids → up ∉ F.ids → (h x).up ∉ (sub x F).ids
 | .nil, _, _, _, hx, _ => by simp [Fo.ids] at hx
 | .nd j t k n, up, ⟨h1, h2, h3, h4⟩, hn, hx, hp => by
  obtain ⟨n1, n2, n3, n4, n5⟩ := nodup_nd hn
  simp only [Fo.ids, List.mem_cons, List.mem_append, not_or] at hx hp
  unfold sub
  by_cases e : j = x
  ·rw [if_pos e, ← e, h2]; exact hp.2.1
  ·rw [if_neg e]
   by_cases hk : x ∈ k.ids
   ·rw [if_pos hk]; exact up_out h3 n3 hk n1
   ·rw [if_neg hk]; exact up_out h4 n4 (by rcases hx with g | g | g; exact absurd g.symm e; exact absurd g hk; exact g) hp.2.2
theorem upT_out {h : Nat → Nd} {x : Nat} : ∀ {F : Fo}, RepTop h F → F.ids.Nodup → x ∈ F.ids → x ∉ F.tops → (h x).up ∉ (sub x F).ids
 | .nil, _, _, hx, _ => by simp [Fo.ids] at hx
 | .nd j t k n, ⟨h1, h2, h3, h4⟩, hn, hx, ht => by
  obtain ⟨n1, n2, n3, n4, n5⟩ := nodup_nd hn
  simp only [Fo.ids, Fo.tops, List.mem_cons, List.mem_append, not_or] at hx ht
  unfold sub
  rw [if_neg (fun e => ht.1 e.symm)]
  by_cases hk : x ∈ k.ids
  ·rw [if_pos hk]; exact up_out h3 n3 hk n1
  ·rw [if_neg hk]; exact upT_out h4 n4 (by rcases hx with g | g | g; exact absurd g ht.1; exact absurd g hk; exact g) ht.2
theorem freeT_detach {h : Nat → Nd} {x a : Nat} : ∀ {F : Fo}, RepTop h F → F.ids.Nodup → x ∈ F.ids → x ∉ F.tops → a ∉ (sub x F).ids → (h x).up ∉ (sub x F).ids → Free (detachH h x a) x (h x).t (sub x F)
 | .nil, _, _, hx, _, _, _ => by simp [Fo.ids] at hx
 | .nd j u k n, ⟨h1, h2, h3, h4⟩, hn, hx, ht, ha, hu => by
  obtain ⟨n1, n2, n3, n4, n5⟩ := nodup_nd hn
  simp only [Fo.ids, Fo.tops, List.mem_cons, List.mem_append, not_or] at hx ht
  unfold sub at ha hu ⊢
  rw [if_neg (fun e => ht.1 e.symm)] at ha hu ⊢
  by_cases hk : x ∈ k.ids
  ·rw [if_pos hk] at ha hu ⊢; exact free_detach h3 n3 hk ha hu
  ·rw [if_neg hk] at ha hu ⊢; exact freeT_detach h4 n4 (by rcases hx with g | g | g; exact absurd g ht.1; exact absurd g hk; exact g) ht.2 ha hu
def fndF (G : Fo) (x : Int) : Nat := if 0 ≤ x ∧ x.toNat ∈ G.ids then x.toNat else 0
theorem fndF_mem {G : Fo} {x : Int} (h : fndF G x ≠ 0) : fndF G x ∈ G.ids ∧ (fndF G x : Int) = x := by
 unfold fndF at h ⊢
 split at h
 ·rename_i g; rw [if_pos g]; exact ⟨g.2, by omega⟩
 ·exact absurd rfl h
def nearF (G : Fo) (id up at_ : Int) : Nat × Nat :=
 if fndF G up = 0 then (3, 0)
 else if fndF G at_ = 0 then (fndF G up, 0)
 else if par (fndF G at_) 0 G ≠ fndF G up then (fndF G up, 0)
 else if at_ = id then (fndF G up, 0)
 else (fndF G up, fndF G at_)
def putF (G : Fo) (p : Nat × Nat) (i : Nat) (t : ByteArray) (s : Fo) : Fo := if p.2 = 0 then insFirst p.1 i t s G else insAfter p.2 i t s G
def doF (G : Fo) (kd id up at_ : Int) (s : ByteArray) : Fo :=
 if kd = 2 then (if fndF G id = 0 then G else setF (fndF G id) s G)
 else if kd = 1 then (if fndF G id = 0 then putF G (nearF G id up at_) id.toNat s .nil else G)
 else (if fndF G id = 0 then G else if under (fndF G id) (fndF G up) G then G else putF (del (fndF G id) G) (nearF G id up at_) (fndF G id) (txtF (fndF G id) G) (sub (fndF G id) G))
structure PlaceOk (G : Fo) (id : Int) (p : Nat × Nat) : Prop where
 up : p.1 ∈ G.ids
 at_ : p.2 = 0 ∨ (p.2 ∈ G.ids ∧ par p.2 0 G = p.1 ∧ (p.2 : Int) ≠ id)
theorem near_ok {G : Fo} (h3 : 3 ∈ G.ids) (id up at_ : Int) : PlaceOk G id (nearF G id up at_) := by
 unfold nearF
 by_cases h1 : fndF G up = 0
 ·rw [if_pos h1]; exact ⟨h3, Or.inl rfl⟩
 ·rw [if_neg h1]
  have hu := (fndF_mem h1).1
  by_cases h2 : fndF G at_ = 0
  ·rw [if_pos h2]; exact ⟨hu, Or.inl rfl⟩
  ·rw [if_neg h2]
   by_cases h4 : par (fndF G at_) 0 G ≠ fndF G up
   ·rw [if_pos h4]; exact ⟨hu, Or.inl rfl⟩
   ·rw [if_neg h4]
    by_cases h5 : at_ = id
    ·rw [if_pos h5]; exact ⟨hu, Or.inl rfl⟩
    ·rw [if_neg h5]
     exact ⟨hu, Or.inr ⟨(fndF_mem h2).1, Decidable.of_not_not h4, by rw [(fndF_mem h2).2]; exact h5⟩⟩
theorem par_top {G : Fo} (h : Nat → Nd) (hr : RepTop h G) (hn : G.ids.Nodup) {x : Nat} (hx : x ∈ G.ids) (hp : par x 0 G ≠ 0) : x ∉ G.tops := fun ht => by
 rw [← reptop_par hr hn hx, reptop_root hr ht] at hp
 exact hp rfl
theorem putF_rep {h : Nat → Nd} {G : Fo} {p : Nat × Nat} {i : Nat} {t : ByteArray} {s : Fo} (hf : Free h i t s) (hr : RepTop h G) (hn : G.ids.Nodup) (hi : i ∉ G.ids) (hd : ∀ j ∈ s.ids, j ∉ G.ids) (hu : p.1 ∈ G.ids) (ha : p.2 = 0 ∨ (p.2 ∈ G.ids ∧ (h p.2).up = p.1 ∧ p.2 ∉ G.tops)) :
  RepTop (attachH h i p.1 p.2) (putF G p i t s) := by
 unfold putF
 by_cases h0 : p.2 = 0
 ·rw [if_pos h0, h0]
  exact reptop_insFirst hf hr hn hi (fun g => hd _ g hu) (fun g => hi (g ▸ hu)) hd
 ·rw [if_neg h0]
  obtain ⟨a1, a2, a3⟩ := ha.resolve_left h0
  exact reptop_insAfter hf h0 a2 hr hn hi a3 (fun g => hd _ g a1) (fun g => hi (g ▸ a1)) hd
theorem putF_ids {G : Fo} {p : Nat × Nat} {i : Nat} {t : ByteArray} {s : Fo} (hn : G.ids.Nodup) (hu : p.1 ∈ G.ids) (ha : p.2 = 0 ∨ p.2 ∈ G.ids) : (putF G p i t s).ids.Perm (i :: (s.ids ++ G.ids)) := by
 unfold putF
 by_cases h0 : p.2 = 0
 ·rw [if_pos h0]; exact ids_insFirst _ _ _ _ G hn hu
 ·rw [if_neg h0]; exact ids_insAfter _ _ _ _ G hn (ha.resolve_left h0)
theorem putF_tops {G : Fo} {p : Nat × Nat} {i : Nat} {t : ByteArray} {s : Fo} (ha : p.2 = 0 ∨ p.2 ∉ G.tops) : (putF G p i t s).tops = G.tops := by
 unfold putF
 by_cases h0 : p.2 = 0
 ·rw [if_pos h0]; exact tops_insFirst _ _ _ _ G
 ·rw [if_neg h0]; exact tops_insAfter _ _ _ _ G (ha.resolve_left h0)
theorem near_del {h : Nat → Nd} {G : Fo} (hr : RepTop h G) (hn : G.ids.Nodup) (h3 : 3 ∈ G.tops) {i : Nat} (hi : i ∈ G.ids) (hit : i ∉ G.tops) {id up at_ : Int} (hid : (i : Int) = id) (hw : ¬ under i (fndF G up) G) :
  (nearF G id up at_).1 ∈ (del i G).ids ∧ ((nearF G id up at_).2 = 0 ∨ ((nearF G id up at_).2 ∈ (del i G).ids ∧ (h (nearF G id up at_).2).up = (nearF G id up at_).1 ∧ (nearF G id up at_).2 ∉ (del i G).tops ∧ (nearF G id up at_).2 ≠ i)) := by
 have hp := near_ok (G := G) (tops_ids h3) id up at_
 have hperm := ids_del i G hn hi
 have hmem : ∀ y, y ∈ G.ids → y ≠ i → y ∉ (sub i G).ids → y ∈ (del i G).ids := fun y hy h1 h2 => by
  have := hperm.mem_iff.1 hy
  simp only [List.mem_cons, List.mem_append] at this
  rcases this with g | g | g
  ·exact absurd g h1
  ·exact absurd g h2
  ·exact g
 have ht : (del i G).tops = G.tops := tops_del i G hit
 have hu : (nearF G id up at_).1 ∈ (del i G).ids := by
  by_cases h1 : fndF G up = 0
  ·have : nearF G id up at_ = (3, 0) := by unfold nearF; rw [if_pos h1]
   rw [this]
   exact tops_ids (ht ▸ h3)
  ·have : (nearF G id up at_).1 = fndF G up := by
    unfold nearF
    rw [if_neg h1]
    split
    ·rfl
    ·split
     ·rfl
     ·split <;> rfl
   rw [this]
   refine hmem _ (fndF_mem h1).1 (fun g => hw ⟨hi, Or.inl g⟩) (fun g => hw ⟨hi, Or.inr g⟩)
 refine ⟨hu, ?_⟩
 rcases hp.at_ with h0 | ⟨h1, h2, h4⟩
 ·exact Or.inl h0
 ·right
  have e : (h (nearF G id up at_).2).up = (nearF G id up at_).1 := (reptop_par hr hn h1).trans h2
  have hne : (nearF G id up at_).2 ≠ i := fun g => h4 (by rw [g]; exact hid)
  have hp0 : (nearF G id up at_).1 ≠ 0 := hr.ne0 _ hp.up
  refine ⟨hmem _ h1 hne fun g => ?_, e, ?_, hne⟩
  ·obtain ⟨r1, _⟩ := reptop_sub hr hn hi
   have hd := hperm.nodup_iff.1 hn
   rcases rep_up r1 (sub_nodup i hn) g with g2 | g2
   ·rw [e] at g2
    have : i ∉ (del i G).ids := fun g3 => by
     have := List.nodup_cons.1 hd
     exact this.1 (List.mem_append_right _ g3)
    exact this (g2 ▸ hu)
   ·rw [e] at g2
    have := (List.nodup_append.1 (List.nodup_cons.1 hd).2).2.2
    exact this _ g2 _ hu rfl
  ·rw [ht]
   exact par_top h hr hn h1 (by rw [h2]; exact hp0)
end Go.Proofs.YtdpklbomhdpimaaDoor.FP
namespace Go.Proofs.YtdpklbomhdpimaaDoor.P
open Go.RowKit Go.Proofs.YtdpklbomhdpimaaDoorW.PrintWords Go.Proofs.YtdpklbomhdpimaaDoorW.PrintLast
theorem eqA69 (d : Nat) (w : World) (x0 y0 : Int) (x1 y1 : Int) (x2 y2 : ByteArray) :
  (Op.equalIn (d + 2) 69 (.agg #[.int .i64 x0, .int .i64 x1, .string x2]) (.agg #[.int .i64 y0, .int .i64 y1, .string y2])).run Tryd.prog w = .ok (x0 == y0 && (x1 == y1 && (x2.toList == y2.toList))) w := by
 refine eqA_of Tryd.underlying69 (by kernel_rfl) ?_
 refine eqf_cons (by rfl) (by go_simp; rfl) (by go_simp; rfl) (by go_simp) ?_
 refine eqf_cons (by rfl) (by go_simp; rfl) (by go_simp; rfl) (by go_simp) ?_
 exact eqf_last (by rfl) (by go_simp; rfl) (by go_simp; rfl) (by go_simp)
attribute [local go_sem high] eqA69

def impl_RowOk.f (k : Nat) (a0_0 : Int) (a0_1 : Int) (a0_2 : ByteArray) : Option (Bool) := (impl_isRoot.f a0_0).bind fun t937 => (if t937 = true then (if a0_1 = 0 then (some (a0_2.toList == ([] : List UInt8))) else (some false)) else ((impl_isMade.f a0_0).bind fun t938 => (if t938 = true then (if a0_1 ≥ 1 then (if a0_1 ≤ 18 then ((impl_textOk.f k a0_2).bind fun t939 => (some t939)) else (some false)) else (some false)) else (some false))))
theorem impl_RowOk.mono : ∀ a0 a1 a2 k, LeO (impl_RowOk.f k a0 a1 a2) (impl_RowOk.f (k + 1) a0 a1 a2) := by
 intro a0 a1 a2 k
 unfold impl_RowOk.f
 repeat' first
   | (with_reducible exact impl_textOk.mono _ _)
   | (with_reducible exact LeO.refl _)
   | (with_reducible exact LeO.none _)
   | (with_reducible refine LeO.ite ?_ ?_)
   | (with_reducible refine LeO.bind ?_ (fun _ => ?_))
   | exact impl_textOk.mono _ _
   | exact LeO.none _
   | refine LeO.ite ?_ ?_
   | refine LeO.bind ?_ (fun _ => ?_)
set_option maxHeartbeats 8000000 in
set_option maxRecDepth 100000 in
theorem impl_RowOk.calls (k : Nat) (a0_0 : Int) (a0_1 : Int) (a0_2 : ByteArray) (r : Bool) (w : World) (h : impl_RowOk.f k a0_0 a0_1 a0_2 = some r) (hG : Glob w) :
  Calls Tryd.prog 97 #[.agg #[.int .i64 a0_0, .int .i64 a0_1, .string a0_2]] w fun e w' => e = .returned (.bool r) ∧ Below w.heap.size w w' := by
 have hu69 := Tryd.underlying69
 have HB := Aside0.mk (Below.refl w.heap.size w)
 have HG := Aside0.mk hG
 clear hG
 unfold impl_RowOk.f at h
 have H := h
 clear h
 replace H := Option.bind_eq_some_iff.mp H
 obtain ⟨t937, A20, H⟩ := H
 try dsimp only at H
 have A2 := Aside0.mk A20
 clear A20
 by_cases c3 : t937 = true
 ·subst c3
  have H1 : (if a0_1 = 0 then (some (a0_2.toList == ([] : List UInt8))) else (some false)) = some r := by rw [if_pos rfl] at H; exact H
  clear H
  have H := H1
  clear H1
  by_cases c4 : a0_1 = 0
  ·rw [if_pos c4] at H
   have c4b0 : (a0_1 == 0) = true := beq_iff_eq.mpr c4
   have c4b1 : (a0_1 != 0) = false := bne_eq_false_iff_eq.mpr c4
   clear c4
   obtain rfl := Option.some.inj H
   go_enter Tryd.func97, Tryd.ntmps97
   go_wp2_with (first | ((with_reducible refine gate_dst (N := 1) rfl ?_); refine bx_ 1 (#[.int .i64 a0_0, .int .i64 a0_1, .string a0_2]) 69 ?_; intro gb936 hg w5 hbox hb; have n0_ := Aside0.mk (below_step (bel_) hb); have n1_ := Aside0.mk (hbox); have n2_ := Aside0.mk ((by rw [hg]; exact (below_size (bel_)) : w.heap.size ≤ gb936)); have n3_ := Aside0.mk ((by rw [hg]; exact (below_size (bel_)) : w.heap.size ≤ gb936)); clear HB; have HB := n0_; have BK936 := n1_; have GW936 := n2_; have GE936 := n3_; clear n0_ n1_ n2_ n3_; clear hb hbox hg; have hcz6_0 := cz_ BK936.out 0 (.int .i64 a0_0); have hcz6_1 := cz_ BK936.out 1 (.int .i64 a0_1); have hcz6_2 := cz_ BK936.out 2 (.string a0_2); have hfz6_0 := blk_frozen BK936.out 0; have hfz6_1 := blk_frozen BK936.out 1; have hfz6_2 := blk_frozen BK936.out 2) | ((with_reducible refine gate_callee (f := 98) rfl ?_); refine gl_ 5 Tryd.func98 #[.int .i64 a0_0] ?_; (with_reducible refine (impl_isRoot.calls a0_0 true _ A2.out ?side1).mono ?_); (case side1 => exact Glob.below HG.out (bel_)); rintro e w' ⟨rfl, ⟨nd, rfl⟩⟩; refine ⟨_, rfl, ?_⟩))
   go_ret
   exact ⟨fi_, bel_⟩
  ·rw [if_neg c4] at H
   have c4b0 : (a0_1 == 0) = false := beq_eq_false_iff_ne.mpr c4
   have c4b1 : (a0_1 != 0) = true := bne_iff_ne.mpr c4
   obtain rfl := Option.some.inj H
   go_enter Tryd.func97, Tryd.ntmps97
   go_wp2_with (first | ((with_reducible refine gate_dst (N := 1) rfl ?_); refine bx_ 1 (#[.int .i64 a0_0, .int .i64 a0_1, .string a0_2]) 69 ?_; intro gb936 hg w7 hbox hb; have n0_ := Aside0.mk (below_step (bel_) hb); have n1_ := Aside0.mk (hbox); have n2_ := Aside0.mk ((by rw [hg]; exact (below_size (bel_)) : w.heap.size ≤ gb936)); have n3_ := Aside0.mk ((by rw [hg]; exact (below_size (bel_)) : w.heap.size ≤ gb936)); clear HB; have HB := n0_; have BK936 := n1_; have GW936 := n2_; have GE936 := n3_; clear n0_ n1_ n2_ n3_; clear hb hbox hg; have hcz8_0 := cz_ BK936.out 0 (.int .i64 a0_0); have hcz8_1 := cz_ BK936.out 1 (.int .i64 a0_1); have hcz8_2 := cz_ BK936.out 2 (.string a0_2); have hfz8_0 := blk_frozen BK936.out 0; have hfz8_1 := blk_frozen BK936.out 1; have hfz8_2 := blk_frozen BK936.out 2) | ((with_reducible refine gate_callee (f := 98) rfl ?_); refine gl_ 5 Tryd.func98 #[.int .i64 a0_0] ?_; (with_reducible refine (impl_isRoot.calls a0_0 true _ A2.out ?side1).mono ?_); (case side1 => exact Glob.below HG.out (bel_)); rintro e w' ⟨rfl, ⟨nd, rfl⟩⟩; refine ⟨_, rfl, ?_⟩))
   go_ret
   exact ⟨fi_, bel_⟩
 ·replace c3 := Bool.eq_false_iff.mpr c3
  subst c3
  have H1 : ((impl_isMade.f a0_0).bind fun t938 => (if t938 = true then (if a0_1 ≥ 1 then (if a0_1 ≤ 18 then ((impl_textOk.f k a0_2).bind fun t939 => (some t939)) else (some false)) else (some false)) else (some false))) = some r := by rw [if_neg (show ¬ (false = true) by decide)] at H; exact H
  clear H
  have H := H1
  clear H1
  replace H := Option.bind_eq_some_iff.mp H
  obtain ⟨t938, A90, H⟩ := H
  try dsimp only at H
  have A9 := Aside0.mk A90
  clear A90
  by_cases c10 : t938 = true
  ·subst c10
   have H1 : (if a0_1 ≥ 1 then (if a0_1 ≤ 18 then ((impl_textOk.f k a0_2).bind fun t939 => (some t939)) else (some false)) else (some false)) = some r := by rw [if_pos rfl] at H; exact H
   clear H
   have H := H1
   clear H1
   by_cases c11 : a0_1 ≥ 1
   ·rw [if_pos c11] at H
    have c11b0 : decide (1 ≤ a0_1) = true := decide_eq_true c11
    clear c11
    by_cases c12 : a0_1 ≤ 18
    ·rw [if_pos c12] at H
     have c12b0 : decide (a0_1 ≤ 18) = true := decide_eq_true c12
     clear c12
     replace H := Option.bind_eq_some_iff.mp H
     obtain ⟨t939, A130, H⟩ := H
     try dsimp only at H
     have A13 := Aside0.mk A130
     clear A130
     obtain rfl := Option.some.inj H
     go_enter Tryd.func97, Tryd.ntmps97
     go_wp2_with (first | ((with_reducible refine gate_dst (N := 1) rfl ?_); refine bx_ 1 (#[.int .i64 a0_0, .int .i64 a0_1, .string a0_2]) 69 ?_; intro gb936 hg w14 hbox hb; have n0_ := Aside0.mk (below_step (bel_) hb); have n1_ := Aside0.mk (hbox); have n2_ := Aside0.mk ((by rw [hg]; exact (below_size (bel_)) : w.heap.size ≤ gb936)); have n3_ := Aside0.mk ((by rw [hg]; exact (below_size (bel_)) : w.heap.size ≤ gb936)); clear HB; have HB := n0_; have BK936 := n1_; have GW936 := n2_; have GE936 := n3_; clear n0_ n1_ n2_ n3_; clear hb hbox hg; have hcz15_0 := cz_ BK936.out 0 (.int .i64 a0_0); have hcz15_1 := cz_ BK936.out 1 (.int .i64 a0_1); have hcz15_2 := cz_ BK936.out 2 (.string a0_2); have hfz15_0 := blk_frozen BK936.out 0; have hfz15_1 := blk_frozen BK936.out 1; have hfz15_2 := blk_frozen BK936.out 2) | ((with_reducible refine gate_callee (f := 98) rfl ?_); refine gl_ 5 Tryd.func98 #[.int .i64 a0_0] ?_; (with_reducible refine (impl_isRoot.calls a0_0 false _ A2.out ?side1).mono ?_); (case side1 => exact Glob.below HG.out (bel_)); rintro e w' ⟨rfl, ⟨nd, rfl⟩⟩; refine ⟨_, rfl, ?_⟩) | ((with_reducible refine gate_callee (f := 127) rfl ?_); refine gl_ 16 Tryd.func127 #[.int .i64 a0_0] ?_; (with_reducible refine (impl_isMade.calls a0_0 true _ A9.out ?side1).mono ?_); (case side1 => exact Glob.below HG.out (bel_)); rintro e w' ⟨rfl, ⟨nd, rfl⟩⟩; refine ⟨_, rfl, ?_⟩) | (go_at_call 129; (with_reducible refine (impl_textOk.calls k a0_2 t939 _ A13.out).mono ?_); rintro e w' ⟨rfl, ⟨nd, rfl⟩⟩))
     go_ret
     exact ⟨fi_, bel_⟩
    ·rw [if_neg c12] at H
     have c12b0 : decide (a0_1 ≤ 18) = false := decide_eq_false c12
     clear c12
     obtain rfl := Option.some.inj H
     go_enter Tryd.func97, Tryd.ntmps97
     go_wp2_with (first | ((with_reducible refine gate_dst (N := 1) rfl ?_); refine bx_ 1 (#[.int .i64 a0_0, .int .i64 a0_1, .string a0_2]) 69 ?_; intro gb936 hg w16 hbox hb; have n0_ := Aside0.mk (below_step (bel_) hb); have n1_ := Aside0.mk (hbox); have n2_ := Aside0.mk ((by rw [hg]; exact (below_size (bel_)) : w.heap.size ≤ gb936)); have n3_ := Aside0.mk ((by rw [hg]; exact (below_size (bel_)) : w.heap.size ≤ gb936)); clear HB; have HB := n0_; have BK936 := n1_; have GW936 := n2_; have GE936 := n3_; clear n0_ n1_ n2_ n3_; clear hb hbox hg; have hcz17_0 := cz_ BK936.out 0 (.int .i64 a0_0); have hcz17_1 := cz_ BK936.out 1 (.int .i64 a0_1); have hcz17_2 := cz_ BK936.out 2 (.string a0_2); have hfz17_0 := blk_frozen BK936.out 0; have hfz17_1 := blk_frozen BK936.out 1; have hfz17_2 := blk_frozen BK936.out 2) | ((with_reducible refine gate_callee (f := 98) rfl ?_); refine gl_ 5 Tryd.func98 #[.int .i64 a0_0] ?_; (with_reducible refine (impl_isRoot.calls a0_0 false _ A2.out ?side1).mono ?_); (case side1 => exact Glob.below HG.out (bel_)); rintro e w' ⟨rfl, ⟨nd, rfl⟩⟩; refine ⟨_, rfl, ?_⟩) | ((with_reducible refine gate_callee (f := 127) rfl ?_); refine gl_ 16 Tryd.func127 #[.int .i64 a0_0] ?_; (with_reducible refine (impl_isMade.calls a0_0 true _ A9.out ?side1).mono ?_); (case side1 => exact Glob.below HG.out (bel_)); rintro e w' ⟨rfl, ⟨nd, rfl⟩⟩; refine ⟨_, rfl, ?_⟩))
     go_ret
     exact ⟨fi_, bel_⟩
   ·rw [if_neg c11] at H
    have c11b0 : decide (1 ≤ a0_1) = false := decide_eq_false c11
    clear c11
    obtain rfl := Option.some.inj H
    go_enter Tryd.func97, Tryd.ntmps97
    go_wp2_with (first | ((with_reducible refine gate_dst (N := 1) rfl ?_); refine bx_ 1 (#[.int .i64 a0_0, .int .i64 a0_1, .string a0_2]) 69 ?_; intro gb936 hg w18 hbox hb; have n0_ := Aside0.mk (below_step (bel_) hb); have n1_ := Aside0.mk (hbox); have n2_ := Aside0.mk ((by rw [hg]; exact (below_size (bel_)) : w.heap.size ≤ gb936)); have n3_ := Aside0.mk ((by rw [hg]; exact (below_size (bel_)) : w.heap.size ≤ gb936)); clear HB; have HB := n0_; have BK936 := n1_; have GW936 := n2_; have GE936 := n3_; clear n0_ n1_ n2_ n3_; clear hb hbox hg; have hcz19_0 := cz_ BK936.out 0 (.int .i64 a0_0); have hcz19_1 := cz_ BK936.out 1 (.int .i64 a0_1); have hcz19_2 := cz_ BK936.out 2 (.string a0_2); have hfz19_0 := blk_frozen BK936.out 0; have hfz19_1 := blk_frozen BK936.out 1; have hfz19_2 := blk_frozen BK936.out 2) | ((with_reducible refine gate_callee (f := 98) rfl ?_); refine gl_ 5 Tryd.func98 #[.int .i64 a0_0] ?_; (with_reducible refine (impl_isRoot.calls a0_0 false _ A2.out ?side1).mono ?_); (case side1 => exact Glob.below HG.out (bel_)); rintro e w' ⟨rfl, ⟨nd, rfl⟩⟩; refine ⟨_, rfl, ?_⟩) | ((with_reducible refine gate_callee (f := 127) rfl ?_); refine gl_ 16 Tryd.func127 #[.int .i64 a0_0] ?_; (with_reducible refine (impl_isMade.calls a0_0 true _ A9.out ?side1).mono ?_); (case side1 => exact Glob.below HG.out (bel_)); rintro e w' ⟨rfl, ⟨nd, rfl⟩⟩; refine ⟨_, rfl, ?_⟩))
    go_ret
    exact ⟨fi_, bel_⟩
  ·replace c10 := Bool.eq_false_iff.mpr c10
   subst c10
   have H1 : (some false) = some r := by rw [if_neg (show ¬ (false = true) by decide)] at H; exact H
   clear H
   have H := H1
   clear H1
   obtain rfl := Option.some.inj H
   go_enter Tryd.func97, Tryd.ntmps97
   go_wp2_with (first | ((with_reducible refine gate_dst (N := 1) rfl ?_); refine bx_ 1 (#[.int .i64 a0_0, .int .i64 a0_1, .string a0_2]) 69 ?_; intro gb936 hg w20 hbox hb; have n0_ := Aside0.mk (below_step (bel_) hb); have n1_ := Aside0.mk (hbox); have n2_ := Aside0.mk ((by rw [hg]; exact (below_size (bel_)) : w.heap.size ≤ gb936)); have n3_ := Aside0.mk ((by rw [hg]; exact (below_size (bel_)) : w.heap.size ≤ gb936)); clear HB; have HB := n0_; have BK936 := n1_; have GW936 := n2_; have GE936 := n3_; clear n0_ n1_ n2_ n3_; clear hb hbox hg; have hcz21_0 := cz_ BK936.out 0 (.int .i64 a0_0); have hcz21_1 := cz_ BK936.out 1 (.int .i64 a0_1); have hcz21_2 := cz_ BK936.out 2 (.string a0_2); have hfz21_0 := blk_frozen BK936.out 0; have hfz21_1 := blk_frozen BK936.out 1; have hfz21_2 := blk_frozen BK936.out 2) | ((with_reducible refine gate_callee (f := 98) rfl ?_); refine gl_ 5 Tryd.func98 #[.int .i64 a0_0] ?_; (with_reducible refine (impl_isRoot.calls a0_0 false _ A2.out ?side1).mono ?_); (case side1 => exact Glob.below HG.out (bel_)); rintro e w' ⟨rfl, ⟨nd, rfl⟩⟩; refine ⟨_, rfl, ?_⟩) | ((with_reducible refine gate_callee (f := 127) rfl ?_); refine gl_ 16 Tryd.func127 #[.int .i64 a0_0] ?_; (with_reducible refine (impl_isMade.calls a0_0 false _ A9.out ?side1).mono ?_); (case side1 => exact Glob.below HG.out (bel_)); rintro e w' ⟨rfl, ⟨nd, rfl⟩⟩; refine ⟨_, rfl, ?_⟩))
   go_ret
   exact ⟨fi_, bel_⟩

end Go.Proofs.YtdpklbomhdpimaaDoor.P
namespace Go.Proofs.YtdpklbomhdpimaaDoor.PL
open Go.RowKit Go.Proofs.YtdpklbomhdpimaaDoor.P Go.Proofs.YtdpklbomhdpimaaDoorW.PrintWords Go.Proofs.YtdpklbomhdpimaaDoorW.PrintLast
theorem evnow {α : Type} (a : α) : Ev (fun _ => some a) a := ⟨0, fun _ _ => rfl⟩
theorem ev_neg {α : Type} {c : Prop} [Decidable c] {f g : Nat → Option α} {r : α} (h : ¬ c) (k : Ev g r) : Ev (fun n => if c then f n else g n) r := Ev.congr (fun _ => if_neg h) k
theorem ev_pos {α : Type} {c : Prop} [Decidable c] {f g : Nat → Option α} {r : α} (h : c) (k : Ev f r) : Ev (fun n => if c then f n else g n) r := Ev.congr (fun _ => if_pos h) k
theorem wrapS (i : Int) (h0 : 0 ≤ i) (h : i ≤ 4611686018427387904) : wrap64 (i + 1) = i + 1 := by unfold wrap64; omega
theorem wrapT (i : Int) (h0 : 0 ≤ i) (h : i + 1 ≤ 9223372036854775807) : wrap64 (i + 1) = i + 1 := by unfold wrap64; omega
def I64 (a : Int) : Prop := -9223372036854775808 ≤ a ∧ a ≤ 9223372036854775807

def madeB (a : Int) : Bool := decide (ownI a ≠ 0) && decide (ownI a ≠ 1)
def rootB (a : Int) : Bool := decide (1 ≤ a) && decide (a ≤ 3)
theorem in_f (a b c : Int) : spec_l6In.f a b c = some (decide (b ≤ a) && decide (a ≤ c)) := by
 unfold spec_l6In.f
 by_cases h : a ≥ b
 ·rw [if_pos h]; simp [h]
 ·rw [if_neg h]; simp [show ¬ b ≤ a from h]
theorem ownI_out (a : Int) (h : a < 0 ∨ 37 ≤ a) : ownI a = 0 := by
 unfold ownI
 rw [if_neg (by omega)]
theorem small_made : ∀ n : Nat, n < 37 → (decide (1 ≤ Int.tdiv (n : Int) 10) && decide (Int.tdiv (n : Int) 10 ≤ 3)) = true → (decide (1 ≤ Int.tmod (n : Int) 10) && decide (Int.tmod (n : Int) 10 ≤ 6)) = madeB n := by decide
theorem small_unmade : ∀ n : Nat, n < 37 → (decide (1 ≤ Int.tdiv (n : Int) 10) && decide (Int.tdiv (n : Int) 10 ≤ 3)) = false → madeB n = false := by decide
theorem small_who : ∀ n : Nat, n < 37 → madeB n = true → ownI n - 1 = Int.tdiv (n : Int) 10 := by decide
theorem small_root : ∀ n : Nat, n < 37 → (decide (ownI n ≠ 0) && decide (ownI n - 1 = 0)) = rootB n := by decide
theorem tdiv_wrap (a : Int) (h : I64 a) : wrap64 (Int.tdiv a 10) = Int.tdiv a 10 := by
 obtain ⟨h1, h2⟩ := h
 have : Int.tdiv a 10 ≤ 9223372036854775807 ∧ -9223372036854775808 ≤ Int.tdiv a 10 := by
  rcases Int.le_total 0 a with h0 | h0
  ·rw [Int.tdiv_eq_ediv_of_nonneg h0]; omega
  ·have e : Int.tdiv a 10 = -(Int.tdiv (-a) 10) := by rw [Int.neg_tdiv, Int.neg_neg]
   rw [e, Int.tdiv_eq_ediv_of_nonneg (by omega)]; omega
 unfold wrap64; omega
theorem made_f (a : Int) (h : I64 a) : spec_l1Made.f a = some (madeB a) := by
 unfold spec_l1Made.f
 rw [in_f, in_f, tdiv_wrap a h]
 simp only [Option.bind_some]
 by_cases hs : 0 ≤ a ∧ a < 37
 ·obtain ⟨n, rfl⟩ : ∃ n : Nat, a = n := ⟨a.toNat, by omega⟩
  have hn : n < 37 := by omega
  cases hd : (decide (1 ≤ Int.tdiv (n : Int) 10) && decide (Int.tdiv (n : Int) 10 ≤ 3)) with
  | true => rw [if_pos rfl, small_made n hn hd]
  | false => rw [if_neg (by decide), small_unmade n hn hd]
 ·have ho : madeB a = false := by unfold madeB; rw [ownI_out a (by omega)]; rfl
  rw [ho]
  rcases Int.lt_or_le a 0 with h0 | h0
  ·have e : Int.tdiv a 10 = -(Int.tdiv (-a) 10) := by rw [Int.neg_tdiv, Int.neg_neg]
   have h1 : Int.tdiv a 10 ≤ 0 := by rw [e, Int.tdiv_eq_ediv_of_nonneg (by omega)]; omega
   have h2 : decide (1 ≤ Int.tdiv a 10) = false := decide_eq_false (by omega)
   rw [h2]
   simp
  ·have e1 := Int.tdiv_eq_ediv_of_nonneg (b := 10) h0
   have e2 : Int.tmod a 10 = a % 10 := Int.tmod_eq_emod_of_nonneg h0
   rw [e1, e2]
   by_cases h3 : a / 10 ≤ 3
   ·have h4 : decide (a % 10 ≤ 6) = false := decide_eq_false (by omega)
    rw [h4]
    simp
   ·have h4 : decide (a / 10 ≤ 3) = false := decide_eq_false h3
    rw [h4]
    simp
theorem isMade_f (a : Int) : impl_isMade.f a = some (madeB a) := by
 unfold impl_isMade.f impl_RowWho.f madeB
 simp only [Option.bind_some]
 by_cases h0 : ownI a = 0
 ·rw [if_pos h0]; simp [h0]
 ·rw [if_neg h0]
  by_cases h1 : ownI a = 1
  ·simp [h1]
  ·simp [h0, h1]
   omega
theorem isRoot_f (a : Int) : impl_isRoot.f a = some (rootB a) := by
 unfold impl_isRoot.f impl_RowWho.f
 simp only [Option.bind_some]
 by_cases hs : 0 ≤ a ∧ a < 37
 ·obtain ⟨n, rfl⟩ : ∃ n : Nat, a = n := ⟨a.toNat, by omega⟩
  have := small_root n (by omega)
  rw [← this]
  by_cases h0 : ownI (n : Int) = 0
  ·rw [if_pos h0]; simp [h0]
  ·rw [if_neg h0]
   by_cases h1 : ownI (n : Int) - 1 = 0 <;> simp [h0, h1]
 ·rw [if_pos (ownI_out a (by omega))]
  have : rootB a = false := by unfold rootB; simp; omega
  rw [this]
  simp
theorem root_f (a : Int) : spec_l1Root.f a = some (rootB a) := by
 unfold spec_l1Root.f
 rw [in_f]
 rfl
def idB (a : Int) : Bool := rootB a || madeB a
theorem id_f (a : Int) (h : I64 a) : spec_l3Id.f a = some (idB a) := by
 unfold spec_l3Id.f idB
 rw [root_f, made_f a h]
 simp only [Option.bind_some]
 cases rootB a <;> simp
def placeB (u a : Int) : Bool := idB u && (decide (a = 0) || madeB a)
theorem place_f (u a : Int) : impl_placeOk.f u a = some (placeB u a) := by
 unfold impl_placeOk.f placeB idB
 rw [isMade_f, isMade_f, isRoot_f]
 simp only [Option.bind_some]
 by_cases h : a = 0
 ·simp only [h, if_true]
  cases madeB u <;> cases rootB u <;> simp
 ·simp only [h, if_false]
  cases madeB u <;> cases rootB u <;> simp
def textFrom (s : ByteArray) (i : Nat) : Nat → Bool
 | 0 => true
 | n + 1 => decide (97 ≤ bt s i) && decide (bt s i ≤ 100) && textFrom s (i + 1) n
def textB (s : ByteArray) : Bool := textFrom s 0 s.size && decide (s.size ≤ 4)
theorem bt_range (s : ByteArray) (i : Int) : 0 ≤ bt s i ∧ bt s i ≤ 255 := by
 unfold bt
 split
 ·rename_i h
  have := (s[i.toNat]'h).toNat_lt
  omega
 ·omega
theorem text_l0 (s : ByteArray) (hs : s.size ≤ 9223372036854775807) : ∀ (n : Nat) (i : Nat), i + n = s.size → Ev (fun k => spec_l1Text.l0 k s i) (textFrom s i n && decide (s.size ≤ 4))
 | 0, i, h => by
  refine Ev.step (f := fun _ => some (decide ((s.size : Int) ≤ 4))) (fun k => ?_) ?_
  ·simp only [spec_l1Text.l0]; rw [if_neg (by omega)]
  ·have : decide ((s.size : Int) ≤ 4) = (textFrom s i 0 && decide (s.size ≤ 4)) := by simp [textFrom]; omega
   rw [this]; exact evnow _
 | n + 1, i, h => by
  have hw : wrap64 (bt s i) = bt s i := by have := bt_range s i; unfold wrap64; omega
  unfold textFrom
  cases ht : (decide (97 ≤ bt s i) && decide (bt s i ≤ 100)) with
  | true =>
   rw [Bool.true_and]
   refine Ev.step (fun k => ?_) (text_l0 s hs n (i + 1) (by omega))
   simp only [spec_l1Text.l0]
   rw [if_pos (by omega), if_pos (by omega), hw, in_f, ht, Option.bind_some, if_pos rfl, wrapT i (by omega) (by omega)]
   rfl
  | false =>
   rw [Bool.false_and, Bool.false_and]
   refine Ev.step (f := fun _ => some false) (fun k => ?_) (evnow _)
   simp only [spec_l1Text.l0]
   rw [if_pos (by omega), if_pos (by omega), hw, in_f, ht, Option.bind_some, if_neg (by decide)]
theorem text_f (s : ByteArray) (hs : s.size ≤ 9223372036854775807) : Ev (fun k => spec_l1Text.f k s) (textB s) := text_l0 s hs s.size 0 (by omega)
theorem itext_l0 (s : ByteArray) (hs : s.size ≤ 9223372036854775807) : ∀ (n : Nat) (i : Nat), i + n = s.size → Ev (fun k => impl_textOk.l0 k s i) (textFrom s i n)
 | 0, i, h => by
  refine Ev.step (f := fun _ => some true) (fun k => ?_) (evnow _)
  simp only [impl_textOk.l0]; rw [if_neg (by omega)]
 | n + 1, i, h => by
  unfold textFrom
  by_cases h1 : bt s i < 97
  ·have : decide (97 ≤ bt s i) = false := decide_eq_false (by omega)
   rw [this, Bool.false_and, Bool.false_and]
   refine Ev.step (f := fun _ => some false) (fun k => ?_) (evnow _)
   simp only [impl_textOk.l0]
   rw [if_pos (by omega), if_pos (by omega), if_pos h1]
  ·by_cases h2 : bt s i > 100
   ·have : decide (bt s i ≤ 100) = false := decide_eq_false (by omega)
    rw [this, Bool.and_false, Bool.false_and]
    refine Ev.step (f := fun _ => some false) (fun k => ?_) (evnow _)
    simp only [impl_textOk.l0]
    rw [if_pos (by omega), if_pos (by omega), if_neg h1, if_pos h2]
   ·have e1 : decide (97 ≤ bt s i) = true := decide_eq_true (by omega)
    have e2 : decide (bt s i ≤ 100) = true := decide_eq_true (by omega)
    rw [e1, e2, Bool.true_and, Bool.true_and]
    refine Ev.step (fun k => ?_) (itext_l0 s hs n (i + 1) (by omega))
    simp only [impl_textOk.l0]
    rw [if_pos (by omega), if_pos (by omega), if_neg h1, if_neg h2, wrapT i (by omega) (by omega)]
    rfl
theorem itext_f (s : ByteArray) (hs : s.size ≤ 9223372036854775807) : Ev (fun k => impl_textOk.f k s) (textB s) := by
 unfold impl_textOk.f textB
 by_cases h : (s.size : Int) > 4
 ·refine ev_pos h ?_
  have : decide (s.size ≤ 4) = false := decide_eq_false (by omega)
  rw [this, Bool.and_false]
  exact evnow _
 ·refine ev_neg h ?_
  have : decide (s.size ≤ 4) = true := decide_eq_true (by omega)
  rw [this, Bool.and_true]
  exact itext_l0 s hs s.size 0 (by omega)
theorem text_nil (s : ByteArray) (h : s.toList.isEmpty = true) : textB s = true := by
 have : s.size = 0 := by
  have h2 := List.isEmpty_iff.1 h
  have h3 : s.toList.length = s.size := by rw [Go.ByteArray.toList_eq]; exact Array.length_toList
  rw [← h3, h2]; rfl
 unfold textB
 rw [this]
 rfl
def opB (k i u a : Int) (s : ByteArray) : Bool :=
 madeB i && (if k = 1 then placeB u a && textB s else if k = 2 then decide (u = 0) && decide (a = 0) && textB s else if k = 3 then placeB u a && s.toList.isEmpty else false)
theorem opOk_f (k i u a : Int) (s : ByteArray) (hs : s.size ≤ 9223372036854775807) : Ev (fun n => impl_OpOk.f n k i u a s) (opB k i u a s) := by
 unfold impl_OpOk.f impl_changeOf.f opB
 rw [isMade_f]
 simp only [Option.bind_some]
 cases madeB i with
 | false => simp only [Bool.false_eq_true, if_false, Bool.false_and]; exact evnow _
 | true =>
  simp only [if_true, Bool.true_and, place_f, Option.bind_some]
  by_cases h1 : k = 1
  ·simp only [h1, if_true]
   cases placeB u a with
   | true => simp only [if_true, Bool.true_and]; exact itext_f s hs
   | false => simp only [Bool.false_eq_true, if_false, Bool.false_and]; exact evnow _
  ·simp only [h1, if_false]
   by_cases h2 : k = 2
   ·simp only [h2, if_true]
    by_cases h3 : u = 0
    ·by_cases h4 : a = 0
     ·simp only [h3, h4, if_true, decide_true, Bool.true_and]; exact itext_f s hs
     ·simp only [h3, h4, if_true, if_false, decide_true, decide_false, Bool.true_and, Bool.false_and]; exact evnow _
    ·simp only [h3, if_false, decide_false, Bool.false_and]; exact evnow _
   ·simp only [h2, if_false]
    by_cases h3 : k = 3
    ·simp only [h3, if_true]
     cases placeB u a with
     | true => simp only [if_true, Bool.true_and]; exact evnow _
     | false => simp only [Bool.false_eq_true, if_false, Bool.false_and]; exact evnow _
    ·simp only [h3, if_false]; exact evnow _
theorem sop_f (k i u a : Int) (s : ByteArray) (hi : I64 i) (hu : I64 u) (ha : I64 a) (hs : s.size ≤ 9223372036854775807) : Ev (fun n => spec_OpOk.f n k i u a s) (opB k i u a s) := by
 unfold spec_OpOk.f opB
 rw [made_f i hi]
 simp only [Option.bind_some]
 cases madeB i with
 | false =>
  simp only [Bool.false_eq_true, if_false, Bool.false_and]
  refine Ev.step (f := fun _ => some false) (fun n => ?_) (evnow _)
  simp only [spec_OpOk.j0, if_true]
 | true =>
  simp only [if_true, Bool.true_and]
  refine Ev.bind (text_f s hs) ?_
  have hp : (idB u && (decide (a = 0) || madeB a)) = placeB u a := rfl
  cases ht : textB s with
  | false =>
   have hne : s.toList.isEmpty = false := by
    cases he : s.toList.isEmpty with
    | false => rfl
    | true => rw [text_nil s he] at ht; cases ht
   refine Ev.step (f := fun _ => some false) (fun n => ?_) ?_
   ·simp only [spec_OpOk.j0, Bool.not_false, if_true]
   ·simp only [hne, Bool.and_false, ite_self]
    exact evnow _
  | true =>
   refine Ev.step (f := fun _ => some (if k = 1 then placeB u a && true else if k = 2 then decide (u = 0) && decide (a = 0) && true else if k = 3 then placeB u a && s.toList.isEmpty else false)) (fun n => ?_) (evnow _)
   simp only [spec_OpOk.j0, Bool.not_true, Bool.false_eq_true, if_false]
   rw [id_f u hu, made_f a ha]
   simp only [Option.bind_some, Bool.and_true]
   rw [← hp]
   have hnil : (s.toList == ([] : List UInt8)) = s.toList.isEmpty := by cases s.toList <;> rfl
   rw [hnil]
   by_cases h1 : k = 1
   ·simp only [h1, if_true]
    by_cases h4 : a = 0
    ·simp only [h4, if_true, decide_true, Bool.true_or, Bool.and_true]; cases idB u <;> simp
    ·simp only [h4, if_false, decide_false, Bool.false_or]; cases idB u <;> simp
   ·simp only [h1, if_false]
    by_cases h2 : k = 2
    ·simp only [h2, if_true]
     by_cases h3 : u = 0
     ·simp [h3]; by_cases h4 : a = 0 <;> simp [h4]
     ·simp [h3]
    ·simp only [h2, if_false]
     by_cases h3 : k = 3
     ·simp only [h3, if_true]
      by_cases h4 : a = 0
      ·simp only [h4, if_true, decide_true, Bool.true_or, Bool.and_true]; cases idB u <;> simp
      ·simp only [h4, if_false, decide_false, Bool.false_or]; cases idB u <;> cases madeB a <;> simp
     ·simp only [h3, if_false]
theorem made_small (a : Int) (h : madeB a = true) : 0 ≤ a ∧ a < 37 := by
 rcases Int.lt_or_le a 0 with h0 | h0
 ·unfold madeB at h; rw [ownI_out a (by omega)] at h; simp at h
 ·rcases Int.lt_or_le a 37 with h1 | h1
  ·exact ⟨h0, h1⟩
  ·unfold madeB at h; rw [ownI_out a (by omega)] at h; simp at h
theorem opB_made (k i u a : Int) (s : ByteArray) (h : opB k i u a s = true) : madeB i = true := by
 unfold opB at h
 simp only [Bool.and_eq_true] at h
 exact h.1
def rowB (r : S69) : Bool := if rootB r.f0 then decide (r.f1 = 0) && (r.f2.toList == ([] : List UInt8)) else madeB r.f0 && (decide (1 ≤ r.f1) && (decide (r.f1 ≤ 18) && textB r.f2))
theorem itext_any (s : ByteArray) : Ev (fun k => impl_textOk.f k s) (textB s) := by
 by_cases hs : s.size ≤ 9223372036854775807
 ·exact itext_f s hs
 ·have e : textB s = false := by unfold textB; simp; omega
  rw [e]
  refine Ev.congr (fun k => ?_) (evnow false)
  unfold impl_textOk.f
  exact if_pos (by omega)
theorem row_f (r : S69) : Ev (fun k => impl_RowOk.f k r.f0 r.f1 r.f2) (rowB r) := by
 unfold impl_RowOk.f rowB
 rw [isRoot_f, isMade_f]
 simp only [Option.bind_some]
 cases rootB r.f0 with
 | true =>
  simp only [if_true]
  by_cases h : r.f1 = 0
  ·simp only [h, if_true, decide_true, Bool.true_and]; exact evnow _
  ·simp only [h, if_false, decide_false, Bool.false_and]; exact evnow _
 | false =>
  cases madeB r.f0 with
  | false => simp only [Bool.false_eq_true, if_false, Bool.false_and]; exact evnow _
  | true =>
   simp only [Bool.false_eq_true, if_false, if_true, Bool.true_and]
   by_cases h1 : 1 ≤ r.f1
   ·refine ev_pos h1 ?_
    by_cases h2 : r.f1 ≤ 18
    ·refine ev_pos h2 ?_
     simp only [h1, h2, decide_true, Bool.true_and]
     exact Ev.bind (itext_any r.f2) (evnow _)
    ·refine ev_neg h2 ?_
     simp only [h1, h2, decide_true, decide_false, Bool.true_and, Bool.false_and]
     exact evnow _
   ·refine ev_neg h1 ?_
    simp only [h1, decide_false, Bool.false_and]
    exact evnow _
end Go.Proofs.YtdpklbomhdpimaaDoor.PL
namespace Go.Proofs.YtdpklbomhdpimaaDoor.P
open Go.RowKit Go.Proofs.YtdpklbomhdpimaaDoorW.PrintWords Go.Proofs.YtdpklbomhdpimaaDoorW.PrintLast Go.Proofs.YtdpklbomhdpimaaDoorW.PrintMore Go.Proofs.YtdpklbomhdpimaaDoor.PL
def treeGo (seen : List Int) (roots depth : Int) : List S69 → Bool
 | [] => decide (roots = 3)
 | r :: rest => rowB r && (decide (r.f0 ∉ seen) && (decide (r.f1 ≤ depth + 1) &&
   (if rootB r.f0 then decide (r.f0 = roots + 1) && treeGo (r.f0 :: seen) (roots + 1) r.f1 rest else treeGo (r.f0 :: seen) roots r.f1 rest)))
def treeB (l : List S69) : Bool := treeGo [] 0 (-1) l
def impl_TreeOk.f (k : Nat) (l0 : List S69) : Option Bool := some (treeB l0)
theorem impl_TreeOk.mono (l0 : List S69) (k : Nat) : LeO (impl_TreeOk.f k l0) (impl_TreeOk.f (k + 1) l0) := LeO.refl _
def timesC (seen : List Int) : Array Value := ((List.range 37).map fun i : Nat => Value.int .i64 (if (i : Int) ∈ seen then 1 else 0)).toArray
theorem timesC_get (seen : List Int) (i : Nat) (hi : i < 37) : (timesC seen)[i]? = some (.int .i64 (if (i : Int) ∈ seen then 1 else 0)) := by
 simp [timesC, hi]
theorem timesC_set (seen : List Int) (i : Nat) (hi : i < 37) (hs : (i : Int) ∉ seen) : (timesC seen).setIfInBounds i (.int .i64 1) = timesC ((i : Int) :: seen) := by
 unfold timesC
 rw [List.setIfInBounds_toArray]
 congr 1
 apply List.ext_getElem (by simp)
 intro k h1 h2
 simp only [List.getElem_set, List.getElem_map, List.getElem_range, List.mem_cons]
 by_cases hk : i = k
 ·subst hk; simp
 ·have : ¬ ((k : Int) = (i : Int)) := fun e => hk (by omega)
  rw [if_neg hk]
  simp [this]
theorem rowB_id {r : S69} (h : rowB r = true) : 0 ≤ r.f0 ∧ r.f0 < 37 ∧ 0 ≤ r.f1 ∧ r.f1 ≤ 18 := by
 unfold rowB at h
 by_cases hr : rootB r.f0 = true
 ·rw [if_pos hr] at h
  unfold rootB at hr
  simp only [Bool.and_eq_true, decide_eq_true_eq] at hr h
  omega
 ·rw [if_neg hr] at h
  simp only [Bool.and_eq_true, decide_eq_true_eq] at h
  have := made_small _ h.1
  omega
def TreeRel (l0 : List S69) (r : Bool) (w : World) (ro dp i : Value) (wr : World) : Prop :=
 ∃ (j roots depth : Int) (seen : List Int), 0 ≤ j ∧ j ≤ l0.length ∧ i = .int .i64 j ∧ ro = .int .i64 roots ∧ dp = .int .i64 depth ∧ (0 ≤ roots ∧ roots ≤ 3) ∧ (-1 ≤ depth ∧ depth ≤ 18) ∧ Aside0 (treeGo seen roots depth (l0.drop j.toNat) = r) ∧
  Aside0 (wr.heap[w.heap.size]? = some (.cells (timesC seen) 126 (0, 0))) ∧ Aside0 (Below w.heap.size w wr)
set_option maxHeartbeats 4000000 in
set_option maxRecDepth 100000 in
theorem impl_TreeOk.calls (k : Nat) (A0 : Option Addr) (c0 : Nat) (l0 : List S69) (r : Bool) (w : World) (hr0 : Kd.C k69 w A0 l0.length l0) (hc0 : l0.length ≤ c0) (h : impl_TreeOk.f k l0 = some r) (hG : Glob w) :
  Calls Tryd.prog 45 #[.slice A0 l0.length c0] w fun e w' => e = .returned (.bool r) ∧ Below w.heap.size w w' := by
 have hlen := hr0.2.1
 have HR0 := Aside0.mk hr0
 have HG := Aside0.mk hG
 have HH := Aside0.mk (Option.some.inj h)
 clear hr0 hG h
 go_enter Tryd.func45, Tryd.ntmps45
 go_wp2
 go_loopw [4, 5, 10] (fun ro dp i wr => TreeRel l0 r w ro dp i wr) (fun _ _ i _ => l0.length - (intOf i).toNat)
 case atStart => exact ⟨0, 0, -1, [], Int.le_refl _, by omega, rfl, rfl, rfl, by omega, by omega, HH, ⟨heap_alloc_new w (.cells (timesC []) 126)⟩, ⟨below_box0 w _⟩⟩
 case round =>
  obtain ⟨j, roots, depth, seen, hj0, hj, rfl, rfl, rfl, hro, hdp, HGO, HT, HB⟩ := hrel
  clear HH
  by_cases hlt : j < l0.length
  ·have hd1 : decide (j < (l0.length : Int)) = true := decide_eq_true hlt
   obtain ⟨ad, e, hx0, hx1, hx2⟩ := at_T69 HR0.out j hj0 hlt
   cases e
   replace hx0 := (cb_ HB.out hx0 :)
   replace hx1 := (cb_ HB.out hx1 :)
   replace hx2 := (cb_ HB.out hx2 :)
   have hu := Tryd.underlying69
   have hxe : rd_T69 l0 j = l0[j.toNat]'(by omega) := by
    unfold rd_T69
    rw [List.getD_eq_getElem?_getD, List.getElem?_eq_getElem (by omega)]
    rfl
   have htd := List.drop_eq_getElem_cons (l := l0) (i := j.toNat) (by omega)
   rw [← hxe] at htd
   have hgo := HGO.out
   rw [htd] at hgo
   clear HGO hxe
   generalize rd_T69 l0 j = x at hx0 hx1 hx2 htd hgo
   rw [show j.toNat + 1 = (j + 1).toNat by omega] at htd hgo
   unfold treeGo at hgo
   obtain ⟨kr, hkr⟩ := row_f x
   have HKR := Aside0.mk (hkr kr (Nat.le_refl _))
   have p1 := eq_true hj0
   have q1 := eq_true hlt
   have HGO := Aside0.mk hgo
   have HTD := Aside0.mk htd
   have HJ := Aside0.mk (And.intro hj0 (And.intro hlt (And.intro hro hdp)))
   have HL := Aside0.mk (show w.heap.size < wr.heap.size from blk_lt HT.out)
   have HB1 := Aside0.mk (below_alloc HB.out (.cells #[.int .i64 x.f0, .int .i64 x.f1, .string x.f2] 69))
   have HT1 := Aside0.mk (blk_alloc HT.out (.cells #[.int .i64 x.f0, .int .i64 x.f1, .string x.f2] 69))
   clear hj0 hlt htd hgo hkr HB HT hro hdp
   by_cases hrow : rowB x = true
   ·have hid := rowB_id hrow
    rw [hrow] at HKR
    have hgo := HGO.out
    rw [hrow, Bool.true_and] at hgo
    clear HGO hrow
    obtain ⟨i, hi⟩ := Int.eq_ofNat_of_zero_le hid.1
    have hi37 : i < 37 := by omega
    have hne : w.heap.size ≠ wr.heap.size := by have := HL.out; omega
    have hne' : wr.heap.size ≠ w.heap.size := fun e => hne e.symm
    have i0 : 0 ≤ (i : Int) := by omega
    have i37 : (i : Int) < 37 := by omega
    have hf1 : 0 ≤ x.f1 := hid.2.2.1
    have hf18 : x.f1 ≤ 18 := hid.2.2.2
    have hdp0 : -1 ≤ depth := HJ.out.2.2.2.1
    have hdp1 : depth ≤ 18 := HJ.out.2.2.2.2
    rw [hi] at hgo HKR HB1 HT1 hx0
    have HXI := Aside0.mk hi
    clear hi hid
    by_cases hs : (i : Int) ∈ seen
    ·have HTG := Aside0.mk (show (timesC seen)[i]? = some (.int .i64 1) by rw [timesC_get seen i hi37, if_pos hs])
     have hr : r = false := by rw [← hgo, decide_eq_false (fun h => h hs)]; rfl
     clear hgo hs
     subst hr
     go_wp2_with (go_at_call 97; refine (impl_RowOk.calls kr (i : Int) x.f1 x.f2 true _ HKR.out (HG.out.below HB1.out)).mono ?_; rintro e W2 ⟨rfl, hb⟩; have HB2 := Aside0.mk (below_step HB1.out hb); have HT2 := Aside0.mk (blk_below HT1.out hb); have HX2 := Aside0.mk (blk_below (blk_new wr _) hb); clear hb; have d0 := (blk_cell HX2.out 0).trans rfl; have d1 := (blk_cell HX2.out 1).trans rfl; have t0 := (blk_cell HT2.out i).trans HTG.out; have tf := blk_frozen HT2.out i)
     go_ret
     exact ⟨rfl, HB2.out⟩
    ·have HTG := Aside0.mk (show (timesC seen)[i]? = some (.int .i64 0) by rw [timesC_get seen i hi37, if_neg hs])
     have HTS := Aside0.mk (timesC_set seen i hi37 hs)
     rw [decide_eq_true hs, Bool.true_and] at hgo
     clear hs
     by_cases hdep : x.f1 ≤ depth + 1
     ·have hdb : decide (depth + 1 < x.f1) = false := decide_eq_false (by omega)
      rw [decide_eq_true hdep, Bool.true_and] at hgo
      clear hdep
      by_cases hroot : rootB (i : Int) = true
      ·have HRF := Aside0.mk (isRoot_f (i : Int))
       rw [hroot] at HRF
       rw [if_pos hroot] at hgo
       have hr3 : 1 ≤ i ∧ i ≤ 3 := by unfold rootB at hroot; simp at hroot; omega
       have hro0 : 0 ≤ roots := HJ.out.2.2.1.1
       have hro3 : roots ≤ 3 := HJ.out.2.2.1.2
       clear hroot
       by_cases hn : (i : Int) = roots + 1
       ·have hb1 : ((i : Int) != roots + 1) = false := bne_eq_false_iff_eq.2 hn
        rw [decide_eq_true hn, Bool.true_and] at hgo
        have HN := Aside0.mk hn
        have HGO := Aside0.mk hgo
        clear hn hgo
        go_wp2_with (first | (go_at_call 97; refine (impl_RowOk.calls kr (i : Int) x.f1 x.f2 true _ HKR.out (HG.out.below HB1.out)).mono ?_; rintro e W2 ⟨rfl, hb⟩; have HB2 := Aside0.mk (below_step HB1.out hb); have HT2 := Aside0.mk (blk_below HT1.out hb); have HX2 := Aside0.mk (blk_below (blk_new wr _) hb); clear hb; have d0 := (blk_cell HX2.out 0).trans rfl; have d1 := (blk_cell HX2.out 1).trans rfl; have t0 := (blk_cell HT2.out i).trans HTG.out; have tf := blk_frozen HT2.out i) | (go_at_call 98; refine (impl_isRoot.calls (i : Int) true _ HRF.out (HG.out.below (below_set HB2.out (Nat.le_refl _)))).mono ?_; rintro e w' ⟨rfl, ⟨nd, rfl⟩⟩))
        have hjj := HJ.out
        have hww : wrap64 (j + 1) = j + 1 := by unfold wrap64; omega
        refine ⟨⟨j + 1, roots + 1, x.f1, (i : Int) :: seen, by omega, by omega, by first | rfl | rw [hww], rfl, rfl, by have := HN.out; omega, by omega, HGO, ⟨?_⟩, ⟨pw_below_drewN (below_set HB2.out (Nat.le_refl _)) _⟩⟩, ?_⟩
        ·have := blk_set HT2.out i (.int .i64 1)
         rw [HTS.out] at this
         exact this
        ·first | (show l0.length - (j + 1).toNat < l0.length - j.toNat; omega) | (rw [hww]; show l0.length - (j + 1).toNat < l0.length - j.toNat; omega)
       ·have hb1 : ((i : Int) != roots + 1) = true := bne_iff_ne.2 hn
        rw [decide_eq_false hn, Bool.false_and] at hgo
        subst hgo
        clear hn
        go_wp2_with (first | (go_at_call 97; refine (impl_RowOk.calls kr (i : Int) x.f1 x.f2 true _ HKR.out (HG.out.below HB1.out)).mono ?_; rintro e W2 ⟨rfl, hb⟩; have HB2 := Aside0.mk (below_step HB1.out hb); have HT2 := Aside0.mk (blk_below HT1.out hb); have HX2 := Aside0.mk (blk_below (blk_new wr _) hb); clear hb; have d0 := (blk_cell HX2.out 0).trans rfl; have d1 := (blk_cell HX2.out 1).trans rfl; have t0 := (blk_cell HT2.out i).trans HTG.out; have tf := blk_frozen HT2.out i) | (go_at_call 98; refine (impl_isRoot.calls (i : Int) true _ HRF.out (HG.out.below (below_set HB2.out (Nat.le_refl _)))).mono ?_; rintro e w' ⟨rfl, ⟨nd, rfl⟩⟩))
        go_ret
        exact ⟨rfl, pw_below_drewN (below_set HB2.out (Nat.le_refl _)) _⟩
      ·have hroot : rootB (i : Int) = false := by simpa using hroot
       have HRF := Aside0.mk (isRoot_f (i : Int))
       rw [hroot] at HRF
       rw [if_neg (by rw [hroot]; decide)] at hgo
       have HGO := Aside0.mk hgo
       clear hroot hgo
       go_wp2_with (first | (go_at_call 97; refine (impl_RowOk.calls kr (i : Int) x.f1 x.f2 true _ HKR.out (HG.out.below HB1.out)).mono ?_; rintro e W2 ⟨rfl, hb⟩; have HB2 := Aside0.mk (below_step HB1.out hb); have HT2 := Aside0.mk (blk_below HT1.out hb); have HX2 := Aside0.mk (blk_below (blk_new wr _) hb); clear hb; have d0 := (blk_cell HX2.out 0).trans rfl; have d1 := (blk_cell HX2.out 1).trans rfl; have t0 := (blk_cell HT2.out i).trans HTG.out; have tf := blk_frozen HT2.out i) | (go_at_call 98; refine (impl_isRoot.calls (i : Int) false _ HRF.out (HG.out.below (below_set HB2.out (Nat.le_refl _)))).mono ?_; rintro e w' ⟨rfl, ⟨nd, rfl⟩⟩))
       have hjj := HJ.out
       have hww : wrap64 (j + 1) = j + 1 := by unfold wrap64; omega
       refine ⟨⟨j + 1, roots, x.f1, (i : Int) :: seen, by omega, by omega, by first | rfl | rw [hww], rfl, rfl, by omega, by omega, HGO, ⟨?_⟩, ⟨pw_below_drewN (below_set HB2.out (Nat.le_refl _)) _⟩⟩, ?_⟩
       ·have := blk_set HT2.out i (.int .i64 1)
        rw [HTS.out] at this
        exact this
       ·first | (show l0.length - (j + 1).toNat < l0.length - j.toNat; omega) | (rw [hww]; show l0.length - (j + 1).toNat < l0.length - j.toNat; omega)
     ·have hdb : decide (depth + 1 < x.f1) = true := decide_eq_true (by omega)
      rw [decide_eq_false hdep, Bool.false_and] at hgo
      subst hgo
      clear hdep
      go_wp2_with (go_at_call 97; refine (impl_RowOk.calls kr (i : Int) x.f1 x.f2 true _ HKR.out (HG.out.below HB1.out)).mono ?_; rintro e W2 ⟨rfl, hb⟩; have HB2 := Aside0.mk (below_step HB1.out hb); have HT2 := Aside0.mk (blk_below HT1.out hb); have HX2 := Aside0.mk (blk_below (blk_new wr _) hb); clear hb; have d0 := (blk_cell HX2.out 0).trans rfl; have d1 := (blk_cell HX2.out 1).trans rfl; have t0 := (blk_cell HT2.out i).trans HTG.out; have tf := blk_frozen HT2.out i)
      go_ret
      exact ⟨rfl, HB2.out⟩
   ·have hrow : rowB x = false := by simpa using hrow
    rw [hrow] at HKR
    have hgo := HGO.out
    rw [hrow, Bool.false_and] at hgo
    subst hgo
    clear hrow HGO
    go_wp2_with (go_at_call 97; refine (impl_RowOk.calls kr x.f0 x.f1 x.f2 false _ HKR.out (HG.out.below HB1.out)).mono ?_; rintro e W2 ⟨rfl, hb⟩; have HB2 := Aside0.mk (below_step HB1.out hb); have HT2 := Aside0.mk (blk_below HT1.out hb); have HX2 := Aside0.mk (blk_below (blk_new wr _) hb); clear hb; have d0 := (blk_cell HX2.out 0).trans rfl; have d1 := (blk_cell HX2.out 1).trans rfl)
    go_ret
    exact ⟨rfl, HB2.out⟩
  ·have hd1 : decide (j < (l0.length : Int)) = false := decide_eq_false hlt
   have hgo := HGO.out
   rw [List.drop_eq_nil_of_le (by omega)] at hgo
   unfold treeGo at hgo
   have HGO2 := Aside0.mk hgo
   clear hgo HGO hlt
   by_cases h3 : roots = 3
   ·subst h3
    go_wp2
    go_ret
    exact ⟨by rw [← HGO2.out]; rfl, HB.out⟩
   ·have hb3 : (roots == 3) = false := beq_eq_false_iff_ne.2 h3
    have HGO3 := Aside0.mk (decide_eq_false h3)
    clear h3
    go_wp2
    go_ret
    exact ⟨by rw [← HGO2.out, HGO3.out]; rfl, HB.out⟩
end Go.Proofs.YtdpklbomhdpimaaDoor.P
namespace Go.Proofs.YtdpklbomhdpimaaDoor.P
open Go.RowKit Go.Proofs.YtdpklbomhdpimaaDoorW.PrintWords Go.Proofs.YtdpklbomhdpimaaDoorW.PrintLast Go.Proofs.YtdpklbomhdpimaaDoorW.PrintMore Go.Proofs.YtdpklbomhdpimaaDoor.PL Go.Proofs.YtdpklbomhdpimaaDoor.FP
structure PlantOk (G : Fo) (A : Nat → Option Nat) (h : Nat → Nd) (la : Nat → Nat) (seen : List Int) (roots : Int) : Prop where
 rep : RepTop h G
 nd : G.ids.Nodup
 dom : ∀ x, A x ≠ none ↔ x ∈ G.ids
 seen : ∀ x : Int, x ∈ seen ↔ ∃ i ∈ G.ids, x = (i : Int)
 tops : ∃ n : Nat, roots = n ∧ G.tops = List.range' 1 n
 edge : ∀ d, d < dpth G → la d = sp d G
 stale : ∀ d, dpth G ≤ d → la d = 0 ∨ (la d ∈ G.ids ∧ (d = dpth G → (h (la d)).up ≠ sp (d - 1) G))
def upL (la : Nat → Nat) (e i : Nat) : Nat → Nat := fun d => if d = e then i else la d
theorem upN_out {h : Nat → Nd} {i j : Nat} {x : Nd} (e : j ≠ i) : upN h i x j = h j := if_neg e
theorem up_in {h : Nat → Nd} {G : Fo} (hr : RepTop h G) (hn : G.ids.Nodup) {x : Nat} (hx : x ∈ G.ids) : (h x).up = 0 ∨ (h x).up ∈ G.ids := by
 by_cases ht : x ∈ G.tops
 ·exact Or.inl (reptop_root hr ht)
 ·exact Or.inr (reptop_up hr hn hx ht).1
theorem plant_common {G : Fo} {A : Nat → Option Nat} {h h' : Nat → Nd} {la : Nat → Nat} {seen : List Int} {roots roots' : Int} (p : PlantOk G A h la seen roots) {i e b : Nat} {t : ByteArray} (hi0 : i ≠ 0) (hi : i ∉ G.ids) (he : e ≤ dpth G)
  (hrep : RepTop h' (snoc i t e G)) (hup : ∀ x ∈ G.ids, (h' x).up = (h x).up) (htops : ∃ n : Nat, roots' = n ∧ (snoc i t e G).tops = List.range' 1 n) :
  PlantOk (snoc i t e G) (upA A i b) h' (upL la e i) ((i : Int) :: seen) roots' where
 rep := hrep
 nd := by
  rw [snoc_ids]
  exact List.nodup_append.2 ⟨p.nd, by simp, fun x hx y hy e => by rw [List.mem_singleton.1 hy] at e; exact hi (e ▸ hx)⟩
 dom := fun x => by
  rw [snoc_ids]
  unfold upA
  by_cases hx : x = i
  ·simp [hx]
  ·simp only [if_neg hx, List.mem_append, List.mem_singleton, hx, or_false]
   exact p.dom x
 seen := fun x => by
  rw [snoc_ids]
  simp only [List.mem_cons, List.mem_append, List.not_mem_nil, or_false]
  constructor
  ·rintro (rfl | hx)
   ·exact ⟨i, Or.inr rfl, rfl⟩
   ·obtain ⟨j, hj, e⟩ := (p.seen x).1 hx
    exact ⟨j, Or.inl hj, e⟩
  ·rintro ⟨j, hj | rfl, e⟩
   ·exact Or.inr ((p.seen x).2 ⟨j, hj, e⟩)
   ·exact Or.inl e
 tops := htops
 edge := fun d hd => by
  rw [snoc_dpth i t G e he] at hd
  obtain ⟨h1, h2⟩ := snoc_sp i t G e he
  unfold upL
  by_cases hde : d = e
  ·rw [if_pos hde, hde, h1]
  ·rw [if_neg hde, h2 d (by omega)]
   exact p.edge d (by omega)
 stale := fun d hd => by
  rw [snoc_dpth i t G e he] at hd ⊢
  unfold upL
  rw [if_neg (by omega), snoc_ids]
  have key : la d ∈ G.ids → la d = 0 ∨ (la d ∈ G.ids ++ [i] ∧ (d = e + 1 → (h' (la d)).up ≠ sp (d - 1) (snoc i t e G))) := fun hm => by
   refine Or.inr ⟨List.mem_append_left _ hm, fun hde => ?_⟩
   subst hde
   rw [Nat.add_sub_cancel, (snoc_sp i t G e he).1, hup _ hm]
   rcases up_in p.rep p.nd hm with e1 | e1
   ·rw [e1]; exact fun e2 => hi0 e2.symm
   ·intro e2; exact hi (e2 ▸ e1)
  rcases Nat.lt_or_ge d (dpth G) with hdd | hdd
  ·exact key (by rw [p.edge d hdd]; exact sp_mem G d hdd)
  ·rcases p.stale d hdd with h1 | ⟨h1, _⟩
   ·exact Or.inl h1
   ·exact key h1
theorem plant_root {G : Fo} {A : Nat → Option Nat} {h : Nat → Nd} {la : Nat → Nat} {seen : List Int} {roots : Int} (p : PlantOk G A h la seen roots) {i b : Nat} {t : ByteArray} (hi0 : i ≠ 0) (hi : i ∉ G.ids) (hr : (i : Int) = roots + 1) :
  PlantOk (snoc i t 0 G) (upA A i b) (upN h i ⟨t, 0, 0, 0⟩) (upL la 0 i) ((i : Int) :: seen) (roots + 1) := by
 refine plant_common p hi0 hi (Nat.zero_le _) (reptop_snoc0 hi0 (if_pos rfl) G (p.rep.ext fun x hx => upN_out (fun e => hi (e ▸ hx)))) (fun x hx => by rw [upN_out (show x ≠ i from fun e => hi (e ▸ hx))]) ?_
 obtain ⟨n, hn, ht⟩ := p.tops
 refine ⟨n + 1, by omega, ?_⟩
 rw [snoc_tops i t G 0 (Nat.zero_le _), if_pos rfl, ht, List.range'_concat]
 have : i = 1 + 1 * n := by omega
 rw [this]
theorem plant_made {G : Fo} {A : Nat → Option Nat} {h : Nat → Nd} {la : Nat → Nat} {seen : List Int} {roots : Int} (p : PlantOk G A h la seen roots) {i e b : Nat} {t : ByteArray} (hi0 : i ≠ 0) (hi : i ∉ G.ids) (he : e + 1 ≤ dpth G) :
  PlantOk (snoc i t (e + 1) G) (upA A i b) (attachH (upN h i ⟨t, 0, 0, 0⟩) i (sp e G) (if e + 1 < dpth G then sp (e + 1) G else 0)) (upL la (e + 1) i) ((i : Int) :: seen) roots := by
 have hext : RepTop (upN h i ⟨t, 0, 0, 0⟩) G := p.rep.ext fun x hx => upN_out (fun e => hi (e ▸ hx))
 have hfree : Free (upN h i ⟨t, 0, 0, 0⟩) i t .nil := ⟨hi0, by rw [show upN h i ⟨t, 0, 0, 0⟩ i = ⟨t, 0, 0, 0⟩ from if_pos rfl], by rw [show upN h i ⟨t, 0, 0, 0⟩ i = ⟨t, 0, 0, 0⟩ from if_pos rfl]; rfl, trivial, by simp [Fo.ids]⟩
 have hup := sp_mem G e (by omega)
 have hupi : sp e G ≠ i := fun e2 => hi (e2 ▸ hup)
 have htops : ∃ n : Nat, roots = n ∧ (snoc i t (e + 1) G).tops = List.range' 1 n := by
  obtain ⟨n, hn, ht⟩ := p.tops
  exact ⟨n, hn, by rw [snoc_tops i t G (e + 1) he, if_neg (by omega), ht]⟩
 by_cases hlt : e + 1 < dpth G
 ·rw [if_pos hlt]
  have hm := sp_mem G (e + 1) hlt
  have hmi : sp (e + 1) G ≠ i := fun e2 => hi (e2 ▸ hm)
  have hm0 : sp (e + 1) G ≠ 0 := p.rep.ne0 _ hm
  have hat := attachH_pos (upN h i ⟨t, 0, 0, 0⟩) i (sp e G) (sp (e + 1) G) hm0
  refine plant_common p hi0 hi he ?_ (fun x hx => ?_) htops
  ·rw [snoc_after i t G (e + 1) p.nd hlt]
   exact reptop_insAfter hfree hm0 (by rw [upN_out hmi]; exact reptop_sp G e p.rep hlt) hext p.nd hi (sp_not_top G e p.nd hlt) (by simp [Fo.ids]) hmi (fun j hj => by simp [Fo.ids] at hj)
  ·have hxi : x ≠ i := fun e2 => hi (e2 ▸ hx)
   rw [hat x]
   by_cases hxa : x = sp (e + 1) G
   ·subst hxa; rw [if_pos rfl, upN_out hmi]
   ·rw [if_neg hxa, if_neg hxi, upN_out hxi]
 ·rw [if_neg hlt]
  have hat := attachH_zero (upN h i ⟨t, 0, 0, 0⟩) i (sp e G)
  refine plant_common p hi0 hi he ?_ (fun x hx => ?_) htops
  ·rw [snoc_first i t G e p.nd (by omega)]
   exact reptop_insFirst hfree hext p.nd hi (by simp [Fo.ids]) hupi (fun j hj => by simp [Fo.ids] at hj)
  ·have hxi : x ≠ i := fun e2 => hi (e2 ▸ hx)
   rw [hat x]
   by_cases hxa : x = sp e G
   ·subst hxa; rw [if_pos rfl, upN_out hupi]
   ·rw [if_neg hxa, if_neg hxi, upN_out hxi]
def lastC (A : Nat → Option Nat) (la : Nat → Nat) : Array Value := ((List.range 19).map fun d : Nat => Value.pointer (pa (A (la d)))).toArray
theorem lastC_get (A : Nat → Option Nat) (la : Nat → Nat) (d : Nat) (hd : d < 19) : (lastC A la)[d]? = some (.pointer (pa (A (la d)))) := by simp [lastC, hd]
theorem lastC_set (A : Nat → Option Nat) (la : Nat → Nat) (e i b : Nat) (he : e < 19) (hla : ∀ d, la d ≠ i) : (lastC A la).setIfInBounds e (.pointer (some ⟨b, 0, none⟩)) = lastC (upA A i b) (upL la e i) := by
 unfold lastC
 rw [List.setIfInBounds_toArray]
 congr 1
 apply List.ext_getElem (by simp)
 intro k h1 h2
 simp only [List.getElem_set, List.getElem_map, List.getElem_range, upA, upL]
 by_cases hk : e = k
 ·subst hk; simp; rfl
 ·have : ¬ (k = e) := fun e2 => hk e2.symm
  simp [hk, this, hla k]
def PlantRel (l0 : List S69) (w : World) (Fb Lb : Nat) (i : Value) (wr : World) : Prop :=
 ∃ (j : Nat) (G : Fo) (A : Nat → Option Nat) (h : Nat → Nd) (la : Nat → Nat) (seen : List Int) (roots : Int), j ≤ l0.length ∧ i = .int .i64 (j : Int) ∧ Aside0 (Mem wr w.heap.size Fb A h) ∧ Aside0 (wr.heap[Lb]? = some (.cells (lastC A la) 166 (0, 0))) ∧
  Aside0 (PlantOk G A h la seen roots) ∧ Aside0 (G.fl 0 = l0.take j) ∧ Aside0 (treeGo seen roots ((dpth G : Int) - 1) (l0.drop j) = true) ∧ Aside0 (Below w.heap.size w wr)
def Planted (l0 : List S69) (w : World) (e : Ending) (w' : World) : Prop :=
 ∃ (Fb : Nat) (G : Fo) (A : Nat → Option Nat) (h : Nat → Nd), e = .returned (.tuple #[.pointer (some ⟨Fb, 0, none⟩), .bool true]) ∧ Mem w' w.heap.size Fb A h ∧ RepTop h G ∧ G.ids.Nodup ∧ (∀ x, A x ≠ none ↔ x ∈ G.ids) ∧ G.tops = [1, 2, 3] ∧ G.fl 0 = l0 ∧ Below w.heap.size w w'
theorem neZ (b : Addr) (w : World) : (binOp .neq 162 (.pointer none) (.pointer (some b))).run Tryd.prog w = .ok (.bool true) w := by
 have h : ∀ d : Nat, (Op.equalIn (d + 1) 162 (.pointer none) (.pointer (some b))).run Tryd.prog w = .ok false w := fun d => by
  simp [Op.equalIn, run_underlying Tryd.underlying162]
 have h2 : (Op.equal 162 (.pointer none) (.pointer (some b))).run Tryd.prog w = .ok false w := by simp [Op.equal, Op.maxDepth, h 9999]
 simp only [binOp]; simp [h2]
theorem Mem.far {w : World} {n0 F : Nat} {A : Nat → Option Nat} {h : Nat → Nd} (m : Mem w n0 F A h) {p : Addr} (hF : F ≠ p.block) (hA : ∀ i, A i ≠ some p.block) (v : Value) : Mem (w.setCell p v) n0 F A h :=
 { m with tab := blk_far m.tab hF v, nod := fun i b e => blk_far (m.nod i b e) (fun e2 => hA i (e2 ▸ e)) v }
theorem Mem.no_last {w : World} {n0 F : Nat} {A : Nat → Option Nat} {h : Nat → Nd} (m : Mem w n0 F A h) {L : Nat} {cs : Array Value} (hL : w.heap[L]? = some (.cells cs 166 (0, 0))) (y : Nat) : A y ≠ some L := fun hy => by
 have h1 := m.nod y L hy
 rw [hL] at h1
 injection h1 with h1
 injection h1 with _ h2
 exact absurd h2 (by decide)
theorem plant_next {l0 : List S69} {w wr : World} {F L g i e j : Nat} {x : S69} {G : Fo} {A : Nat → Option Nat} {h' : Nat → Nd} {la : Nat → Nat} {seen : List Int} {roots' : Int}
  (hx : x.f0 = (i : Int) ∧ x.f1 = (e : Int)) (he : e ≤ dpth G) (he18 : e < 19) (hlt : j < l0.length) (hla : ∀ d, la d ≠ i) (hLF : F ≠ L) (hwL : w.heap.size ≤ L)
  (m : Mem wr w.heap.size F (upA A i (g + 1)) h') (hL : wr.heap[L]? = some (.cells (lastC A la) 166 (0, 0)))
  (p : PlantOk (snoc i x.f2 e G) (upA A i (g + 1)) h' (upL la e i) ((i : Int) :: seen) roots')
  (hfl : G.fl 0 = l0.take j) (htk : l0.take (j + 1) = l0.take j ++ [x])
  (hgo : treeGo ((i : Int) :: seen) roots' (e : Int) (l0.drop (j + 1)) = true) (hb : Below w.heap.size w wr) :
  PlantRel l0 w F L (.int .i64 ((j + 1 : Nat) : Int)) (wr.setCell ⟨L, e, none⟩ (.pointer (some ⟨g + 1, 0, none⟩))) := by
 refine ⟨j + 1, snoc i x.f2 e G, upA A i (g + 1), h', upL la e i, (i : Int) :: seen, roots', hlt, rfl, ⟨m.far hLF (fun y => m.no_last hL y) _⟩, ⟨?_⟩, ⟨p⟩, ⟨?_⟩, ⟨?_⟩, ⟨hb.setCell hwL _⟩⟩
 ·have := blk_set hL e (.pointer (some ⟨g + 1, 0, none⟩))
  rw [lastC_set A la e i (g + 1) he18 hla] at this
  exact this
 ·rw [snoc_fl i x.f2 G e 0 he, hfl, htk]
  obtain ⟨x0, x1, x2⟩ := x
  obtain ⟨e0, e1⟩ := hx
  simp only at e0 e1
  subst e0 e1
  simp
 ·rw [snoc_dpth i x.f2 G e he, show (((e + 1 : Nat) : Int) - 1) = (e : Int) by omega]
  exact hgo
set_option maxHeartbeats 4000000 in
set_option maxRecDepth 100000 in
theorem plant_no (A0 : Option Addr) (c0 : Nat) (l0 : List S69) (w : World) (hr0 : Kd.C k69 w A0 l0.length l0) (hc0 : l0.length ≤ c0) (h : treeB l0 = false) (hG : Glob w) :
  Calls Tryd.prog 93 #[.slice A0 l0.length c0] w fun e w' => e = .returned (.tuple #[.pointer none, .bool false]) ∧ Below w.heap.size w w' := by
 have HC := Aside0.mk (impl_TreeOk.calls 0 A0 c0 l0 false w hr0 hc0 (by unfold impl_TreeOk.f; rw [h]) hG)
 clear hr0 hG h
 go_enter Tryd.func93, Tryd.ntmps93
 go_wp2_with (go_at_call 45; refine (HC.out).mono ?_; clear HC; rintro e w1 ⟨rfl, hb⟩; have HB := Aside0.mk hb; clear hb)
 go_ret2
 exact ⟨rfl, HB.out⟩
theorem mem_none {w : World} {n0 F : Nat} (h : n0 ≤ F) (ht : w.heap[F]? = some (.cells (tabC fun _ => none) 165 (0, 0))) (hh : Nat → Nd) : Mem w n0 F (fun _ => none) hh where
 z := rfl
 rng := fun _ _ e => by cases e
 inj := fun _ _ _ e => by cases e
 ne := fun _ _ e => by cases e
 lo := fun _ _ e => by cases e
 loF := h
 tab := ht
 nod := fun _ _ e => by cases e
 cu := fun _ e => absurd rfl e
 cf := fun _ e => absurd rfl e
 cn := fun _ e => absurd rfl e
theorem plant_none (hh : Nat → Nd) : PlantOk .nil (fun _ => none) hh (fun _ => 0) [] 0 where
 rep := trivial
 nd := List.nodup_nil
 dom := fun x => by simp [Fo.ids]
 seen := fun x => by simp [Fo.ids]
 tops := ⟨0, rfl, rfl⟩
 edge := fun d hd => by simp [dpth] at hd
 stale := fun d _ => Or.inl rfl
set_option maxHeartbeats 8000000 in
set_option maxRecDepth 100000 in
theorem plant_yes (A0 : Option Addr) (c0 : Nat) (l0 : List S69) (w : World) (hr0 : Kd.C k69 w A0 l0.length l0) (hc0 : l0.length ≤ c0) (h : treeB l0 = true) (hG : Glob w) :
  Calls Tryd.prog 93 #[.slice A0 l0.length c0] w (Planted l0 w) := by
 have hlen := hr0.2.1
 have HC := Aside0.mk (impl_TreeOk.calls 0 A0 c0 l0 true w hr0 hc0 (by unfold impl_TreeOk.f; rw [h]) hG)
 have HR0 := Aside0.mk hr0
 have HH := Aside0.mk h
 clear hr0 hG h
 go_enter Tryd.func93, Tryd.ntmps93
 go_wp2_with (go_at_call 45; refine (HC.out).mono ?_; clear HC; rintro e w1 ⟨rfl, hb⟩; have HB := Aside0.mk hb; clear hb)
 have hb1 := HB.out.size
 go_loopw [18] (fun i wr => PlantRel l0 w w1.heap.size (w1.heap.size + 1) i wr) (fun i _ => l0.length - (intOf i).toNat)
 case atStart =>
  refine ⟨0, .nil, fun _ => none, fun _ => ⟨ByteArray.empty, 0, 0, 0⟩, fun _ => 0, [], 0, Nat.zero_le _, rfl, ⟨?_⟩, ⟨?_⟩, ⟨?_⟩, ⟨rfl⟩, ⟨HH.out⟩, ⟨below_alloc (below_alloc HB.out _) _⟩⟩
  ·exact mem_none hb1 (blk_alloc (heap_alloc_new w1 (.cells (tabC fun _ => none) 165)) _) _
  ·have := heap_alloc_new (w1.alloc (.cells (tabC fun _ => none) 165)) (.cells (lastC (fun _ => none) (fun _ => 0)) 166)
   rw [World.size_alloc] at this
   exact this
  ·exact plant_none _
 case round =>
  obtain ⟨j, G, A, h, la, seen, roots, hj, rfl, HM, HL, HP, HF, HGO, HBr⟩ := hrel
  clear HH
  by_cases hlt : j < l0.length
  ·have hd1 : decide ((j : Int) < (l0.length : Int)) = true := decide_eq_true (by omega)
   have hd2 : decide (j < l0.length) = true := decide_eq_true hlt
   obtain ⟨ad, e0, hx0, hx1, hx2⟩ := at_T69 HR0.out (j : Int) (by omega) (by omega)
   cases e0
   replace hx0 := (HBr.out.cell (World.block_lt_of_cell? w _ hx0)).trans hx0
   replace hx1 := (HBr.out.cell (World.block_lt_of_cell? w _ hx1)).trans hx1
   replace hx2 := (HBr.out.cell (World.block_lt_of_cell? w _ hx2)).trans hx2
   simp only [Int.toNat_natCast] at hx0 hx1 hx2
   have hu := Tryd.underlying69
   have hxe : rd_T69 l0 (j : Int) = l0[j]'hlt := by
    unfold rd_T69
    rw [List.getD_eq_getElem?_getD, show ((j : Int)).toNat = j from rfl, List.getElem?_eq_getElem hlt]
    rfl
   have htd := List.drop_eq_getElem_cons (l := l0) (i := j) hlt
   have htk := List.take_succ_eq_append_getElem (l := l0) (i := j) hlt
   rw [← hxe] at htd htk
   have hgo := HGO.out
   rw [htd] at hgo
   clear HGO hxe
   generalize rd_T69 l0 (j : Int) = x at hx0 hx1 hx2 htd htk hgo
   unfold treeGo at hgo
   simp only [Bool.and_eq_true, decide_eq_true_eq] at hgo
   obtain ⟨hrow, hns, hdep, hrest⟩ := hgo
   obtain ⟨b0, b37, d0, d18⟩ := rowB_id hrow
   obtain ⟨i, hi⟩ := Int.eq_ofNat_of_zero_le b0
   obtain ⟨e, he⟩ := Int.eq_ofNat_of_zero_le d0
   have hiG : i ∉ G.ids := fun hc => hns ((HP.out.seen x.f0).2 ⟨i, hc, hi⟩)
   have heG : e ≤ dpth G := by omega
   have hi37 : i < 37 := by omega
   have hi0 : i ≠ 0 := by
    intro e0
    subst e0
    unfold rowB at hrow
    rw [hi] at hrow
    revert hrow
    have r0 : rootB (0 : Int) = false := by decide
    have m0 : madeB (0 : Int) = false := by decide
    simp [r0, m0]
   have hAi : A i = none := by
    rcases Option.eq_none_or_eq_some (A i) with h1 | ⟨c, h1⟩
    ·exact h1
    ·exact absurd ((HP.out.dom i).1 (by rw [h1]; simp)) hiG
   have hne3 : ∀ y, A y ≠ none → (h y).up ≠ i ∧ (h y).first ≠ i ∧ (h y).next ≠ i := fun y hy =>
    ⟨fun e2 => (HM.out.cu y hy).elim (fun e3 => hi0 (e2 ▸ e3)) (fun e3 => e3 (e2 ▸ hAi)), fun e2 => (HM.out.cf y hy).elim (fun e3 => hi0 (e2 ▸ e3)) (fun e3 => e3 (e2 ▸ hAi)), fun e2 => (HM.out.cn y hy).elim (fun e3 => hi0 (e2 ▸ e3)) (fun e3 => e3 (e2 ▸ hAi))⟩
   -- the memory behind the new node
   obtain ⟨g, hg⟩ : ∃ g, g = wr.heap.size := ⟨_, rfl⟩
   obtain ⟨W1, hW1⟩ : ∃ W1, W1 = (wr.alloc (.cells #[.int .i64 (i : Int), .int .i64 (e : Int), .string x.f2] 69)).alloc (.cells #[.int .i64 (i : Int), .string x.f2, .pointer none, .pointer none, .pointer none] 168) := ⟨_, rfl⟩
   have nG : W1.heap[g]? = some (.cells #[.int .i64 (i : Int), .int .i64 (e : Int), .string x.f2] 69 (0, 0)) := by rw [hW1, hg]; exact blk_alloc (blk_new wr _) _
   have nB : W1.heap[g + 1]? = some (.cells #[.int .i64 (i : Int), .string x.f2, .pointer none, .pointer none, .pointer none] 168 (0, 0)) := by
    have := blk_new (wr.alloc (.cells #[.int .i64 (i : Int), .int .i64 (e : Int), .string x.f2] 69)) (.cells #[.int .i64 (i : Int), .string x.f2, .pointer none, .pointer none, .pointer none] 168)
    rw [World.size_alloc] at this
    rw [hW1, hg]; exact this
   have mW1 : Mem W1 w.heap.size w1.heap.size A h := by rw [hW1]; exact (HM.out.alloc _).alloc _
   have lW1 : W1.heap[w1.heap.size + 1]? = some (.cells (lastC A la) 166 (0, 0)) := by rw [hW1]; exact blk_alloc (blk_alloc HL.out _) _
   have bW1 : Below w.heap.size w W1 := by rw [hW1]; exact below_alloc (below_alloc HBr.out _) _
   have hltF := HM.out.ltF
   have hltL := blk_lt HL.out
   have hbA : ∀ y, A y ≠ some (g + 1) := fun y hy => by have := HM.out.lt hy; omega
   have hgA : ∀ y, A y ≠ some g := fun y hy => by have := HM.out.lt hy; omega
   have mem2 := mW1.add hi0 hi37 hAi hne3 (b := g + 1) (t := x.f2) hbA (by omega) (by omega) nB
   have nG2 := blk_far (p := ⟨w1.heap.size, i, none⟩) nG (show g ≠ w1.heap.size by omega) (.pointer (some ⟨g + 1, 0, none⟩))
   have nB2 := blk_far (p := ⟨w1.heap.size, i, none⟩) nB (show g + 1 ≠ w1.heap.size by omega) (.pointer (some ⟨g + 1, 0, none⟩))
   have lW2 := blk_far (p := ⟨w1.heap.size, i, none⟩) lW1 (show w1.heap.size + 1 ≠ w1.heap.size by omega) (.pointer (some ⟨g + 1, 0, none⟩))
   have bW2 : Below w.heap.size w (W1.setCell ⟨w1.heap.size, i, none⟩ (.pointer (some ⟨g + 1, 0, none⟩))) := bW1.setCell (p := ⟨w1.heap.size, i, none⟩) hb1 _
   have cT := mW1.cF i hi37
   have fT := mW1.fzF i
   have HMEM := Aside0.mk mem2
   have HNG := Aside0.mk nG2
   have HNB := Aside0.mk nB2
   have HLW := Aside0.mk lW2
   have HBW := Aside0.mk bW2
   have HHB := Aside0.mk hbA
   have HGA := Aside0.mk hgA
   have q0 := (blk_cell nG 0).trans rfl
   have q1 := (blk_cell nG 1).trans rfl
   have q2 := (blk_cell nG 2).trans rfl
   have hla : ∀ d, la d ≠ i := fun d e2 => by
    rcases Nat.lt_or_ge d (dpth G) with hdd | hdd
    ·exact hiG (e2 ▸ (HP.out.edge d hdd ▸ sp_mem G d hdd))
    ·rcases HP.out.stale d hdd with h1 | ⟨h1, _⟩
     ·exact hi0 (e2 ▸ h1)
     ·exact hiG (e2 ▸ h1)
   obtain ⟨W2, hW2⟩ : ∃ W2, W2 = (W1.setCell ⟨w1.heap.size, i, none⟩ (.pointer (some ⟨g + 1, 0, none⟩))).drew := ⟨_, rfl⟩
   have mem3 : Mem W2 w.heap.size w1.heap.size (upA A i (g + 1)) (upN h i ⟨x.f2, 0, 0, 0⟩) := by rw [hW2]; exact mem2.drew
   have nG3 : W2.heap[g]? = some (.cells #[.int .i64 (i : Int), .int .i64 (e : Int), .string x.f2] 69 (0, 0)) := by rw [hW2]; exact nG2
   have lW3 : W2.heap[w1.heap.size + 1]? = some (.cells (lastC A la) 166 (0, 0)) := by rw [hW2]; exact lW2
   have bW3 : Below w.heap.size w W2 := by rw [hW2]; exact bW2.drew
   have HMEM := Aside0.mk mem3
   have HNG := Aside0.mk nG3
   have HLW := Aside0.mk lW3
   have HBW := Aside0.mk bW3
   have HLA := Aside0.mk hla
   have r1 := (blk_cell nG3 1).trans rfl
   have zL := blk_frozen lW3 e
   have HE := Aside0.mk (And.intro hi he)
   have HI := Aside0.mk (And.intro hi0 (And.intro hiG heG))
   have HW2 := Aside0.mk hW2
   have hx0' : x.f0 = (i : Int) := hi
   have hx1' : x.f1 = (e : Int) := he
   rw [hx0'] at hx0
   rw [hx1'] at hx1
   have ne1 : g ≠ w1.heap.size := by omega
   have ne2 : g ≠ w1.heap.size + 1 := by omega
   have ne3 : w1.heap.size ≠ g := fun e => ne1 e.symm
   have ne4 : w1.heap.size + 1 ≠ g := fun e => ne2 e.symm
   have i37 : (i : Int) < 37 := by omega
   have i0' : 0 ≤ (i : Int) := by omega
   have e0' : 0 ≤ (e : Int) := by omega
   have e18 : (e : Int) ≤ 18 := by omega
   have e19 : (e : Int) < 19 := by omega
   have HW1 := Aside0.mk hW1
   have HG := Aside0.mk hg
   rw [hx0', hx1'] at hrest
   have HREST := Aside0.mk hrest
   have HROW := Aside0.mk hrow
   have HTD := Aside0.mk (And.intro htd htk)
   have HJ := Aside0.mk (And.intro hlt hlen)
   have HGA := Aside0.mk hgA
   have ce := (blk_cell lW3 e).trans (lastC_get A la e (by omega))
   clear hrest hdep hns b0 b37 d0 d18 hi he hiG heG hi37 hi0 hAi hne3 hx0' hx1' nG nB mW1 lW1 bW1 hltF hltL hbA hgA mem2 nG2 nB2 lW2 bW2 htd htk HM HL HBr hW1 hg hj mem3 nG3 lW3 bW3 hla hW2
   have HROW := Aside0.mk hrow
   clear hrow
   go_wp2
   rw [← HG.out, ← HW1.out]
   go_region
   rw [← HW2.out]
   clear q0 q1 q2 cT fT hx0 hx1 hx2
   rcases Nat.eq_zero_or_pos e with e00 | epos
   ·
    have hd3 : decide ((0 : Int) < (e : Int)) = false := decide_eq_false (by omega)
    have hd4 : decide (0 < e) = false := decide_eq_false (by omega)
    have HR : Aside0 (rootB (i : Int) = true) := ⟨by
     by_cases hrt : rootB x.f0 = true
     ·rw [← HE.out.1]; exact hrt
     ·exfalso
      have hrow := HROW.out
      unfold rowB at hrow
      rw [if_neg hrt] at hrow
      simp only [Bool.and_eq_true, decide_eq_true_eq] at hrow
      have := HE.out.2
      omega⟩
    have HE0 := Aside0.mk e00
    clear e00
    go_wp2
    have hrest := HREST.out
    rw [if_pos HR.out, Bool.and_eq_true, decide_eq_true_eq] at hrest
    refine ⟨?_, ?_⟩
    ·have hp : PlantOk (snoc i x.f2 e G) (upA A i (g + 1)) (upN h i ⟨x.f2, 0, 0, 0⟩) (upL la e i) ((i : Int) :: seen) (roots + 1) := by
      rw [show e = 0 from HE0.out]
      exact plant_root (b := g + 1) (t := x.f2) HP.out HI.out.1 HI.out.2.1 hrest.1
     exact plant_next HE.out HI.out.2.2 (by omega) HJ.out.1 HLA.out (by omega) (by omega) HMEM.out HLW.out hp HF.out HTD.out.2 hrest.2 HBW.out
    ·show l0.length - (j + 1) < l0.length - j
     omega
   ·have hd3 : decide ((0 : Int) < (e : Int)) = true := decide_eq_true (by omega)
    have hd4 : decide (0 < e) = true := decide_eq_true (by omega)
    have hu1 : la (e - 1) = sp (e - 1) G := HP.out.edge (e - 1) (by have := HI.out.2.2; omega)
    have hum : sp (e - 1) G ∈ G.ids := sp_mem G (e - 1) (by have := HI.out.2.2; omega)
    obtain ⟨u, hue⟩ : ∃ u, u = sp (e - 1) G := ⟨_, rfl⟩
    rw [← hue] at hu1 hum
    obtain ⟨bu, hbu⟩ := Option.ne_none_iff_exists'.1 ((HP.out.dom u).2 hum)
    have hui : u ≠ i := fun e2 => HI.out.2.1 (e2 ▸ hum)
    have cu := (blk_cell HLW.out (e - 1)).trans (lastC_get A la (e - 1) (by omega))
    rw [hu1, hbu, pa_some] at cu
    have hA'u : upA A i (g + 1) u = some bu := by unfold upA; rw [if_neg hui, hbu]
    have hA'i : upA A i (g + 1) i = some (g + 1) := if_pos rfl
    have hnr : rootB (i : Int) = false := by
     by_cases hrt : rootB x.f0 = true
     ·exfalso
      have hrow := HROW.out
      unfold rowB at hrow
      rw [if_pos hrt] at hrow
      simp only [Bool.and_eq_true, decide_eq_true_eq] at hrow
      have := HE.out.2
      have := hrow.1
      omega
     ·rw [← HE.out.1]; simpa using hrt
    have hrest := HREST.out
    rw [if_neg (by rw [hnr]; decide)] at hrest
    have HREST2 := Aside0.mk hrest
    have hp := plant_made (b := g + 1) (t := x.f2) (e := e - 1) HP.out HI.out.1 HI.out.2.1 (by have := HI.out.2.2; omega)
    rw [show e - 1 + 1 = e by omega, ← hue] at hp
    have HPM := Aside0.mk hp
    have HAU := Aside0.mk hA'u
    have HAI := Aside0.mk hA'i
    have e191 : ((e - 1 : Nat) : Int) < 19 := by omega
    have HGB : Aside0 (∀ y, upA A i (g + 1) y ≠ some g) := ⟨fun y hy => by
     unfold upA at hy
     split at hy
     ·have := Option.some.inj hy; omega
     ·exact HGA.out y hy⟩
    clear hrest hp hbu hnr hA'u hA'i hum hu1
    by_cases hlt2 : e < dpth G
    ·
     have hm : sp e G ∈ G.ids := sp_mem G e hlt2
     obtain ⟨a, hae⟩ : ∃ a, a = sp e G := ⟨_, rfl⟩
     have hla1 : la e = a := (HP.out.edge e hlt2).trans hae.symm
     rw [← hae] at hm
     obtain ⟨ba, hba⟩ := Option.ne_none_iff_exists'.1 ((HP.out.dom a).2 hm)
     have hai : a ≠ i := fun e2 => HI.out.2.1 (e2 ▸ hm)
     have hA'a : upA A i (g + 1) a = some ba := by unfold upA; rw [if_neg hai, hba]
     have hau : (upN h i ⟨x.f2, 0, 0, 0⟩ a).up = u := by
      rw [upN_out hai, hae, hue]
      have := reptop_sp G (e - 1) HP.out.rep (by omega)
      rw [show e - 1 + 1 = e by omega] at this
      exact this
     rw [hla1, hba, pa_some] at ce
     have c2 := HMEM.out.c2 hA'a
     rw [hau, HAU.out, pa_some] at c2
     have hN := neS ⟨bu, 0, none⟩ W2
     have HPM2 := HPM.out
     rw [if_pos hlt2, ← hae] at HPM2
     have HPM3 := Aside0.mk HPM2
     have HAT := Aside0.mk (attach_behind HMEM.out HAI.out HAU.out hA'a hai)
     clear HPM2 hm hba hA'a hau hlt2 hla1
     go_wp2_with (go_at_call 130; refine (HAT.out).mono ?_; clear HAT; rintro en W3 ⟨⟨v, rfl⟩, hm3, hb3, hk3⟩; have hL3 := (hk3 (w1.heap.size + 1) (fun y => HMEM.out.no_last HLW.out y)).trans HLW.out; have hG3 := (hk3 g HGB.out).trans HNG.out; have hz3 := blk_frozen hL3 e; have ce3 := (blk_cell hL3 e).trans (lastC_get A la e (by omega)); have r3 := (blk_cell hG3 1).trans rfl; have HM3 := Aside0.mk hm3; have HB3 := Aside0.mk hb3; have HL3 := Aside0.mk hL3; clear hm3 hb3 hk3 hL3 hG3)
     refine ⟨plant_next HE.out HI.out.2.2 (by omega) HJ.out.1 HLA.out (by omega) (by omega) HM3.out HL3.out HPM3.out HF.out HTD.out.2 HREST2.out (HBW.out.trans HB3.out), ?_⟩
     show l0.length - (j + 1) < l0.length - j
     omega
    ·have HAT := Aside0.mk (attach_first HMEM.out HAI.out HAU.out hui)
     have HPM2 := HPM.out
     rw [if_neg hlt2] at HPM2
     have HPM3 := Aside0.mk HPM2
     have hst := HP.out.stale e (by omega)
     clear HPM2
     by_cases ha0 : la e = 0
     ·rw [ha0, show A 0 = none from Option.not_isSome_iff_eq_none.1 (fun hs => by
       obtain ⟨c, hc⟩ := Option.isSome_iff_exists.1 hs
       exact HP.out.rep.ne0 0 ((HP.out.dom 0).1 (by rw [hc]; simp)) rfl), pa_none] at ce
      clear hst hlt2 ha0
      go_wp2_with (go_at_call 130; refine (HAT.out).mono ?_; clear HAT; rintro en W3 ⟨⟨v, rfl⟩, hm3, hb3, hk3⟩; have hL3 := (hk3 (w1.heap.size + 1) (fun y => HMEM.out.no_last HLW.out y)).trans HLW.out; have hG3 := (hk3 g HGB.out).trans HNG.out; have hz3 := blk_frozen hL3 e; have ce3 := (blk_cell hL3 e).trans (lastC_get A la e (by omega)); have r3 := (blk_cell hG3 1).trans rfl; have HM3 := Aside0.mk hm3; have HB3 := Aside0.mk hb3; have HL3 := Aside0.mk hL3; clear hm3 hb3 hk3 hL3 hG3)
      refine ⟨plant_next HE.out HI.out.2.2 (by omega) HJ.out.1 HLA.out (by omega) (by omega) HM3.out HL3.out HPM3.out HF.out HTD.out.2 HREST2.out (HBW.out.trans HB3.out), ?_⟩
      show l0.length - (j + 1) < l0.length - j
      omega
     ·obtain ⟨hm, hne⟩ := hst.resolve_left ha0
      have hne := hne (by have := HI.out.2.2; omega)
      rw [← hue] at hne
      obtain ⟨a, hae⟩ : ∃ a, a = la e := ⟨_, rfl⟩
      rw [← hae] at hm hne ha0 ce
      obtain ⟨ba, hba⟩ := Option.ne_none_iff_exists'.1 ((HP.out.dom a).2 hm)
      have hai : a ≠ i := fun e2 => HI.out.2.1 (e2 ▸ hm)
      have hA'a : upA A i (g + 1) a = some ba := by unfold upA; rw [if_neg hai, hba]
      have hau : (upN h i ⟨x.f2, 0, 0, 0⟩ a).up = (h a).up := by rw [upN_out hai]
      rw [hba, pa_some] at ce
      have c2 := HMEM.out.c2 hA'a
      rw [hau] at c2
      have hcu := HMEM.out.cu a (by rw [hA'a]; simp)
      rw [hau] at hcu
      obtain ⟨q, hq⟩ : ∃ q, q = (h a).up := ⟨_, rfl⟩
      rw [← hq] at c2 hcu hne
      by_cases hq0 : q = 0
      ·rw [hq0, HMEM.out.z, pa_none] at c2
       have hN := neZ ⟨bu, 0, none⟩ W2
       clear hm hba hA'a hau hlt2 hst ha0 hae hcu hq hne hq0
       go_wp2_with (go_at_call 130; refine (HAT.out).mono ?_; clear HAT; rintro en W3 ⟨⟨v, rfl⟩, hm3, hb3, hk3⟩; have hL3 := (hk3 (w1.heap.size + 1) (fun y => HMEM.out.no_last HLW.out y)).trans HLW.out; have hG3 := (hk3 g HGB.out).trans HNG.out; have hz3 := blk_frozen hL3 e; have ce3 := (blk_cell hL3 e).trans (lastC_get A la e (by omega)); have r3 := (blk_cell hG3 1).trans rfl; have HM3 := Aside0.mk hm3; have HB3 := Aside0.mk hb3; have HL3 := Aside0.mk hL3; clear hm3 hb3 hk3 hL3 hG3)
       refine ⟨plant_next HE.out HI.out.2.2 (by omega) HJ.out.1 HLA.out (by omega) (by omega) HM3.out HL3.out HPM3.out HF.out HTD.out.2 HREST2.out (HBW.out.trans HB3.out), ?_⟩
       show l0.length - (j + 1) < l0.length - j
       omega
      ·obtain ⟨bq, hbq⟩ := Option.ne_none_iff_exists'.1 (hcu.resolve_left hq0)
       rw [hbq, pa_some] at c2
       have hN := HMEM.out.nen hbq HAU.out hne
       clear hm hba hA'a hau hlt2 hst ha0 hae hcu hq hne hq0 hbq
       go_wp2_with (go_at_call 130; refine (HAT.out).mono ?_; clear HAT; rintro en W3 ⟨⟨v, rfl⟩, hm3, hb3, hk3⟩; have hL3 := (hk3 (w1.heap.size + 1) (fun y => HMEM.out.no_last HLW.out y)).trans HLW.out; have hG3 := (hk3 g HGB.out).trans HNG.out; have hz3 := blk_frozen hL3 e; have ce3 := (blk_cell hL3 e).trans (lastC_get A la e (by omega)); have r3 := (blk_cell hG3 1).trans rfl; have HM3 := Aside0.mk hm3; have HB3 := Aside0.mk hb3; have HL3 := Aside0.mk hL3; clear hm3 hb3 hk3 hL3 hG3)
       refine ⟨plant_next HE.out HI.out.2.2 (by omega) HJ.out.1 HLA.out (by omega) (by omega) HM3.out HL3.out HPM3.out HF.out HTD.out.2 HREST2.out (HBW.out.trans HB3.out), ?_⟩
       show l0.length - (j + 1) < l0.length - j
       omega
  ·have hd1 : decide ((j : Int) < (l0.length : Int)) = false := decide_eq_false (by omega)
   have hd2 : decide (j < l0.length) = false := decide_eq_false hlt
   have hjl : j = l0.length := by omega
   have hgo := HGO.out
   rw [List.drop_eq_nil_of_le (by omega)] at hgo
   have h3 : roots = 3 := by simpa [treeGo] using hgo
   have HF2 := Aside0.mk (show G.fl 0 = l0 by rw [HF.out, hjl, List.take_length])
   have HT2 := Aside0.mk (show G.tops = [1, 2, 3] by
    obtain ⟨n, hn, ht⟩ := HP.out.tops
    rw [ht, show n = 3 by omega]; rfl)
   clear hgo h3 hjl HF HGO hlt
   go_wp2
   go_ret2
   exact ⟨_, G, A, h, rfl, HM.out, HP.out.rep, HP.out.nd, HP.out.dom, HT2.out, HF2.out, HBr.out⟩
def fnd (A : Nat → Option Nat) (x : Int) : Nat := if (findA A x).isSome then x.toNat else 0
theorem fnd_eq {w : World} {n0 F : Nat} {A : Nat → Option Nat} {h : Nat → Nd} (m : Mem w n0 F A h) (x : Int) : findA A x = A (fnd A x) := by
 unfold fnd
 cases hf : findA A x with
 | none => simp [m.z]
 | some b =>
  simp only [Option.isSome_some, if_true]
  unfold findA at hf
  split at hf
  ·exact hf.symm
  ·cases hf
theorem fnd_ok {w : World} {n0 F : Nat} {A : Nat → Option Nat} {h : Nat → Nd} (m : Mem w n0 F A h) (x : Int) : fnd A x = 0 ∨ A (fnd A x) ≠ none := by
 by_cases h0 : (findA A x).isSome
 ·exact Or.inr (by rw [← fnd_eq m x]; exact Option.isSome_iff_ne_none.1 h0)
 ·exact Or.inl (by unfold fnd; rw [if_neg h0])
theorem fnd_zero {w : World} {n0 F : Nat} {A : Nat → Option Nat} {h : Nat → Nd} (m : Mem w n0 F A h) (x : Int) (e : fnd A x = 0) : findA A x = none := by rw [fnd_eq m x, e, m.z]
theorem fnd_int {w : World} {n0 F : Nat} {A : Nat → Option Nat} {h : Nat → Nd} (m : Mem w n0 F A h) (x : Int) (e : fnd A x ≠ 0) : (fnd A x : Int) = x := by
 have h1 : (findA A x).isSome := by
  by_cases h0 : (findA A x).isSome
  ·exact h0
  ·exact absurd (by unfold fnd; rw [if_neg h0]) e
 have h2 : fnd A x = x.toNat := by unfold fnd; rw [if_pos h1]
 have h3 : 0 ≤ x := by
  unfold findA at h1
  split at h1
  ·omega
  ·cases h1
 rw [h2]; omega
def nearN (A : Nat → Option Nat) (h : Nat → Nd) (id up at_ : Int) : Nat × Nat :=
 if fnd A up = 0 then (fnd A 3, 0)
 else if fnd A at_ = 0 then (fnd A up, 0)
 else if (h (fnd A at_)).up ≠ fnd A up then (fnd A up, 0)
 else if at_ = id then (fnd A up, 0)
 else (fnd A up, fnd A at_)
set_option maxHeartbeats 2000000 in
set_option maxRecDepth 100000 in
theorem near_any {w : World} {n0 F : Nat} {A : Nat → Option Nat} {h : Nat → Nd} (m : Mem w n0 F A h) (id up at_ : Int) :
  Calls Tryd.prog 149 #[.pointer (some ⟨F, 0, none⟩), .int .i64 id, .int .i64 up, .int .i64 at_] w fun e w' => e = .returned (.tuple #[.pointer (pa (A (nearN A h id up at_).1)), .pointer (pa (A (nearN A h id up at_).2))]) ∧ w' = w := by
 have F1 := Aside0.mk (find_any m up)
 have F2 := Aside0.mk (find_any m at_)
 have F3 := Aside0.mk (find_any m 3)
 have z := m.z
 by_cases h1 : fnd A up = 0
 ·have hn : nearN A h id up at_ = (fnd A 3, 0) := by unfold nearN; rw [if_pos h1]
  rw [hn, z, ← fnd_eq m 3, pa_none]
  rw [fnd_zero m up h1, pa_none] at F1
  clear m h1 hn z
  go_enter Tryd.func149, Tryd.ntmps149
  go_wp2_with (go_at_call 131; first | (refine (F1.out).mono ?_; clear F1; rintro en w1 ⟨rfl, rfl⟩) | (refine (F3.out).mono ?_; clear F3; rintro en w1 ⟨rfl, rfl⟩))
  go_ret2
  exact ⟨rfl, rfl⟩
 ·obtain ⟨b1, hb1⟩ := Option.ne_none_iff_exists'.1 ((fnd_ok m up).resolve_left h1)
  rw [fnd_eq m up, hb1, pa_some] at F1
  by_cases h2 : fnd A at_ = 0
  ·have hn : nearN A h id up at_ = (fnd A up, 0) := by unfold nearN; rw [if_neg h1, if_pos h2]
   rw [hn, z, hb1, pa_none, pa_some]
   rw [fnd_zero m at_ h2, pa_none] at F2
   clear m h1 h2 hn z F3 hb1
   go_enter Tryd.func149, Tryd.ntmps149
   go_wp2_with (go_at_call 131; first | (refine (F1.out).mono ?_; clear F1; rintro en w1 ⟨rfl, rfl⟩) | (refine (F2.out).mono ?_; clear F2; rintro en w1 ⟨rfl, rfl⟩))
   go_ret2
   exact ⟨rfl, rfl⟩
  ·obtain ⟨b2, hb2⟩ := Option.ne_none_iff_exists'.1 ((fnd_ok m at_).resolve_left h2)
   rw [fnd_eq m at_, hb2, pa_some] at F2
   have c2 := m.c2 hb2
   have c0 := m.c0 hb2
   have hi2 := fnd_int m at_ h2
   rw [hi2] at c0
   by_cases h3 : (h (fnd A at_)).up ≠ fnd A up
   ·have hn : nearN A h id up at_ = (fnd A up, 0) := by unfold nearN; rw [if_neg h1, if_neg h2, if_pos h3]
    rw [hn, z, hb1, pa_none, pa_some]
    obtain ⟨q, hq⟩ : ∃ q, q = (h (fnd A at_)).up := ⟨_, rfl⟩
    have hcu := m.cu (fnd A at_) (by rw [hb2]; simp)
    rw [← hq] at c2 h3 hcu
    by_cases hq0 : q = 0
    ·rw [hq0, z, pa_none] at c2
     have hN := neZ ⟨b1, 0, none⟩ w
     clear m h1 h2 hn z F3 hb1 hb2 h3 hq hq0 hcu hi2
     go_enter Tryd.func149, Tryd.ntmps149
     go_wp2_with (go_at_call 131; first | (refine (F1.out).mono ?_; clear F1; rintro en w1 ⟨rfl, rfl⟩) | (refine (F2.out).mono ?_; clear F2; rintro en w1 ⟨rfl, rfl⟩))
     go_ret2
     exact ⟨rfl, rfl⟩
    ·obtain ⟨bq, hbq⟩ := Option.ne_none_iff_exists'.1 (hcu.resolve_left hq0)
     rw [hbq, pa_some] at c2
     have hN := m.nen hbq hb1 h3
     clear m h1 h2 hn z F3 hb1 hb2 h3 hq hq0 hcu hbq hi2
     go_enter Tryd.func149, Tryd.ntmps149
     go_wp2_with (go_at_call 131; first | (refine (F1.out).mono ?_; clear F1; rintro en w1 ⟨rfl, rfl⟩) | (refine (F2.out).mono ?_; clear F2; rintro en w1 ⟨rfl, rfl⟩))
     go_ret2
     exact ⟨rfl, rfl⟩
   ·have h3' : (h (fnd A at_)).up = fnd A up := Decidable.of_not_not h3
    rw [h3', hb1, pa_some] at c2
    have hN := neS ⟨b1, 0, none⟩ w
    by_cases h4 : at_ = id
    ·have hn : nearN A h id up at_ = (fnd A up, 0) := by unfold nearN; rw [if_neg h1, if_neg h2, if_neg h3, if_pos h4]
     rw [hn, z, hb1, pa_none, pa_some]
     subst h4
     have hd : (at_ == at_) = true := beq_self_eq_true at_
     clear m h1 h2 hn z F3 hb1 hb2 h3 h3' hi2
     go_enter Tryd.func149, Tryd.ntmps149
     go_wp2_with (go_at_call 131; first | (refine (F1.out).mono ?_; clear F1; rintro en w1 ⟨rfl, rfl⟩) | (refine (F2.out).mono ?_; clear F2; rintro en w1 ⟨rfl, rfl⟩))
     go_ret2
     exact ⟨rfl, rfl⟩
    ·have hn : nearN A h id up at_ = (fnd A up, fnd A at_) := by unfold nearN; rw [if_neg h1, if_neg h2, if_neg h3, if_neg h4]
     rw [hn, hb1, hb2, pa_some, pa_some]
     have hd : (at_ == id) = false := beq_eq_false_iff_ne.2 h4
     clear m h1 h2 hn z F3 hb1 hb2 h3 h3' h4 hi2
     go_enter Tryd.func149, Tryd.ntmps149
     go_wp2_with (go_at_call 131; first | (refine (F1.out).mono ?_; clear F1; rintro en w1 ⟨rfl, rfl⟩) | (refine (F2.out).mono ?_; clear F2; rintro en w1 ⟨rfl, rfl⟩))
     go_ret2
     exact ⟨rfl, rfl⟩
theorem as_hit {P : Program} {t xT : TypeId} {fs : Array Field} (hu : P.underlying t = some (.struct fs)) (v : Value) (w : World) : (Instr.typeAssert (.iface t v) xT t true).run P w = .ok (.tuple #[v, .bool true]) w := by
 simp [Instr.typeAssert, run_underlying hu]
theorem as_miss {P : Program} {t t' xT : TypeId} {fs : Array Field} {z : Value} (hu : P.underlying t' = some (.struct fs)) (hz : (P.info? t').map (·.zero) = some (some z)) (hne : t ≠ t') (v : Value) (w : World) : (Instr.typeAssert (.iface t v) xT t' true).run P w = .ok (.tuple #[z, .bool false]) w := by
 obtain ⟨j, hj, hz'⟩ := Option.map_eq_some_iff.1 hz
 simp [Instr.typeAssert, run_underlying hu, typeInfo, zeroValue, hj, hz', hne]
@[go_sem]
theorem as_mm (v : Value) (w : World) : (Instr.typeAssert (.iface 156 v) 118 156 true).run Tryd.prog w = .ok (.tuple #[v, .bool true]) w := as_hit Tryd.underlying156 v w
@[go_sem]
theorem as_tt (v : Value) (w : World) : (Instr.typeAssert (.iface 159 v) 118 159 true).run Tryd.prog w = .ok (.tuple #[v, .bool true]) w := as_hit Tryd.underlying159 v w
@[go_sem]
theorem as_vv (v : Value) (w : World) : (Instr.typeAssert (.iface 161 v) 118 161 true).run Tryd.prog w = .ok (.tuple #[v, .bool true]) w := as_hit Tryd.underlying161 v w
def zM : Value := .agg #[.int .i64 0, .int .i64 0, .int .i64 0, .string ByteArray.empty]
def zT : Value := .agg #[.int .i64 0, .string ByteArray.empty]
def zV : Value := .agg #[.int .i64 0, .int .i64 0, .int .i64 0]
@[go_sem]
theorem as_tm (v : Value) (w : World) : (Instr.typeAssert (.iface 159 v) 118 156 true).run Tryd.prog w = .ok (.tuple #[zM, .bool false]) w := as_miss Tryd.underlying156 (by kernel_rfl) (by decide) v w
@[go_sem]
theorem as_vm (v : Value) (w : World) : (Instr.typeAssert (.iface 161 v) 118 156 true).run Tryd.prog w = .ok (.tuple #[zM, .bool false]) w := as_miss Tryd.underlying156 (by kernel_rfl) (by decide) v w
@[go_sem]
theorem as_mt (v : Value) (w : World) : (Instr.typeAssert (.iface 156 v) 118 159 true).run Tryd.prog w = .ok (.tuple #[zT, .bool false]) w := as_miss Tryd.underlying159 (by kernel_rfl) (by decide) v w
@[go_sem]
theorem as_vt (v : Value) (w : World) : (Instr.typeAssert (.iface 161 v) 118 159 true).run Tryd.prog w = .ok (.tuple #[zT, .bool false]) w := as_miss Tryd.underlying159 (by kernel_rfl) (by decide) v w
@[go_sem]
theorem as_mv (v : Value) (w : World) : (Instr.typeAssert (.iface 156 v) 118 161 true).run Tryd.prog w = .ok (.tuple #[zV, .bool false]) w := as_miss Tryd.underlying161 (by kernel_rfl) (by decide) v w
@[go_sem]
theorem as_tv (v : Value) (w : World) : (Instr.typeAssert (.iface 159 v) 118 161 true).run Tryd.prog w = .ok (.tuple #[zV, .bool false]) w := as_miss Tryd.underlying161 (by kernel_rfl) (by decide) v w
def whereR (A : Nat → Option Nat) (p : Nat × Nat) (ok : Bool) : Ending := .returned (.tuple #[.pointer (pa (A p.1)), .pointer (pa (A p.2)), .bool ok])
def WherePost (w : World) (A : Nat → Option Nat) (p : Nat × Nat) (ok : Bool) (e : Ending) (w' : World) : Prop := e = whereR A p ok ∧ Below w.heap.size w w'
set_option maxHeartbeats 1000000 in
set_option maxRecDepth 100000 in
theorem where_make {w : World} {n0 F : Nat} {A : Nat → Option Nat} {h : Nat → Nd} (m : Mem w n0 F A h) (id up at_ : Int) (s : ByteArray) :
  Calls Tryd.prog 132 #[.pointer (some ⟨F, 0, none⟩), .iface 156 (.agg #[.int .i64 id, .int .i64 up, .int .i64 at_, .string s])] w (WherePost w A (if fnd A id = 0 then nearN A h id up at_ else (0, 0)) (decide (fnd A id = 0))) := by
 have z := m.z
 have HM := Aside0.mk m
 by_cases h1 : fnd A id = 0
 ·have F1 := Aside0.mk (fnd_zero m id h1)
  rw [if_pos h1, decide_eq_true h1]
  obtain ⟨p, hp⟩ : ∃ p, p = nearN A h id up at_ := ⟨_, rfl⟩
  rw [← hp]
  have HP := Aside0.mk hp
  clear m h1 z hp
  go_enter Tryd.func132, Tryd.ntmps132
  go_wp2_with (first | (go_at_call 131; with_reducible refine (find_any (HM.out.alloc _) id).mono ?_; rw [F1.out, pa_none]; rintro en w1 ⟨rfl, rfl⟩) | (go_at_call 149; with_reducible refine (near_any (HM.out.alloc _) id up at_).mono ?_; rw [← HP.out]; rintro en w1 ⟨rfl, rfl⟩))
  go_ret3
  exact ⟨rfl, below_box0 w _⟩
 ·obtain ⟨b1, hb1⟩ := Option.ne_none_iff_exists'.1 ((fnd_ok m id).resolve_left h1)
  have F1 := Aside0.mk ((fnd_eq m id).trans hb1)
  rw [if_neg h1, decide_eq_false h1]
  have HZ := Aside0.mk z
  clear m h1 z hb1
  go_enter Tryd.func132, Tryd.ntmps132
  go_wp2_with (first | (go_at_call 131; with_reducible refine (find_any (HM.out.alloc _) id).mono ?_; rw [F1.out, pa_some]; rintro en w1 ⟨rfl, rfl⟩))
  go_ret3
  exact ⟨by unfold whereR; rw [HZ.out, pa_none]; rfl, below_box0 w _⟩
set_option maxHeartbeats 1000000 in
set_option maxRecDepth 100000 in
theorem where_move {w : World} {n0 F : Nat} {A : Nat → Option Nat} {h : Nat → Nd} (m : Mem w n0 F A h) (id up at_ : Int) (k : Nat) (r : Bool) (hr : fnd A id ≠ 0 → withinF h (fnd A id) k (fnd A up) = some r) :
  Calls Tryd.prog 132 #[.pointer (some ⟨F, 0, none⟩), .iface 161 (.agg #[.int .i64 id, .int .i64 up, .int .i64 at_])] w (WherePost w A (if fnd A id = 0 then (0, 0) else if r = true then (0, 0) else nearN A h id up at_) (decide (fnd A id ≠ 0) && !r)) := by
 have z := m.z
 have HM := Aside0.mk m
 by_cases h1 : fnd A id = 0
 ·have F1 := Aside0.mk (fnd_zero m id h1)
  rw [if_pos h1, decide_eq_false (fun e => e h1), Bool.false_and]
  have HZ := Aside0.mk z
  clear m h1 z hr
  go_enter Tryd.func132, Tryd.ntmps132
  go_wp2_with (first | (go_at_call 131; with_reducible refine (find_any (HM.out.alloc _) id).mono ?_; rw [F1.out, pa_none]; rintro en w1 ⟨rfl, rfl⟩))
  go_ret3
  exact ⟨by unfold whereR; rw [HZ.out, pa_none]; rfl, below_box0 w _⟩
 ·obtain ⟨b1, hb1⟩ := Option.ne_none_iff_exists'.1 ((fnd_ok m id).resolve_left h1)
  have F1 := Aside0.mk ((fnd_eq m id).trans hb1)
  have F2 := Aside0.mk (fnd_eq m up)
  have HR := Aside0.mk (hr h1)
  have HK := Aside0.mk (fnd_ok m up)
  have HB1 := Aside0.mk hb1
  rw [if_neg h1, decide_eq_true h1, Bool.true_and]
  have HZ := Aside0.mk z
  obtain ⟨c, hc⟩ : ∃ c, c = pa (findA A id) := ⟨_, rfl⟩
  obtain ⟨u, hu⟩ : ∃ u, u = fnd A id := ⟨_, rfl⟩
  obtain ⟨x, hx⟩ : ∃ x, x = fnd A up := ⟨_, rfl⟩
  rw [← hu] at HR HB1
  rw [← hx] at HR HK F2
  clear m h1 z hb1 hr hc hu hx
  cases r with
  | true =>
   rw [if_pos rfl]
   go_enter Tryd.func132, Tryd.ntmps132
   go_wp2_with (first | (go_at_call 131; with_reducible refine (find_any (HM.out.alloc _) id).mono ?_; rw [F1.out, pa_some]; rintro en w1 ⟨rfl, rfl⟩) | (go_at_call 131; with_reducible refine (find_any (HM.out.alloc _) up).mono ?_; rw [F2.out]; rintro en w1 ⟨rfl, rfl⟩) | (go_at_call 150; with_reducible refine (within_any (HM.out.alloc _) x u HK.out HB1.out k true HR.out).mono ?_; rintro en w1 ⟨rfl, rfl⟩))
   go_ret3
   exact ⟨by unfold whereR; rw [HZ.out, pa_none]; rfl, below_box0 w _⟩
  | false =>
   rw [if_neg (by decide)]
   obtain ⟨p, hp⟩ : ∃ p, p = nearN A h id up at_ := ⟨_, rfl⟩
   rw [← hp]
   have HP := Aside0.mk hp
   clear hp
   go_enter Tryd.func132, Tryd.ntmps132
   go_wp2_with (first | (go_at_call 131; with_reducible refine (find_any (HM.out.alloc _) id).mono ?_; rw [F1.out, pa_some]; rintro en w1 ⟨rfl, rfl⟩) | (go_at_call 131; with_reducible refine (find_any (HM.out.alloc _) up).mono ?_; rw [F2.out]; rintro en w1 ⟨rfl, rfl⟩) | (go_at_call 150; with_reducible refine (within_any (HM.out.alloc _) x u HK.out HB1.out k false HR.out).mono ?_; rintro en w1 ⟨rfl, rfl⟩) | (go_at_call 149; with_reducible refine (near_any (HM.out.alloc _) id up at_).mono ?_; rw [← HP.out]; rintro en w1 ⟨rfl, rfl⟩))
   go_ret3
   exact ⟨rfl, below_box0 w _⟩
structure At (w : World) (n0 F : Nat) (A : Nat → Option Nat) (h : Nat → Nd) (G : Fo) : Prop where
 m : Mem w n0 F A h
 rep : RepTop h G
 nd : G.ids.Nodup
 dom : ∀ x, A x ≠ none ↔ x ∈ G.ids
 tops : G.tops = [1, 2, 3]
theorem At.kept {w w' : World} {n0 F : Nat} {A : Nat → Option Nat} {h : Nat → Nd} {G : Fo} (t : At w n0 F A h G) (m : Mem w' n0 F A h) : At w' n0 F A h G := ⟨m, t.rep, t.nd, t.dom, t.tops⟩
theorem At.fnd {w : World} {n0 F : Nat} {A : Nat → Option Nat} {h : Nat → Nd} {G : Fo} (t : At w n0 F A h G) (x : Int) : fnd A x = fndF G x := by
 unfold P.fnd fndF findA
 by_cases hx : 0 ≤ x ∧ x.toNat ∈ G.ids
 ·obtain ⟨b, hb⟩ := Option.ne_none_iff_exists'.1 ((t.dom x.toNat).2 hx.2)
  have := t.m.rng _ b hb
  rw [if_pos hx, if_pos (show 0 ≤ x ∧ x < 37 by omega), hb]
  rfl
 ·rw [if_neg hx]
  by_cases h1 : 0 ≤ x ∧ x < 37
  ·rw [if_pos h1]
   have : A x.toNat = none := Decidable.byContradiction fun g => hx ⟨h1.1, (t.dom _).1 g⟩
   rw [this]; rfl
  ·rw [if_neg h1]; rfl
theorem At.ok {w : World} {n0 F : Nat} {A : Nat → Option Nat} {h : Nat → Nd} {G : Fo} (t : At w n0 F A h G) {x : Nat} (hx : x ∈ G.ids) : ∃ b, A x = some b := Option.ne_none_iff_exists'.1 ((t.dom x).2 hx)
theorem At.three {w : World} {n0 F : Nat} {A : Nat → Option Nat} {h : Nat → Nd} {G : Fo} (t : At w n0 F A h G) : 3 ∈ G.tops := by rw [t.tops]; simp
theorem At.near {w : World} {n0 F : Nat} {A : Nat → Option Nat} {h : Nat → Nd} {G : Fo} (t : At w n0 F A h G) (id up at_ : Int) : nearN A h id up at_ = nearF G id up at_ := by
 unfold nearN nearF
 rw [t.fnd up, t.fnd at_, t.fnd 3]
 by_cases h1 : fndF G up = 0
 ·rw [if_pos h1, if_pos h1]
  have h3 : fndF G 3 = 3 := by
   unfold fndF
   rw [if_pos ⟨by omega, show (3 : Int).toNat ∈ G.ids from tops_ids t.three⟩]; rfl
  rw [h3]
 ·rw [if_neg h1, if_neg h1]
  by_cases h2 : fndF G at_ = 0
  ·rw [if_pos h2, if_pos h2]
  ·rw [if_neg h2, if_neg h2, reptop_par t.rep t.nd (fndF_mem h2).1]
theorem attach_any {w : World} {n0 F : Nat} {A : Nat → Option Nat} {h : Nat → Nd} (m : Mem w n0 F A h) {i u a bi bu : Nat} (hi : A i = some bi) (hu : A u = some bu) (hui : u ≠ i) (ha : a = 0 ∨ A a ≠ none) (hai : a ≠ i) :
  Calls Tryd.prog 130 #[.pointer (some ⟨bi, 0, none⟩), .pointer (some ⟨bu, 0, none⟩), .pointer (pa (A a))] w fun e w' => (∃ v, e = .returned v) ∧ Mem w' n0 F A (attachH h i u a) ∧ Below n0 w w' := by
 by_cases h0 : a = 0
 ·rw [h0, m.z, pa_none]
  exact (attach_first m hi hu hui).mono fun e w' ⟨a1, a2, a3, _⟩ => ⟨a1, a2, a3⟩
 ·obtain ⟨ba, hba⟩ := Option.ne_none_iff_exists'.1 (ha.resolve_left h0)
  rw [hba, pa_some]
  exact (attach_behind m hi hu hba hai).mono fun e w' ⟨a1, a2, a3, _⟩ => ⟨a1, a2, a3⟩
def ApplyPost (w : World) (n0 F : Nat) (G : Fo) (e : Ending) (w' : World) : Prop := (∃ v, e = .returned v) ∧ (∃ A h, At w' n0 F A h G) ∧ Below n0 w w'
set_option maxHeartbeats 1000000 in
set_option maxRecDepth 100000 in
theorem apply_text_no {w : World} {n0 F : Nat} {A : Nat → Option Nat} {h : Nat → Nd} {G : Fo} (t : At w n0 F A h G) (hn0 : n0 ≤ w.heap.size) (id : Int) (s : ByteArray) (h1 : fndF G id = 0) :
  Calls Tryd.prog 94 #[.pointer (some ⟨F, 0, none⟩), .iface 159 (.agg #[.int .i64 id, .string s])] w (ApplyPost w n0 F G) := by
 have F1 := Aside0.mk (fnd_zero t.m id ((t.fnd id).trans h1))
 have HT := Aside0.mk t
 have HN := Aside0.mk hn0
 clear t h1 hn0
 go_enter Tryd.func94, Tryd.ntmps94
 go_wp2_with (go_at_call 131; (with_reducible refine (find_any (HT.out.m.alloc _) id).mono ?_); rw [F1.out, pa_none]; rintro en w1 ⟨rfl, rfl⟩)
 go_end0
 exact ⟨⟨_, rfl⟩, ⟨A, h, HT.out.kept (HT.out.m.alloc _)⟩, (below_box0 w _).mono HN.out⟩
set_option maxHeartbeats 1000000 in
set_option maxRecDepth 100000 in
theorem apply_text_yes {w : World} {n0 F : Nat} {A : Nat → Option Nat} {h : Nat → Nd} {G : Fo} (t : At w n0 F A h G) (hn0 : n0 ≤ w.heap.size) (id : Int) (s : ByteArray) (i : Nat) (hi : fndF G id = i) (h1 : i ≠ 0) :
  Calls Tryd.prog 94 #[.pointer (some ⟨F, 0, none⟩), .iface 159 (.agg #[.int .i64 id, .string s])] w (ApplyPost w n0 F (setF i s G)) := by
 obtain ⟨b, hb⟩ := t.ok (hi ▸ (fndF_mem (hi ▸ h1)).1)
 have F1 : Aside0 (findA A id = some b) := ⟨(fnd_eq t.m id).trans (by rw [t.fnd id, hi]; exact hb)⟩
 have m1 := t.m.alloc (.cells #[.int .i64 id, .string s] 159)
 have c1 := m1.c1 hb
 have z1 := m1.fz hb 1
 have HB := Aside0.mk hb
 have HT := Aside0.mk t
 have HN := Aside0.mk hn0
 have HM := Aside0.mk m1
 clear t h1 hn0 hb hi m1
 go_enter Tryd.func94, Tryd.ntmps94
 go_wp2_with (go_at_call 131; (with_reducible refine (find_any (HT.out.m.alloc _) id).mono ?_); rw [F1.out, pa_some]; rintro en w1 ⟨rfl, rfl⟩)
 go_end0
 refine ⟨⟨_, rfl⟩, ⟨A, _, HM.out.setT HB.out s, reptop_setF HT.out.rep, by rw [setF_ids]; exact HT.out.nd, fun x => by rw [setF_ids]; exact HT.out.dom x, by rw [setF_tops]; exact HT.out.tops⟩, ?_⟩
 exact ((below_box0 w _).mono HN.out).setCell (p := ⟨b, 1, none⟩) (HT.out.m.lo i b HB.out) _
set_option maxHeartbeats 1000000 in
set_option maxRecDepth 100000 in
theorem apply_make_no {w : World} {n0 F : Nat} {A : Nat → Option Nat} {h : Nat → Nd} {G : Fo} (t : At w n0 F A h G) (hn0 : n0 ≤ w.heap.size) (id up at_ : Int) (s : ByteArray) (h1 : fndF G id ≠ 0) :
  Calls Tryd.prog 94 #[.pointer (some ⟨F, 0, none⟩), .iface 156 (.agg #[.int .i64 id, .int .i64 up, .int .i64 at_, .string s])] w (ApplyPost w n0 F G) := by
 have hz : whereR A (0, 0) false = .returned (.tuple #[.pointer none, .pointer none, .bool false]) := by unfold whereR; rw [t.m.z]; rfl
 have HW := Aside0.mk (where_make (t.m.alloc (.cells #[.int .i64 id, .int .i64 up, .int .i64 at_, .string s] 156)) id up at_ s)
 rw [t.fnd id, if_neg h1, decide_eq_false h1] at HW
 have HT := Aside0.mk t
 have HN := Aside0.mk hn0
 have HZ := Aside0.mk hz
 clear t h1 hn0 hz
 go_enter Tryd.func94, Tryd.ntmps94
 go_wp2_with (go_at_call 132; (with_reducible refine (HW.out).mono ?_); rintro en w1 ⟨he, hb⟩; rw [HZ.out] at he; subst he; have HB := Aside0.mk hb; clear hb)
 go_end0
 exact ⟨⟨_, rfl⟩, ⟨A, h, HT.out.kept ((HT.out.m.alloc _).below HB.out)⟩, ((below_box0 w _).mono HN.out).trans (HB.out.mono (by have := HN.out; simp; omega))⟩
end Go.Proofs.YtdpklbomhdpimaaDoor.P
