/- Joined by a program (wip/shake.py): the declarations that 'YtkopimbbgckcnaaDoorCardFnTextTwo' reaches. -/
import Derived.Test.YtkopimbbgckcnaaDoorZEd1
set_option linter.unusedVariables false
set_option linter.unusedSimpArgs false
set_option linter.unusedSectionVars false
namespace Go.Proofs.YtkopimbbgckcnaaDoor.P
open Go.RowKit Go.Proofs.YtkopimbbgckcnaaDoorW.PrintWords Go.Proofs.YtkopimbbgckcnaaDoorW.PrintLast
set_option maxHeartbeats 8000000 in
set_option maxRecDepth 100000 in
theorem spec_l71Tree.calls (k : Nat) (g : Nat) (s0_0 : List Int) (s0_1 : Int) (r1 : List (S43)) (r2 : Int) (w0 w : World) (hI : IsS106 w0 w g s0_0 s0_1) (hB : Below w0.heap.size w0 w) (h : spec_l71Tree.f k s0_0 s0_1 = some (r1, r2)) :
  Calls Tryd.prog 82 #[.pointer (some ⟨g, 0, none⟩)] w fun e w' => ∃ v0_ : Value, e = .returned (v0_) ∧ Kd.Q k43 43 w' w.heap.size (fun _ => True) v0_ r1 ∧ IsS106 w0 w' g s0_0 r2 ∧ Below w0.heap.size w0 w' ∧ KeepBut w w' g none := by
 have hu30 := Tryd.underlying30
 have hu43 := Tryd.underlying43
 have HI0 := Aside0.mk hI
 have HK := Aside0.mk (KeepBut.refl w g none)
 have HL := Aside0.mk hB.size
 clear hI
 have HW0 := Aside0.mk hB.size
 have HB := Aside0.mk hB
 clear hB
 unfold spec_l71Tree.f at h
 have H := h
 clear h
 replace H := Option.bind_eq_some_iff.mp H
 obtain ⟨t371, A20, H⟩ := H
 try dsimp only at H
 have A2 := Aside0.mk A20
 clear A20
 replace H := Option.bind_eq_some_iff.mp H
 obtain ⟨⟨t374, t375⟩, A30, H⟩ := H
 try dsimp only at H
 have A3 := Aside0.mk A30
 clear A30
 have H' := Aside0.mk H
 clear H
 go_enter Tryd.func82, Tryd.ntmps82
 go_wp2_with (first | ((with_reducible refine gate_callee (f := 85) rfl ?_); refine gl_ 9 Tryd.func85 #[] ?_; (with_reducible refine (spec_TreeNew.calls  t371 _ A2.out).mono ?_); rintro e w4 ⟨v372, rfl, ho0, hb⟩; refine ⟨_, rfl, ?_⟩; have HO373 := Aside0.mk (Kd.R_lower ho0 (keep_size (w := w) (g := g) (row := none) (ke_))); replace HK := Aside0.mk (KeepBut.trans (ke_) (KeepBut.of_below hb g none) (.inl rfl)); replace HB := Aside0.mk (below_step (bel_) hb); replace HI0 := Aside0.mk (IsS106.below (is_HI0) hb); (try clear hb ho0)) | ((with_reducible refine gate_callee (f := 72) rfl ?_); refine gl_ 11 Tryd.func72 #[.pointer (some ⟨g, 0, none⟩), .int .i64 11] ?_; (with_reducible refine (spec_l6Rd_pick.calls k g s0_0 s0_1 11 t374 t375 w0 _ ?side1 ?side2 A3.out).mono ?_); (case side1 => exact is_HI0); (case side2 => exact bel_); rintro e w5 ⟨rfl, hi, hb, hk⟩; refine ⟨_, rfl, ?_⟩; replace HO373 := Aside0.mk (Kd.R_mono (Kd.R_keep (IsS106.apart (show IsS106 w0 _ g s0_0 s0_1 from is_HI0) (rp_ HO373.out) (by decide)) hk (fun _ h => h.2)) (fun _ h => h.1)); replace HK := Aside0.mk (KeepBut.trans (ke_) hk (.inl rfl)); replace HB := Aside0.mk (hb); replace HI0 := Aside0.mk (hi); (try clear hb hk hi)))
 go_loopg [3, 4] k (fun kq v3 v4 w' => ∃ (x3_1 : List (S43)) (x4_1 : Int) (x1001_1 : Int), v4 = .int .i64 x4_1 ∧ Aside0 (spec_l71Tree.l0 kq x3_1 x4_1 s0_0 x1001_1 = some (r1, r2)) ∧ Aside0 (kq ≤ k) ∧ Aside0 (Kd.R k43 43 w' w.heap.size (fun _ => True) v3 x3_1) ∧ Aside0 (IsS106 w0 w' g s0_0 x1001_1) ∧ Aside0 (KeepBut w w' g none) ∧ Aside0 (Below w0.heap.size w0 w'))
 case atStart => exact ⟨(t371), (t374), (t375), (si_), H', ⟨Nat.le_refl _⟩, ⟨by (with_reducible repeat (first | apply Kd.R_alloc | apply Kd.R_drewN | apply Kd.R_drew)); exact HO373.out⟩, ⟨is_HI0⟩, ⟨ke_⟩, ⟨bel_⟩⟩
 case round =>
  clear H'
  try clear p2
  obtain ⟨x3_1, x4_1, x1001_1, rfl, HA, HK1, HO_3, HI0, HK, HB⟩ := hrel
  cases gk with
  | zero => exact absurd HA.out (by simp [spec_l71Tree.l0])
  | succ k1 =>
   have H := HA.out
   clear HA
   simp only [spec_l71Tree.l0] at H
   by_cases c6 : x4_1 > 0
   ·rw [if_pos c6] at H
    have c6b0 : decide (0 < x4_1) = true := decide_eq_true c6
    clear c6
    have HC7 := Aside0.mk H
    clear H
    go_upto_region 6 with (fail)
    go_cut [23] (fun v23 wc => ∃ (kq : Nat) (x23_6 : Bool) (x1001_6 : Int), v23 = .bool x23_6 ∧ Aside0 (spec_l71Tree.j1 kq x3_1 x4_1 1 x23_6 s0_0 x1001_6 = some (r1, r2)) ∧ Aside0 (kq ≤ k1) ∧ Aside0 (Kd.R k43 43 wc w.heap.size (fun _ => True) u3 x3_1) ∧ Aside0 (IsS106 w0 wc g s0_0 x1001_6) ∧ Aside0 (KeepBut w wc g none) ∧ Aside0 (Below w0.heap.size w0 wc))
    case first =>
     have H := HC7.out
     clear HC7
     by_cases c8 : (x3_1.length : Int) > 3
     ·rw [if_pos c8] at H
      have c8b0 : decide (3 < (x3_1.length : Int)) = true := decide_eq_true c8
      have c8b1 : decide (3 < x3_1.length) = true := decide_eq_true (by omega)
      clear c8
      (first | rw [c8b0] | (simp only [i64_w, i32_w]; rw [c8b0]) | skip)
      replace H := Option.bind_eq_some_iff.mp H
      obtain ⟨⟨t376, t377⟩, A90, H⟩ := H
      try dsimp only at H
      have A9 := Aside0.mk A90
      clear A90
      have H' := Aside0.mk H
      clear H
      obtain ⟨Ao10, co10, eo10⟩ := Kd.R_slice HO_3.out
      subst eo10
      go_wp2_with (first | (go_at_call 72; (with_reducible refine (spec_l6Rd_pick.calls k1 g s0_0 x1001_1 3 t376 t377 w0 _ ?side1 ?side2 A9.out).mono ?_); (case side1 => exact is_HI0); (case side2 => exact bel_); rintro e w11 ⟨rfl, hi, hb, hk⟩; replace HO_3 := Aside0.mk (Kd.R_mono (Kd.R_keep (IsS106.apart (show IsS106 w0 _ g s0_0 x1001_1 from is_HI0) (rp_ HO_3.out) (by decide)) hk (fun _ h => h.2)) (fun _ h => h.1)); replace HK := Aside0.mk (KeepBut.trans (ke_) hk (.inl rfl)); replace HB := Aside0.mk (hb); replace HI0 := Aside0.mk (hi); (try clear hb hk hi)))
      go_meet
      case rel => exact ⟨_, (decide (t376 > 0)), (t377), (si_), H', ⟨by have := HK1.out; first | omega | exact Nat.le_refl _⟩, ⟨by (with_reducible repeat (first | apply Kd.R_alloc | apply Kd.R_drewN | apply Kd.R_drew)); exact HO_3.out⟩, ⟨is_HI0⟩, ⟨ke_⟩, ⟨bel_⟩⟩
     ·rw [if_neg c8] at H
      have c8b0 : decide (3 < (x3_1.length : Int)) = false := decide_eq_false c8
      have c8b1 : decide (3 < x3_1.length) = false := decide_eq_false (by omega)
      clear c8
      (first | rw [c8b0] | (simp only [i64_w, i32_w]; rw [c8b0]) | skip)
      have H' := Aside0.mk H
      clear H
      obtain ⟨Ao12, co12, eo12⟩ := Kd.R_slice HO_3.out
      subst eo12
      go_wp2
      go_meet
      case rel => exact ⟨_, (false), (x1001_1), (si_), H', ⟨by have := HK1.out; first | omega | exact Nat.le_refl _⟩, ⟨by (with_reducible repeat (first | apply Kd.R_alloc | apply Kd.R_drewN | apply Kd.R_drew)); exact HO_3.out⟩, ⟨is_HI0⟩, ⟨ke_⟩, ⟨bel_⟩⟩
    case rest =>
     clear HC7
     try clear p2
     try clear c6
     try clear c6b0
     try clear c7
     try clear c8
     try clear c8b0
     try clear c8b1
     try clear p2
     obtain ⟨kq, x23_6, x1001_6, rfl, HA, HJ6, HO_3, HI0, HK, HB⟩ := hcut
     cases kq with
     | zero => exact absurd HA.out (by simp [spec_l71Tree.j1])
     | succ kj6 =>
      have H := HA.out
      clear HA
      simp only [spec_l71Tree.j1] at H
      have HC13 := Aside0.mk H
      clear H
      go_upto_if 23 with (fail)
      go_cut [5] (fun v5 wc => ∃ (kq : Nat) (x5_12 : Int) (x1001_12 : Int), v5 = .int .i64 x5_12 ∧ Aside0 (spec_l71Tree.j2 kq x3_1 x4_1 x5_12 s0_0 x1001_12 = some (r1, r2)) ∧ Aside0 (kq ≤ kj6) ∧ Aside0 (Kd.R k43 43 wc w.heap.size (fun _ => True) u3 x3_1) ∧ Aside0 (IsS106 w0 wc g s0_0 x1001_12) ∧ Aside0 (KeepBut w wc g none) ∧ Aside0 (Below w0.heap.size w0 wc))
      case first =>
       have H := HC13.out
       clear HC13
       by_cases c14 : x23_6 = true
       ·subst c14
        have H1 : ((spec_l6Rd_pick.f kj6 s0_0 x1001_6 (x3_1.length : Int)).bind fun bt378 => (if 0 ≤ bt378.1 then (if bt378.1 < (x3_1.length : Int) then (spec_l71Tree.j2 kj6 x3_1 x4_1 ((rd_T43 x3_1 bt378.1).f0) s0_0 bt378.2) else (none)) else (none))) = some (r1, r2) := by rw [if_pos rfl] at H; exact H
        clear H
        have H := H1
        clear H1
        replace H := Option.bind_eq_some_iff.mp H
        obtain ⟨⟨t378, t379⟩, A150, H⟩ := H
        try dsimp only at H
        have A15 := Aside0.mk A150
        clear A150
        by_cases c16 : 0 ≤ t378
        ·rw [if_pos c16] at H
         have c16b0 : decide (0 ≤ t378) = true := decide_eq_true c16
         clear c16
         (first | rw [c16b0] | (simp only [i64_w, i32_w]; rw [c16b0]) | skip)
         by_cases c17 : t378 < (x3_1.length : Int)
         ·rw [if_pos c17] at H
          have c17b0 : decide (t378 < (x3_1.length : Int)) = true := decide_eq_true c17
          clear c17
          have H' := Aside0.mk H
          clear H
          obtain ⟨Ao18, co18, eo18⟩ := Kd.R_slice HO_3.out
          subst eo18
          go_wp2_with (first | ((with_reducible refine gate_callee (f := 72) rfl ?_); refine gl_ 28 Tryd.func72 #[.pointer (some ⟨g, 0, none⟩), .int .i64 (x3_1.length : Int)] ?_; (with_reducible refine (spec_l6Rd_pick.calls kj6 g s0_0 x1001_6 (x3_1.length : Int) t378 t379 w0 _ ?side1 ?side2 A15.out).mono ?_); (case side1 => exact is_HI0); (case side2 => exact bel_); rintro e w19 ⟨rfl, hi, hb, hk⟩; refine ⟨_, rfl, ?_⟩; replace HO_3 := Aside0.mk (Kd.R_mono (Kd.R_keep (IsS106.apart (show IsS106 w0 _ g s0_0 x1001_6 from is_HI0) (rp_ HO_3.out) (by decide)) hk (fun _ h => h.2)) (fun _ h => h.1)); replace HK := Aside0.mk (KeepBut.trans (ke_) hk (.inl rfl)); replace HB := Aside0.mk (hb); replace HI0 := Aside0.mk (hi); (try clear hb hk hi); have p380 : 0 ≤ (t378 : Int) := od_; have q380 : t378 < (x3_1.length : Int) := od_; obtain ⟨ad380, e380, hx380_0, hx380_1, hx380_2⟩ := at_T43 (Kd.R_reads' HO_3.out).2.2 t378 p380 q380; cases e380; replace p380 := eq_true p380; replace q380 := eq_true q380))
          go_meet
          case rel => exact ⟨_, ((rd_T43 x3_1 t378).f0), (t379), (si_), H', ⟨by have := HK1.out; have := HJ6.out; first | omega | exact Nat.le_refl _⟩, ⟨by (with_reducible repeat (first | apply Kd.R_alloc | apply Kd.R_drewN | apply Kd.R_drew)); exact HO_3.out⟩, ⟨is_HI0⟩, ⟨ke_⟩, ⟨bel_⟩⟩
         ·rw [if_neg c17] at H
          exact absurd H (by simp)
        ·rw [if_neg c16] at H
         exact absurd H (by simp)
       ·replace c14 := Bool.eq_false_iff.mpr c14
        subst c14
        have H1 : (spec_l71Tree.j2 kj6 x3_1 x4_1 1 s0_0 x1001_6) = some (r1, r2) := by rw [if_neg (show ¬ (false = true) by decide)] at H; exact H
        clear H
        have H := H1
        clear H1
        have H' := Aside0.mk H
        clear H
        go_wp2
        go_meet
        case rel => exact ⟨_, (1), (x1001_6), (si_), H', ⟨by have := HK1.out; have := HJ6.out; first | omega | exact Nat.le_refl _⟩, ⟨by (with_reducible repeat (first | apply Kd.R_alloc | apply Kd.R_drewN | apply Kd.R_drew)); exact HO_3.out⟩, ⟨is_HI0⟩, ⟨ke_⟩, ⟨bel_⟩⟩
      case rest =>
       clear HC13
       try clear c1
       try clear p2
       try clear p3
       try clear q3
       try clear hx3
       try clear c6
       try clear c6b0
       try clear c7
       try clear c8
       try clear c8b0
       try clear c8b1
       try clear c14
       try clear c16
       try clear c16b0
       try clear c17
       try clear c17b0
       try clear hx380_0
       try clear hx380_1
       try clear hx380_2
       try clear p2
       try clear p380
       try clear q380
       obtain ⟨kq, x5_12, x1001_12, rfl, HA, HJ12, HO_3, HI0, HK, HB⟩ := hcut
       cases kq with
       | zero => exact absurd HA.out (by simp [spec_l71Tree.j2])
       | succ kj12 =>
        have H := HA.out
        clear HA
        simp only [spec_l71Tree.j2] at H
        replace H := Option.bind_eq_some_iff.mp H
        obtain ⟨t381, A200, H⟩ := H
        try dsimp only at H
        have A20 := Aside0.mk A200
        clear A200
        have HC21 := Aside0.mk H
        clear H
        obtain ⟨Ao22, co22, eo22⟩ := Kd.R_slice HO_3.out
        subst eo22
        go_upto_region 10 with (first | ((with_reducible refine gate_callee (f := 73) rfl ?_); refine gl_ 34 Tryd.func73 #[.slice Ao22 x3_1.length co22, .int .i64 x5_12] ?_; (with_reducible refine (spec_l2Kids.calls kj12 _ _ x3_1 x5_12 t381 _ ?side1 ?side2 A20.out).mono ?_); (case side1 => exact cx_ (Kd.R_reads' HO_3.out).2.2); (case side2 => exact (Kd.R_reads' HO_3.out).2.1); rintro e w23 ⟨v382, rfl, ho0, hb⟩; refine ⟨_, rfl, ?_⟩; replace HO_3 := Aside0.mk (Kd.R_below (rp_ HO_3.out) hb); have HO383 := Aside0.mk (Kd.R_lower ho0 (keep_size (w := w) (g := g) (row := none) (ke_))); replace HK := Aside0.mk (KeepBut.trans (ke_) (KeepBut.of_below hb g none) (.inl rfl)); replace HB := Aside0.mk (below_step (bel_) hb); replace HI0 := Aside0.mk (IsS106.below (is_HI0) hb); (try clear hb ho0)))
        (try simp only [Act.put, List.setIfInBounds_toArray, List.set_cons_zero, List.set_cons_succ])
        go_cut [42] (fun v42 wc => ∃ (kq : Nat) (x42_20 : Bool) (x1001_20 : Int), v42 = .bool x42_20 ∧ Aside0 (spec_l71Tree.j3 kq x3_1 x4_1 x5_12 t381 0 x42_20 s0_0 x1001_20 = some (r1, r2)) ∧ Aside0 (kq ≤ kj12) ∧ Aside0 (Kd.R k43 43 wc w.heap.size (fun _ => True) (.slice Ao22 x3_1.length co22) x3_1) ∧ Aside0 (Kd.R (Kd.int .i64) 3 wc w.heap.size (fun _ => True) v382 t381) ∧ Aside0 (IsS106 w0 wc g s0_0 x1001_20) ∧ Aside0 (KeepBut w wc g none) ∧ Aside0 (Below w0.heap.size w0 wc))
        case first =>
         have H := HC21.out
         clear HC21
         by_cases c24 : (t381.length : Int) > 0
         ·rw [if_pos c24] at H
          have c24b0 : decide (0 < (t381.length : Int)) = true := decide_eq_true c24
          have c24b1 : decide (0 < t381.length) = true := decide_eq_true (by omega)
          clear c24
          (first | rw [c24b0] | (simp only [i64_w, i32_w]; rw [c24b0]) | skip)
          replace H := Option.bind_eq_some_iff.mp H
          obtain ⟨⟨t384, t385⟩, A250, H⟩ := H
          try dsimp only at H
          have A25 := Aside0.mk A250
          clear A250
          have H' := Aside0.mk H
          clear H
          obtain ⟨Ao26, co26, eo26⟩ := Kd.R_slice HO383.out
          subst eo26
          go_wp2_with (first | (go_at_call 72; (with_reducible refine (spec_l6Rd_pick.calls kj12 g s0_0 x1001_12 2 t384 t385 w0 _ ?side1 ?side2 A25.out).mono ?_); (case side1 => exact is_HI0); (case side2 => exact bel_); rintro e w27 ⟨rfl, hi, hb, hk⟩; replace HO_3 := Aside0.mk (Kd.R_mono (Kd.R_keep (IsS106.apart (show IsS106 w0 _ g s0_0 x1001_12 from is_HI0) (rp_ HO_3.out) (by decide)) hk (fun _ h => h.2)) (fun _ h => h.1)); replace HO383 := Aside0.mk (Kd.R_mono (Kd.R_keep (IsS106.apart (show IsS106 w0 _ g s0_0 x1001_12 from is_HI0) (rp_ HO383.out) (by decide)) hk (fun _ h => h.2)) (fun _ h => h.1)); replace HK := Aside0.mk (KeepBut.trans (ke_) hk (.inl rfl)); replace HB := Aside0.mk (hb); replace HI0 := Aside0.mk (hi); (try clear hb hk hi)))
          go_meet
          case rel => exact ⟨_, ((t384 == 0)), (t385), (si_), H', ⟨by have := HK1.out; have := HJ6.out; have := HJ12.out; first | omega | exact Nat.le_refl _⟩, ⟨by (with_reducible repeat (first | apply Kd.R_alloc | apply Kd.R_drewN | apply Kd.R_drew)); exact HO_3.out⟩, ⟨by (with_reducible repeat (first | apply Kd.R_alloc | apply Kd.R_drewN | apply Kd.R_drew)); exact HO383.out⟩, ⟨is_HI0⟩, ⟨ke_⟩, ⟨bel_⟩⟩
         ·rw [if_neg c24] at H
          have c24b0 : decide (0 < (t381.length : Int)) = false := decide_eq_false c24
          have c24b1 : decide (0 < t381.length) = false := decide_eq_false (by omega)
          clear c24
          (first | rw [c24b0] | (simp only [i64_w, i32_w]; rw [c24b0]) | skip)
          have H' := Aside0.mk H
          clear H
          obtain ⟨Ao28, co28, eo28⟩ := Kd.R_slice HO383.out
          subst eo28
          go_wp2
          go_meet
          case rel => exact ⟨_, (false), (x1001_12), (si_), H', ⟨by have := HK1.out; have := HJ6.out; have := HJ12.out; first | omega | exact Nat.le_refl _⟩, ⟨by (with_reducible repeat (first | apply Kd.R_alloc | apply Kd.R_drewN | apply Kd.R_drew)); exact HO_3.out⟩, ⟨by (with_reducible repeat (first | apply Kd.R_alloc | apply Kd.R_drewN | apply Kd.R_drew)); exact HO383.out⟩, ⟨is_HI0⟩, ⟨ke_⟩, ⟨bel_⟩⟩
        case rest =>
         clear HC21
         try clear c1
         try clear c2
         try clear p2
         try clear p3
         try clear q3
         try clear hx3
         try clear c6
         try clear c6b0
         try clear c7
         try clear c8
         try clear c8b0
         try clear c8b1
         try clear c14
         try clear c16
         try clear c16b0
         try clear c17
         try clear c17b0
         try clear c24
         try clear c24b0
         try clear c24b1
         try clear hx380_0
         try clear hx380_1
         try clear hx380_2
         try clear p2
         try clear p3
         try clear p380
         try clear q3
         try clear q380
         obtain ⟨kq, x42_20, x1001_20, rfl, HA, HJ20, HO_3, HO_6, HI0, HK, HB⟩ := hcut
         cases kq with
         | zero => exact absurd HA.out (by simp [spec_l71Tree.j3])
         | succ kj20 =>
          have H := HA.out
          clear HA
          simp only [spec_l71Tree.j3] at H
          by_cases c29 : x42_20 = true
          ·subst c29
           have H1 : ((spec_l6Rd_pick.f kj20 s0_0 x1001_20 (t381.length : Int)).bind fun bt386 => (if 0 ≤ bt386.1 then (if bt386.1 < (t381.length : Int) then ((spec_l71Id.f kj20 s0_0 bt386.2).bind fun bt389 => ((spec_l71Text.f kj20 s0_0 bt389.2).bind fun bt391 => ((spec_l3Do.f kj20 x3_1 1 bt389.1 x5_12 (rd t381 bt386.1) bt391.1).bind fun t393 => (spec_l71Tree.l0 kj20 t393 (wrap64 (x4_1 - 1)) s0_0 bt391.2)))) else (none)) else (none))) = some (r1, r2) := by rw [if_pos rfl] at H; exact H
           clear H
           have H := H1
           clear H1
           replace H := Option.bind_eq_some_iff.mp H
           obtain ⟨⟨t386, t387⟩, A300, H⟩ := H
           try dsimp only at H
           have A30 := Aside0.mk A300
           clear A300
           by_cases c31 : 0 ≤ t386
           ·rw [if_pos c31] at H
            have c31b0 : decide (0 ≤ t386) = true := decide_eq_true c31
            clear c31
            by_cases c32 : t386 < (t381.length : Int)
            ·rw [if_pos c32] at H
             have c32b0 : decide (t386 < (t381.length : Int)) = true := decide_eq_true c32
             clear c32
             replace H := Option.bind_eq_some_iff.mp H
             obtain ⟨⟨t389, t390⟩, A330, H⟩ := H
             try dsimp only at H
             have A33 := Aside0.mk A330
             clear A330
             replace H := Option.bind_eq_some_iff.mp H
             obtain ⟨⟨t391, t392⟩, A340, H⟩ := H
             try dsimp only at H
             have A34 := Aside0.mk A340
             clear A340
             replace H := Option.bind_eq_some_iff.mp H
             obtain ⟨t393, A350, H⟩ := H
             try dsimp only at H
             have A35 := Aside0.mk A350
             clear A350
             have H' := Aside0.mk H
             clear H
             obtain ⟨Ao36, co36, eo36⟩ := Kd.R_slice HO_6.out
             subst eo36
             go_wp2_with (first | ((with_reducible refine gate_callee (f := 72) rfl ?_); refine gl_ 47 Tryd.func72 #[.pointer (some ⟨g, 0, none⟩), .int .i64 (t381.length : Int)] ?_; (with_reducible refine (spec_l6Rd_pick.calls kj20 g s0_0 x1001_20 (t381.length : Int) t386 t387 w0 _ ?side1 ?side2 A30.out).mono ?_); (case side1 => exact is_HI0); (case side2 => exact bel_); rintro e w37 ⟨rfl, hi, hb, hk⟩; refine ⟨_, rfl, ?_⟩; replace HO_3 := Aside0.mk (Kd.R_mono (Kd.R_keep (IsS106.apart (show IsS106 w0 _ g s0_0 x1001_20 from is_HI0) (rp_ HO_3.out) (by decide)) hk (fun _ h => h.2)) (fun _ h => h.1)); replace HO_6 := Aside0.mk (Kd.R_mono (Kd.R_keep (IsS106.apart (show IsS106 w0 _ g s0_0 x1001_20 from is_HI0) (rp_ HO_6.out) (by decide)) hk (fun _ h => h.2)) (fun _ h => h.1)); replace HK := Aside0.mk (KeepBut.trans (ke_) hk (.inl rfl)); replace HB := Aside0.mk (hb); replace HI0 := Aside0.mk (hi); (try clear hb hk hi); have p388 : 0 ≤ (t386 : Int) := od_; have q388 : t386 < (t381.length : Int) := od_; obtain ⟨ad388, e388, hx388_0⟩ := Kd.at_int (Kd.R_reads' HO_6.out).2.2 t386 p388 q388; cases e388; replace p388 := eq_true p388; replace q388 := eq_true q388) | ((with_reducible refine gate_callee (f := 83) rfl ?_); refine gl_ 52 Tryd.func83 #[.pointer (some ⟨g, 0, none⟩)] ?_; (with_reducible refine (spec_l71Id.calls kj20 g s0_0 t387 t389 t390 w0 _ ?side1 ?side2 A33.out).mono ?_); (case side1 => exact is_HI0); (case side2 => exact bel_); rintro e w38 ⟨rfl, hi, hb, hk⟩; refine ⟨_, rfl, ?_⟩; replace HO_3 := Aside0.mk (Kd.R_mono (Kd.R_keep (IsS106.apart (show IsS106 w0 _ g s0_0 t387 from is_HI0) (rp_ HO_3.out) (by decide)) hk (fun _ h => h.2)) (fun _ h => h.1)); replace HO_6 := Aside0.mk (Kd.R_mono (Kd.R_keep (IsS106.apart (show IsS106 w0 _ g s0_0 t387 from is_HI0) (rp_ HO_6.out) (by decide)) hk (fun _ h => h.2)) (fun _ h => h.1)); replace HK := Aside0.mk (KeepBut.trans (ke_) hk (.inl rfl)); replace HB := Aside0.mk (hb); replace HI0 := Aside0.mk (hi); (try clear hb hk hi)) | ((with_reducible refine gate_callee (f := 84) rfl ?_); refine gl_ 56 Tryd.func84 #[.pointer (some ⟨g, 0, none⟩)] ?_; (with_reducible refine (spec_l71Text.calls kj20 g s0_0 t390 t391 t392 w0 _ ?side1 ?side2 A34.out).mono ?_); (case side1 => exact is_HI0); (case side2 => exact bel_); rintro e w39 ⟨rfl, hi, hb, hk⟩; refine ⟨_, rfl, ?_⟩; replace HO_3 := Aside0.mk (Kd.R_mono (Kd.R_keep (IsS106.apart (show IsS106 w0 _ g s0_0 t390 from is_HI0) (rp_ HO_3.out) (by decide)) hk (fun _ h => h.2)) (fun _ h => h.1)); replace HO_6 := Aside0.mk (Kd.R_mono (Kd.R_keep (IsS106.apart (show IsS106 w0 _ g s0_0 t390 from is_HI0) (rp_ HO_6.out) (by decide)) hk (fun _ h => h.2)) (fun _ h => h.1)); replace HK := Aside0.mk (KeepBut.trans (ke_) hk (.inl rfl)); replace HB := Aside0.mk (hb); replace HI0 := Aside0.mk (hi); (try clear hb hk hi)) | ((with_reducible refine gate_callee (f := 38) rfl ?_); refine gl_ 58 Tryd.func38 #[.slice Ao22 x3_1.length co22, .agg #[.int .i64 1, .int .i64 t389, .int .i64 x5_12, .int .i64 (rd t381 t386), .string t391]] ?_; (with_reducible refine (spec_l3Do.calls kj20 _ _ x3_1 1 t389 x5_12 (rd t381 t386) t391 t393 _ ?side1 ?side2 A35.out).mono ?_); (case side1 => exact cx_ (Kd.R_reads' HO_3.out).2.2); (case side2 => exact (Kd.R_reads' HO_3.out).2.1); rintro e w40 ⟨v394, rfl, ho0, hb⟩; refine ⟨_, rfl, ?_⟩; replace HO_6 := Aside0.mk (Kd.R_below (rp_ HO_6.out) hb); have HO395 := Aside0.mk (Kd.R_lower (Kd.R_new' ho0 (Kd.R_lt (rp_ HO_3.out))) (keep_size (w := w) (g := g) (row := none) (ke_))); replace HO_3 := Aside0.mk (Kd.R_elder' (rp_ HO_3.out) (Kd.R_base ho0) hb); replace HK := Aside0.mk (KeepBut.trans (ke_) (KeepBut.of_below hb g none) (.inl rfl)); replace HB := Aside0.mk (below_step (bel_) hb); replace HI0 := Aside0.mk (IsS106.below (is_HI0) hb); (try clear hb ho0)))
             go_roundg kj20
             case measure => have := HK1.out; have := HJ6.out; have := HJ12.out; have := HJ20.out; omega
             case rel => exact ⟨(t393), (wrap64 (x4_1 - 1)), (t392), (si_), H', ⟨by have := HK1.out; have := HJ6.out; have := HJ12.out; have := HJ20.out; omega⟩, ⟨by (with_reducible repeat (first | apply Kd.R_alloc | apply Kd.R_drewN | apply Kd.R_drew)); exact Kd.R_mono HO395.out (fun _ hk => trivial)⟩, ⟨is_HI0⟩, ⟨ke_⟩, ⟨bel_⟩⟩
            ·rw [if_neg c32] at H
             exact absurd H (by simp)
           ·rw [if_neg c31] at H
            exact absurd H (by simp)
          ·replace c29 := Bool.eq_false_iff.mpr c29
           subst c29
           have H1 : ((spec_l71Id.f kj20 s0_0 x1001_20).bind fun bt396 => ((spec_l71Text.f kj20 s0_0 bt396.2).bind fun bt398 => ((spec_l3Do.f kj20 x3_1 1 bt396.1 x5_12 0 bt398.1).bind fun t400 => (spec_l71Tree.l0 kj20 t400 (wrap64 (x4_1 - 1)) s0_0 bt398.2)))) = some (r1, r2) := by rw [if_neg (show ¬ (false = true) by decide)] at H; exact H
           clear H
           have H := H1
           clear H1
           replace H := Option.bind_eq_some_iff.mp H
           obtain ⟨⟨t396, t397⟩, A410, H⟩ := H
           try dsimp only at H
           have A41 := Aside0.mk A410
           clear A410
           replace H := Option.bind_eq_some_iff.mp H
           obtain ⟨⟨t398, t399⟩, A420, H⟩ := H
           try dsimp only at H
           have A42 := Aside0.mk A420
           clear A420
           replace H := Option.bind_eq_some_iff.mp H
           obtain ⟨t400, A430, H⟩ := H
           try dsimp only at H
           have A43 := Aside0.mk A430
           clear A430
           have H' := Aside0.mk H
           clear H
           go_wp2_with (first | ((with_reducible refine gate_callee (f := 83) rfl ?_); refine gl_ 52 Tryd.func83 #[.pointer (some ⟨g, 0, none⟩)] ?_; (with_reducible refine (spec_l71Id.calls kj20 g s0_0 x1001_20 t396 t397 w0 _ ?side1 ?side2 A41.out).mono ?_); (case side1 => exact is_HI0); (case side2 => exact bel_); rintro e w44 ⟨rfl, hi, hb, hk⟩; refine ⟨_, rfl, ?_⟩; replace HO_3 := Aside0.mk (Kd.R_mono (Kd.R_keep (IsS106.apart (show IsS106 w0 _ g s0_0 x1001_20 from is_HI0) (rp_ HO_3.out) (by decide)) hk (fun _ h => h.2)) (fun _ h => h.1)); replace HO_6 := Aside0.mk (Kd.R_mono (Kd.R_keep (IsS106.apart (show IsS106 w0 _ g s0_0 x1001_20 from is_HI0) (rp_ HO_6.out) (by decide)) hk (fun _ h => h.2)) (fun _ h => h.1)); replace HK := Aside0.mk (KeepBut.trans (ke_) hk (.inl rfl)); replace HB := Aside0.mk (hb); replace HI0 := Aside0.mk (hi); (try clear hb hk hi)) | ((with_reducible refine gate_callee (f := 84) rfl ?_); refine gl_ 56 Tryd.func84 #[.pointer (some ⟨g, 0, none⟩)] ?_; (with_reducible refine (spec_l71Text.calls kj20 g s0_0 t397 t398 t399 w0 _ ?side1 ?side2 A42.out).mono ?_); (case side1 => exact is_HI0); (case side2 => exact bel_); rintro e w45 ⟨rfl, hi, hb, hk⟩; refine ⟨_, rfl, ?_⟩; replace HO_3 := Aside0.mk (Kd.R_mono (Kd.R_keep (IsS106.apart (show IsS106 w0 _ g s0_0 t397 from is_HI0) (rp_ HO_3.out) (by decide)) hk (fun _ h => h.2)) (fun _ h => h.1)); replace HO_6 := Aside0.mk (Kd.R_mono (Kd.R_keep (IsS106.apart (show IsS106 w0 _ g s0_0 t397 from is_HI0) (rp_ HO_6.out) (by decide)) hk (fun _ h => h.2)) (fun _ h => h.1)); replace HK := Aside0.mk (KeepBut.trans (ke_) hk (.inl rfl)); replace HB := Aside0.mk (hb); replace HI0 := Aside0.mk (hi); (try clear hb hk hi)) | ((with_reducible refine gate_callee (f := 38) rfl ?_); refine gl_ 58 Tryd.func38 #[.slice Ao22 x3_1.length co22, .agg #[.int .i64 1, .int .i64 t396, .int .i64 x5_12, .int .i64 0, .string t398]] ?_; (with_reducible refine (spec_l3Do.calls kj20 _ _ x3_1 1 t396 x5_12 0 t398 t400 _ ?side1 ?side2 A43.out).mono ?_); (case side1 => exact cx_ (Kd.R_reads' HO_3.out).2.2); (case side2 => exact (Kd.R_reads' HO_3.out).2.1); rintro e w46 ⟨v401, rfl, ho0, hb⟩; refine ⟨_, rfl, ?_⟩; replace HO_6 := Aside0.mk (Kd.R_below (rp_ HO_6.out) hb); have HO402 := Aside0.mk (Kd.R_lower (Kd.R_new' ho0 (Kd.R_lt (rp_ HO_3.out))) (keep_size (w := w) (g := g) (row := none) (ke_))); replace HO_3 := Aside0.mk (Kd.R_elder' (rp_ HO_3.out) (Kd.R_base ho0) hb); replace HK := Aside0.mk (KeepBut.trans (ke_) (KeepBut.of_below hb g none) (.inl rfl)); replace HB := Aside0.mk (below_step (bel_) hb); replace HI0 := Aside0.mk (IsS106.below (is_HI0) hb); (try clear hb ho0)))
           go_roundg kj20
           case measure => have := HK1.out; have := HJ6.out; have := HJ12.out; have := HJ20.out; omega
           case rel => exact ⟨(t400), (wrap64 (x4_1 - 1)), (t399), (si_), H', ⟨by have := HK1.out; have := HJ6.out; have := HJ12.out; have := HJ20.out; omega⟩, ⟨by (with_reducible repeat (first | apply Kd.R_alloc | apply Kd.R_drewN | apply Kd.R_drew)); exact Kd.R_mono HO402.out (fun _ hk => trivial)⟩, ⟨is_HI0⟩, ⟨ke_⟩, ⟨bel_⟩⟩
   ·rw [if_neg c6] at H
    have c6b0 : decide (0 < x4_1) = false := decide_eq_false c6
    clear c6
    have H' := Aside0.mk H
    clear H
    go_wp2
    go_loopg [8] k1 (fun kq v8 w' => ∃ (x3_2 : List (S43)) (x8_2 : Int) (x1001_2 : Int), v8 = .int .i64 x8_2 ∧ Aside0 (spec_l71Tree.l1 kq x3_2 x8_2 s0_0 x1001_2 = some (r1, r2)) ∧ Aside0 (kq ≤ k1) ∧ Aside0 (Kd.R k43 43 w' w.heap.size (fun _ => True) u3 x3_2) ∧ Aside0 (IsS106 w0 w' g s0_0 x1001_2) ∧ Aside0 (KeepBut w w' g none) ∧ Aside0 (Below w0.heap.size w0 w'))
    case atStart => exact ⟨(x3_1), (0), (x1001_1), (si_), H', ⟨Nat.le_refl _⟩, ⟨by (with_reducible repeat (first | apply Kd.R_alloc | apply Kd.R_drewN | apply Kd.R_drew)); exact HO_3.out⟩, ⟨is_HI0⟩, ⟨ke_⟩, ⟨bel_⟩⟩
    case round =>
     clear H'
     try clear c1
     try clear c2
     try clear p2
     try clear c3
     try clear p3
     try clear q3
     try clear hx3
     try clear c6
     try clear c6b0
     try clear p6
     try clear c7
     try clear c8
     try clear c8b0
     try clear c8b1
     try clear c14
     try clear c16
     try clear c16b0
     try clear c17
     try clear c17b0
     try clear c24
     try clear c24b0
     try clear c24b1
     try clear c29
     try clear c31
     try clear c31b0
     try clear c32
     try clear c32b0
     try clear c38
     try clear p38
     try clear q38
     try clear hx38
     try clear hx380_0
     try clear hx380_1
     try clear hx380_2
     try clear hx388_0
     try clear p2
     try clear p3
     try clear p380
     try clear p388
     try clear q3
     try clear q380
     try clear q388
     obtain ⟨x3_2, x8_2, x1001_2, rfl, HA, HK2, HO_3, HI0, HK, HB⟩ := hrel
     cases gk with
     | zero => exact absurd HA.out (by simp [spec_l71Tree.l1])
     | succ k2 =>
      have H := HA.out
      clear HA
      simp only [spec_l71Tree.l1] at H
      by_cases c47 : x8_2 < (x3_2.length : Int)
      ·rw [if_pos c47] at H
       have c47b0 : decide (x8_2 < (x3_2.length : Int)) = true := decide_eq_true c47
       clear c47
       by_cases c48 : 0 ≤ x8_2
       ·rw [if_pos c48] at H
        have c48b0 : decide (0 ≤ x8_2) = true := decide_eq_true c48
        clear c48
        replace H := Option.bind_eq_some_iff.mp H
        obtain ⟨t404, A490, H⟩ := H
        try dsimp only at H
        have A49 := Aside0.mk A490
        clear A490
        by_cases c50 : t404 = true
        ·subst c50
         have H1 : (spec_l71Tree.l1 k2 x3_2 (wrap64 (x8_2 + 1)) s0_0 x1001_2) = some (r1, r2) := by rw [if_pos rfl] at H; exact H
         clear H
         have H := H1
         clear H1
         have H' := Aside0.mk H
         clear H
         obtain ⟨Ao51, co51, eo51⟩ := Kd.R_slice HO_3.out
         subst eo51
         have p403 : 0 ≤ (x8_2 : Int) := od_
         have q403 : x8_2 < (x3_2.length : Int) := od_
         obtain ⟨ad403, e403, hx403_0, hx403_1, hx403_2⟩ := at_T43 (Kd.R_reads' HO_3.out).2.2 x8_2 p403 q403
         cases e403
         replace p403 := eq_true p403
         replace q403 := eq_true q403
         go_wp2_with (first | ((with_reducible refine gate_callee (f := 51) rfl ?_); refine gl_ 70 Tryd.func51 #[.string ((rd_T43 x3_2 x8_2).f2)] ?_; (with_reducible refine (spec_l1Text.calls k2 ((rd_T43 x3_2 x8_2).f2) true _ A49.out).mono ?_); rintro e w' ⟨rfl, ⟨nd, rfl⟩⟩; refine ⟨_, rfl, ?_⟩))
         go_roundg k2
         case measure => have := HK1.out; have := HK2.out; omega
         case rel => exact ⟨(x3_2), (wrap64 (x8_2 + 1)), (x1001_2), (si_), H', ⟨by have := HK1.out; have := HK2.out; omega⟩, ⟨by (with_reducible repeat (first | apply Kd.R_alloc | apply Kd.R_drewN | apply Kd.R_drew)); exact HO_3.out⟩, ⟨is_HI0⟩, ⟨ke_⟩, ⟨bel_⟩⟩
        ·replace c50 := Bool.eq_false_iff.mpr c50
         subst c50
         have H1 : ((spec_l6Rd_pick.f k2 s0_0 x1001_2 2).bind fun bt405 => (if bt405.1 = 0 then (spec_l71Tree.l1 k2 (x3_2.set (x8_2 : Int).toNat (⟨(rd_T43 x3_2 x8_2).f0, (rd_T43 x3_2 x8_2).f1, (⟨#[]⟩ : ByteArray)⟩ : S43)) (wrap64 (x8_2 + 1)) s0_0 bt405.2) else (spec_l71Tree.l1 k2 x3_2 (wrap64 (x8_2 + 1)) s0_0 bt405.2))) = some (r1, r2) := by rw [if_neg (show ¬ (false = true) by decide)] at H; exact H
         clear H
         have H := H1
         clear H1
         replace H := Option.bind_eq_some_iff.mp H
         obtain ⟨⟨t405, t406⟩, A520, H⟩ := H
         try dsimp only at H
         have A52 := Aside0.mk A520
         clear A520
         by_cases c53 : t405 = 0
         ·rw [if_pos c53] at H
          have c53b0 : (t405 == 0) = true := beq_iff_eq.mpr c53
          have c53b1 : (t405 != 0) = false := bne_eq_false_iff_eq.mpr c53
          clear c53
          obtain ⟨y407, hy407⟩ : ∃ y_ : List (S43), y_ = (x3_2.set (x8_2 : Int).toNat (⟨(rd_T43 x3_2 x8_2).f0, (rd_T43 x3_2 x8_2).f1, (⟨#[]⟩ : ByteArray)⟩ : S43)) := ⟨_, rfl⟩
          replace H : (spec_l71Tree.l1 k2 y407 (wrap64 (x8_2 + 1)) s0_0 t406) = some (r1, r2) := by first | (rw [hy407]; with_reducible exact H) | (have H2_ := (Option.bind_some _ _).symm.trans H; rw [hy407]; with_reducible exact H2_) | (have H2_ := (Option.bind_some _ _).symm.trans H; with_reducible exact H2_) | with_reducible exact H | (rw [hy407]; exact H) | exact H
          have Ny407 := Aside0.mk hy407
          clear hy407
          have H' := Aside0.mk H
          clear H
          obtain ⟨Ao55, co55, eo55⟩ := Kd.R_slice HO_3.out
          subst eo55
          have p403 : 0 ≤ (x8_2 : Int) := od_
          have q403 : x8_2 < (x3_2.length : Int) := od_
          obtain ⟨ad403, e403, hx403_0, hx403_1, hx403_2⟩ := at_T43 (Kd.R_reads' HO_3.out).2.2 x8_2 p403 q403
          cases e403
          replace p403 := eq_true p403
          replace q403 := eq_true q403
          go_wp2_with (first | ((with_reducible refine gate_callee (f := 51) rfl ?_); refine gl_ 70 Tryd.func51 #[.string ((rd_T43 x3_2 x8_2).f2)] ?_; (with_reducible refine (spec_l1Text.calls k2 ((rd_T43 x3_2 x8_2).f2) false _ A49.out).mono ?_); rintro e w' ⟨rfl, ⟨nd, rfl⟩⟩; refine ⟨_, rfl, ?_⟩; (try (rw [drewN_self wr]; generalize hq_ : World.drewN wr _ = wr; have n0_ : Aside0 (Kd.R k43 43 wr w.heap.size (fun _ => True) (.slice (some ad403) x3_2.length co55) x3_2) := ⟨by rw [← hq_]; exact (rp_ HO_3.out)⟩; have n1_ : Aside0 (IsS106 w0 wr g s0_0 x1001_2) := ⟨by rw [← hq_]; exact (is_HI0)⟩; have n2_ : Aside0 (KeepBut w wr g none) := ⟨by rw [← hq_]; exact (ke_)⟩; have n3_ : Aside0 (Below w0.heap.size w0 wr) := ⟨by rw [← hq_]; exact (bel_)⟩; clear HO_3 HI0 HK HB hq_; have HO_3 := n0_; have HI0 := n1_; have HK := n2_; have HB := n3_; clear n0_ n1_ n2_ n3_))) | (go_at_call 72; (with_reducible refine (spec_l6Rd_pick.calls k2 g s0_0 x1001_2 2 t405 t406 w0 _ ?side1 ?side2 A52.out).mono ?_); (case side1 => exact is_HI0); (case side2 => exact bel_); rintro e w56 ⟨rfl, hi, hb, hk⟩; replace HO_3 := Aside0.mk (Kd.R_mono (Kd.R_keep (IsS106.apart (show IsS106 w0 _ g s0_0 x1001_2 from is_HI0) (rp_ HO_3.out) (by decide)) hk (fun _ h => h.2)) (fun _ h => h.1)); replace HK := Aside0.mk (KeepBut.trans (ke_) hk (.inl rfl)); replace HB := Aside0.mk (hb); replace HI0 := Aside0.mk (hi); (try clear hb hk hi); have p54 : 0 ≤ (x8_2 : Int) := od_; have q54 : (x8_2 : Int) < ((x3_2.length : Int) : Int) := od_; obtain ⟨go54, co54, eo54, gb54, gl54, cl54, HG54⟩ := Kd.R_form HO_3.out (by omega); (first | cases eo54 | (injection eo54 with ea_ en_ ec_; (first | subst ea_ | (injection ea_ with ea_; subst ea_)); subst ec_; clear en_)); have GB54 := Aside0.mk gb54; have GG54 := Aside0.mk HG54; clear gb54 gl54 HG54; (first | simp only [add_plain] at hx403_0 | skip); (first | simp only [add_plain] at hx403_1 | skip); (first | simp only [add_plain] at hx403_2 | skip); obtain ⟨ce54, hcl54, hM54, hcc54, hfr54⟩ := Kd.R_elem HO_3.out z43 (x8_2 : Int) p54 q54; obtain rfl := k43_openM hM54; have hx54_0 : w56.cell? ⟨go54, (x8_2 : Int).toNat * 3, none⟩ = some (.int .i64 ((rd_T43 x3_2 x8_2).f0)) := hcc54 0 _ rfl; have hx54_1 : w56.cell? ⟨go54, (x8_2 : Int).toNat * 3 + 1, none⟩ = some (.int .i64 ((rd_T43 x3_2 x8_2).f1)) := hcc54 1 _ rfl; have hx54_2 : w56.cell? ⟨go54, (x8_2 : Int).toNat * 3 + 2, none⟩ = some (.string ((rd_T43 x3_2 x8_2).f2)) := hcc54 2 _ rfl; have hf54_0 : w56.frozen? ⟨go54, (x8_2 : Int).toNat * 3, none⟩ = false := hfr54 0; have hf54_1 : w56.frozen? ⟨go54, (x8_2 : Int).toNat * 3 + 1, none⟩ = false := hfr54 1; have hf54_2 : w56.frozen? ⟨go54, (x8_2 : Int).toNat * 3 + 2, none⟩ = false := hfr54 2; clear hcl54 hcc54 hfr54 hM54; replace p54 := eq_true p54; replace q54 := eq_true q54; have HX57 := Aside0.mk (show Kd.R k43 43 w56 w.heap.size (fun _ => True) (.slice (some ⟨go54, 0, none⟩) x3_2.length co55) x3_2 from (rp_ HO_3.out)); obtain ⟨ce57, hcl57, hM57, hcc57, hfr57⟩ := Kd.R_elem HX57.out z43 (x8_2 : Int) (od_) (by have h_ : (x8_2 : Int) < ((x3_2.length : Int) : Int) := od_; first | exact h_ | (have e_ := (Kd.R_reads' HO_3.out).1; omega) | simpa using h_); obtain rfl := k43_openM hM57; have HP57 := Kd.R_seg HX57.out (x8_2 : Int) (od_) (by have h_ : (x8_2 : Int) < ((x3_2.length : Int) : Int) := od_; first | exact h_ | (have e_ := (Kd.R_reads' HO_3.out).1; omega) | simpa using h_) (seg := [.string (⟨#[]⟩ : ByteArray)]) (j := 2) hcl57 hcc57 (show 3 ≤ 3 from by decide) (x' := (⟨(rd_T43 x3_2 x8_2).f0, (rd_T43 x3_2 x8_2).f1, (⟨#[]⟩ : ByteArray)⟩ : S43)) (k43_mkM _ _ _ (⟨(rd_T43 x3_2 x8_2).f0, (rd_T43 x3_2 x8_2).f1, (⟨#[]⟩ : ByteArray)⟩ : S43) ) (fun _ hk => hk); have hx57_2 := hcc57 2 _ rfl; (try simp only [show (k43).sz = 3 from rfl, Nat.mul_one, Nat.add_zero] at hx57_2); have hf57_2 := hfr57 2; (try simp only [show (k43).sz = 3 from rfl, Nat.mul_one, Nat.add_zero] at hf57_2); clear hcl57 hcc57 hfr57 hM57) | ((with_reducible refine gate_store (t := 9) (p := 80) rfl ?_); refine store_event (t := 9) (p := 80) (v := ?vo_w58) (w1 := (w56.setCell ⟨go54, (x8_2 : Int).toNat * 3 + 2, none⟩ (.string (⟨#[]⟩ : ByteArray)))) ?hg ?ho ?hn ?hr ?_; (case ho => rfl); (case hg => rfl); (case hn => rfl); (case hr => first | (go_simp; done) | (go_simp; rfl)); intro w58 hw; have hg : w56.grownBy w58 (some go54) := (by rw [hw]; exact HP57.2); have hp_ : Kd.R k43 43 w58 w.heap.size (fun _ => True) (.slice (some ⟨go54, 0, none⟩) x3_2.length co55) y407 := (by rw [hw, Ny407.out]; exact HP57.1); clear HP57; have n0_ := Aside0.mk (hp_); have n1_ := Aside0.mk (IsS106.grown (is_HI0) hg (IsS106.own_ne HI0.out HO_3.out (by decide))); have n2_ := Aside0.mk ((by rw [hw]; exact below_set (HB.out) (Nat.le_trans HL.out GB54.out) : Below w0.heap.size w0 w58)); have n3_ := Aside0.mk (KeepBut.trans (ke_) (KeepBut.of_grown hg g) (Kd.R_base2 HO_3.out)); clear HO_3; clear HI0; clear HB; clear HK; have HO_3 := n0_; have HI0 := n1_; have HB := n2_; have HK := n3_; clear n0_ n1_ n2_ n3_; clear hg hw hp_))
          go_roundg k2
          case measure => have := HK1.out; have := HK2.out; omega
          case rel => exact ⟨(y407), (wrap64 (x8_2 + 1)), (t406), (si_), H', ⟨by have := HK1.out; have := HK2.out; omega⟩, ⟨by (with_reducible repeat (first | apply Kd.R_alloc | apply Kd.R_drewN | apply Kd.R_drew)); exact HO_3.out⟩, ⟨is_HI0⟩, ⟨ke_⟩, ⟨bel_⟩⟩
         ·rw [if_neg c53] at H
          have c53b0 : (t405 == 0) = false := beq_eq_false_iff_ne.mpr c53
          have c53b1 : (t405 != 0) = true := bne_iff_ne.mpr c53
          have H' := Aside0.mk H
          clear H
          obtain ⟨Ao59, co59, eo59⟩ := Kd.R_slice HO_3.out
          subst eo59
          have p403 : 0 ≤ (x8_2 : Int) := od_
          have q403 : x8_2 < (x3_2.length : Int) := od_
          obtain ⟨ad403, e403, hx403_0, hx403_1, hx403_2⟩ := at_T43 (Kd.R_reads' HO_3.out).2.2 x8_2 p403 q403
          cases e403
          replace p403 := eq_true p403
          replace q403 := eq_true q403
          go_wp2_with (first | ((with_reducible refine gate_callee (f := 51) rfl ?_); refine gl_ 70 Tryd.func51 #[.string ((rd_T43 x3_2 x8_2).f2)] ?_; (with_reducible refine (spec_l1Text.calls k2 ((rd_T43 x3_2 x8_2).f2) false _ A49.out).mono ?_); rintro e w' ⟨rfl, ⟨nd, rfl⟩⟩; refine ⟨_, rfl, ?_⟩) | (go_at_call 72; (with_reducible refine (spec_l6Rd_pick.calls k2 g s0_0 x1001_2 2 t405 t406 w0 _ ?side1 ?side2 A52.out).mono ?_); (case side1 => exact is_HI0); (case side2 => exact bel_); rintro e w60 ⟨rfl, hi, hb, hk⟩; replace HO_3 := Aside0.mk (Kd.R_mono (Kd.R_keep (IsS106.apart (show IsS106 w0 _ g s0_0 x1001_2 from is_HI0) (rp_ HO_3.out) (by decide)) hk (fun _ h => h.2)) (fun _ h => h.1)); replace HK := Aside0.mk (KeepBut.trans (ke_) hk (.inl rfl)); replace HB := Aside0.mk (hb); replace HI0 := Aside0.mk (hi); (try clear hb hk hi)))
          go_roundg k2
          case measure => have := HK1.out; have := HK2.out; omega
          case rel => exact ⟨(x3_2), (wrap64 (x8_2 + 1)), (t406), (si_), H', ⟨by have := HK1.out; have := HK2.out; omega⟩, ⟨by (with_reducible repeat (first | apply Kd.R_alloc | apply Kd.R_drewN | apply Kd.R_drew)); exact HO_3.out⟩, ⟨is_HI0⟩, ⟨ke_⟩, ⟨bel_⟩⟩
       ·rw [if_neg c48] at H
        exact absurd H (by simp)
      ·rw [if_neg c47] at H
       have c47b0 : decide (x8_2 < (x3_2.length : Int)) = false := decide_eq_false c47
       clear c47
       replace H := Option.bind_eq_some_iff.mp H
       obtain ⟨⟨t408, t409⟩, A610, H⟩ := H
       try dsimp only at H
       have A61 := Aside0.mk A610
       clear A610
       by_cases c62 : t408 = 0
       ·rw [if_pos c62] at H
        have c62b0 : (t408 == 0) = true := beq_iff_eq.mpr c62
        have c62b1 : (t408 != 0) = false := bne_eq_false_iff_eq.mpr c62
        clear c62
        replace H := Option.bind_eq_some_iff.mp H
        obtain ⟨⟨t410, t411⟩, A630, H⟩ := H
        try dsimp only at H
        have A63 := Aside0.mk A630
        clear A630
        replace H := Option.bind_eq_some_iff.mp H
        obtain ⟨⟨t412, t413⟩, A640, H⟩ := H
        try dsimp only at H
        have A64 := Aside0.mk A640
        clear A640
        by_cases c65 : 0 ≤ t410
        ·rw [if_pos c65] at H
         have c65b0 : decide (0 ≤ t410) = true := decide_eq_true c65
         clear c65
         by_cases c66 : t410 < (x3_2.length : Int)
         ·rw [if_pos c66] at H
          have c66b0 : decide (t410 < (x3_2.length : Int)) = true := decide_eq_true c66
          clear c66
          obtain ⟨y414, hy414⟩ : ∃ y_ : List (S43), y_ = (x3_2.set (t410 : Int).toNat (⟨(rd_T43 x3_2 t410).f0, t412, (rd_T43 x3_2 t410).f2⟩ : S43)) := ⟨_, rfl⟩
          replace H : (some (y414, t413)) = some (r1, r2) := by first | (rw [hy414]; with_reducible exact H) | (have H2_ := (Option.bind_some _ _).symm.trans H; rw [hy414]; with_reducible exact H2_) | (have H2_ := (Option.bind_some _ _).symm.trans H; with_reducible exact H2_) | with_reducible exact H | (rw [hy414]; exact H) | exact H
          have Ny414 := Aside0.mk hy414
          clear hy414
          simp only [Option.some.injEq, Prod.mk.injEq] at H
          obtain ⟨rfl, rfl⟩ := H
          obtain ⟨Ao68, co68, eo68⟩ := Kd.R_slice HO_3.out
          subst eo68
          go_wp2_with (first | ((with_reducible refine gate_callee (f := 72) rfl ?_); refine gl_ 82 Tryd.func72 #[.pointer (some ⟨g, 0, none⟩), .int .i64 24] ?_; (with_reducible refine (spec_l6Rd_pick.calls k2 g s0_0 x1001_2 24 t408 t409 w0 _ ?side1 ?side2 A61.out).mono ?_); (case side1 => exact is_HI0); (case side2 => exact bel_); rintro e w69 ⟨rfl, hi, hb, hk⟩; refine ⟨_, rfl, ?_⟩; replace HO_3 := Aside0.mk (Kd.R_mono (Kd.R_keep (IsS106.apart (show IsS106 w0 _ g s0_0 x1001_2 from is_HI0) (rp_ HO_3.out) (by decide)) hk (fun _ h => h.2)) (fun _ h => h.1)); replace HK := Aside0.mk (KeepBut.trans (ke_) hk (.inl rfl)); replace HB := Aside0.mk (hb); replace HI0 := Aside0.mk (hi); (try clear hb hk hi)) | ((with_reducible refine gate_callee (f := 72) rfl ?_); refine gl_ 89 Tryd.func72 #[.pointer (some ⟨g, 0, none⟩), .int .i64 (x3_2.length : Int)] ?_; (with_reducible refine (spec_l6Rd_pick.calls k2 g s0_0 t409 (x3_2.length : Int) t410 t411 w0 _ ?side1 ?side2 A63.out).mono ?_); (case side1 => exact is_HI0); (case side2 => exact bel_); rintro e w70 ⟨rfl, hi, hb, hk⟩; refine ⟨_, rfl, ?_⟩; replace HO_3 := Aside0.mk (Kd.R_mono (Kd.R_keep (IsS106.apart (show IsS106 w0 _ g s0_0 t409 from is_HI0) (rp_ HO_3.out) (by decide)) hk (fun _ h => h.2)) (fun _ h => h.1)); replace HK := Aside0.mk (KeepBut.trans (ke_) hk (.inl rfl)); replace HB := Aside0.mk (hb); replace HI0 := Aside0.mk (hi); (try clear hb hk hi)) | ((with_reducible refine gate_callee (f := 72) rfl ?_); refine gl_ 91 Tryd.func72 #[.pointer (some ⟨g, 0, none⟩), .int .i64 5] ?_; (with_reducible refine (spec_l6Rd_pick.calls k2 g s0_0 t411 5 t412 t413 w0 _ ?side1 ?side2 A64.out).mono ?_); (case side1 => exact is_HI0); (case side2 => exact bel_); rintro e w71 ⟨rfl, hi, hb, hk⟩; refine ⟨_, rfl, ?_⟩; replace HO_3 := Aside0.mk (Kd.R_mono (Kd.R_keep (IsS106.apart (show IsS106 w0 _ g s0_0 t411 from is_HI0) (rp_ HO_3.out) (by decide)) hk (fun _ h => h.2)) (fun _ h => h.1)); replace HK := Aside0.mk (KeepBut.trans (ke_) hk (.inl rfl)); replace HB := Aside0.mk (hb); replace HI0 := Aside0.mk (hi); (try clear hb hk hi); have p67 : 0 ≤ (t410 : Int) := od_; have q67 : (t410 : Int) < ((x3_2.length : Int) : Int) := od_; obtain ⟨go67, co67, eo67, gb67, gl67, cl67, HG67⟩ := Kd.R_form HO_3.out (by omega); (first | cases eo67 | (injection eo67 with ea_ en_ ec_; (first | subst ea_ | (injection ea_ with ea_; subst ea_)); subst ec_; clear en_)); have GB67 := Aside0.mk gb67; have GG67 := Aside0.mk HG67; clear gb67 gl67 HG67; obtain ⟨ce67, hcl67, hM67, hcc67, hfr67⟩ := Kd.R_elem HO_3.out z43 (t410 : Int) p67 q67; obtain rfl := k43_openM hM67; have hx67_0 : w71.cell? ⟨go67, (t410 : Int).toNat * 3, none⟩ = some (.int .i64 ((rd_T43 x3_2 t410).f0)) := hcc67 0 _ rfl; have hx67_1 : w71.cell? ⟨go67, (t410 : Int).toNat * 3 + 1, none⟩ = some (.int .i64 ((rd_T43 x3_2 t410).f1)) := hcc67 1 _ rfl; have hx67_2 : w71.cell? ⟨go67, (t410 : Int).toNat * 3 + 2, none⟩ = some (.string ((rd_T43 x3_2 t410).f2)) := hcc67 2 _ rfl; have hf67_0 : w71.frozen? ⟨go67, (t410 : Int).toNat * 3, none⟩ = false := hfr67 0; have hf67_1 : w71.frozen? ⟨go67, (t410 : Int).toNat * 3 + 1, none⟩ = false := hfr67 1; have hf67_2 : w71.frozen? ⟨go67, (t410 : Int).toNat * 3 + 2, none⟩ = false := hfr67 2; clear hcl67 hcc67 hfr67 hM67; replace p67 := eq_true p67; replace q67 := eq_true q67; have HX72 := Aside0.mk (show Kd.R k43 43 w71 w.heap.size (fun _ => True) (.slice (some ⟨go67, 0, none⟩) x3_2.length co68) x3_2 from (rp_ HO_3.out)); obtain ⟨ce72, hcl72, hM72, hcc72, hfr72⟩ := Kd.R_elem HX72.out z43 (t410 : Int) (od_) (by have h_ : (t410 : Int) < ((x3_2.length : Int) : Int) := od_; first | exact h_ | (have e_ := (Kd.R_reads' HO_3.out).1; omega) | simpa using h_); obtain rfl := k43_openM hM72; have HP72 := Kd.R_seg HX72.out (t410 : Int) (od_) (by have h_ : (t410 : Int) < ((x3_2.length : Int) : Int) := od_; first | exact h_ | (have e_ := (Kd.R_reads' HO_3.out).1; omega) | simpa using h_) (seg := [.int .i64 t412]) (j := 1) hcl72 hcc72 (show 2 ≤ 3 from by decide) (x' := (⟨(rd_T43 x3_2 t410).f0, t412, (rd_T43 x3_2 t410).f2⟩ : S43)) (k43_mkM _ _ _ (⟨(rd_T43 x3_2 t410).f0, t412, (rd_T43 x3_2 t410).f2⟩ : S43) ) (fun _ hk => hk); have hx72_1 := hcc72 1 _ rfl; (try simp only [show (k43).sz = 3 from rfl, Nat.mul_one, Nat.add_zero] at hx72_1); have hf72_1 := hfr72 1; (try simp only [show (k43).sz = 3 from rfl, Nat.mul_one, Nat.add_zero] at hf72_1); clear hcl72 hcc72 hfr72 hM72) | ((with_reducible refine gate_store (t := 3) (p := 93) rfl ?_); refine store_event (t := 3) (p := 93) (v := ?vo_w73) (w1 := (w71.setCell ⟨go67, (t410 : Int).toNat * 3 + 1, none⟩ (.int .i64 t412))) ?hg ?ho ?hn ?hr ?_; (case ho => rfl); (case hg => rfl); (case hn => rfl); (case hr => first | (go_simp; done) | (go_simp; rfl)); intro w73 hw; have hg : w71.grownBy w73 (some go67) := (by rw [hw]; exact HP72.2); have hp_ : Kd.R k43 43 w73 w.heap.size (fun _ => True) (.slice (some ⟨go67, 0, none⟩) x3_2.length co68) y414 := (by rw [hw, Ny414.out]; exact HP72.1); clear HP72; have n0_ := Aside0.mk (hp_); have n1_ := Aside0.mk (IsS106.grown (is_HI0) hg (IsS106.own_ne HI0.out HO_3.out (by decide))); have n2_ := Aside0.mk ((by rw [hw]; exact below_set (HB.out) (Nat.le_trans HL.out GB67.out) : Below w0.heap.size w0 w73)); have n3_ := Aside0.mk (KeepBut.trans (ke_) (KeepBut.of_grown hg g) (Kd.R_base2 HO_3.out)); clear HO_3; clear HI0; clear HB; clear HK; have HO_3 := n0_; have HI0 := n1_; have HB := n2_; have HK := n3_; clear n0_ n1_ n2_ n3_; clear hg hw hp_))
          go_ret
          exact ⟨_, fi_, Kd.Q_of_R (rp_ HO_3.out), is_HI0, bel_, ke_⟩
         ·rw [if_neg c66] at H
          exact absurd H (by simp)
        ·rw [if_neg c65] at H
         exact absurd H (by simp)
       ·rw [if_neg c62] at H
        have c62b0 : (t408 == 0) = false := beq_eq_false_iff_ne.mpr c62
        have c62b1 : (t408 != 0) = true := bne_iff_ne.mpr c62
        by_cases c74 : t408 = 1
        ·rw [if_pos c74] at H
         have c74b0 : (t408 == 1) = true := beq_iff_eq.mpr c74
         have c74b1 : (t408 != 1) = false := bne_eq_false_iff_eq.mpr c74
         clear c74
         replace H := Option.bind_eq_some_iff.mp H
         obtain ⟨⟨t415, t416⟩, A750, H⟩ := H
         try dsimp only at H
         have A75 := Aside0.mk A750
         clear A750
         by_cases c76 : 0 ≤ t415
         ·rw [if_pos c76] at H
          have c76b0 : decide (0 ≤ t415) = true := decide_eq_true c76
          clear c76
          by_cases c77 : t415 < (x3_2.length : Int)
          ·rw [if_pos c77] at H
           have c77b0 : decide (t415 < (x3_2.length : Int)) = true := decide_eq_true c77
           clear c77
           by_cases c78 : x3_2.length < 4398046511104
           ·rw [if_pos c78] at H
            have LMc78 := Aside0.mk c78
            clear c78
            obtain ⟨y418, hy418⟩ : ∃ y_ : List (S43), y_ = (x3_2 ++ [(⟨(rd_T43 x3_2 t415).f0, (rd_T43 x3_2 t415).f1, (rd_T43 x3_2 t415).f2⟩ : S43)]) := ⟨_, rfl⟩
            replace H : (some (y418, t416)) = some (r1, r2) := by first | (rw [hy418]; with_reducible exact H) | (have H2_ := (Option.bind_some _ _).symm.trans H; rw [hy418]; with_reducible exact H2_) | (have H2_ := (Option.bind_some _ _).symm.trans H; with_reducible exact H2_) | with_reducible exact H | (rw [hy418]; exact H) | exact H
            have Ny418 := Aside0.mk hy418
            clear hy418
            simp only [Option.some.injEq, Prod.mk.injEq] at H
            obtain ⟨rfl, rfl⟩ := H
            obtain ⟨Ao79, co79, eo79⟩ := Kd.R_slice HO_3.out
            subst eo79
            go_wp2_with (first | ((with_reducible refine gate_callee (f := 72) rfl ?_); refine gl_ 82 Tryd.func72 #[.pointer (some ⟨g, 0, none⟩), .int .i64 24] ?_; (with_reducible refine (spec_l6Rd_pick.calls k2 g s0_0 x1001_2 24 t408 t409 w0 _ ?side1 ?side2 A61.out).mono ?_); (case side1 => exact is_HI0); (case side2 => exact bel_); rintro e w80 ⟨rfl, hi, hb, hk⟩; refine ⟨_, rfl, ?_⟩; replace HO_3 := Aside0.mk (Kd.R_mono (Kd.R_keep (IsS106.apart (show IsS106 w0 _ g s0_0 x1001_2 from is_HI0) (rp_ HO_3.out) (by decide)) hk (fun _ h => h.2)) (fun _ h => h.1)); replace HK := Aside0.mk (KeepBut.trans (ke_) hk (.inl rfl)); replace HB := Aside0.mk (hb); replace HI0 := Aside0.mk (hi); (try clear hb hk hi)) | ((with_reducible refine gate_callee (f := 72) rfl ?_); refine gl_ 101 Tryd.func72 #[.pointer (some ⟨g, 0, none⟩), .int .i64 (x3_2.length : Int)] ?_; (with_reducible refine (spec_l6Rd_pick.calls k2 g s0_0 t409 (x3_2.length : Int) t415 t416 w0 _ ?side1 ?side2 A75.out).mono ?_); (case side1 => exact is_HI0); (case side2 => exact bel_); rintro e w81 ⟨rfl, hi, hb, hk⟩; refine ⟨_, rfl, ?_⟩; replace HO_3 := Aside0.mk (Kd.R_mono (Kd.R_keep (IsS106.apart (show IsS106 w0 _ g s0_0 t409 from is_HI0) (rp_ HO_3.out) (by decide)) hk (fun _ h => h.2)) (fun _ h => h.1)); replace HK := Aside0.mk (KeepBut.trans (ke_) hk (.inl rfl)); replace HB := Aside0.mk (hb); replace HI0 := Aside0.mk (hi); (try clear hb hk hi); have p417 : 0 ≤ (t415 : Int) := od_; have q417 : t415 < (x3_2.length : Int) := od_; obtain ⟨ad417, e417, hx417_0, hx417_1, hx417_2⟩ := at_T43 (Kd.R_reads' HO_3.out).2.2 t415 p417 q417; cases e417; replace p417 := eq_true p417; replace q417 := eq_true q417) | ((with_reducible refine gate_builtin (b := .append) (xs := #[.tmp 96, .tmp 104]) rfl ?_); at_builtin; refine Kd.R_append k43 w.heap.size rfl (.tmp 96) (.tmp 104) 27 43 (.agg #[(.int .i64 0), (.int .i64 0), (.string ⟨#[]⟩)]) 32 rfl Tryd.underlying27 info43 rfl (by decide) (by omega) (.slice (some ad417) x3_2.length co79) x3_2 (⟨(rd_T43 x3_2 t415).f0, (rd_T43 x3_2 t415).f1, (rd_T43 x3_2 t415).f2⟩ : S43) [.int .i64 ((rd_T43 x3_2 t415).f0), .int .i64 ((rd_T43 x3_2 t415).f1), .string ((rd_T43 x3_2 t415).f2)] (fun _ => True) (fun _ => False) rfl rfl ?aP (fun _ hk => hk.elim) ?aF ?aO (Below.refl _ _) ?aS ?aL ?_; (case aP => exact k43_mkM _ _ _ (⟨(rd_T43 x3_2 t415).f0, (rd_T43 x3_2 t415).f1, (rd_T43 x3_2 t415).f2⟩ : S43)); (case aF => exact (fun _ _ => trivial)); (case aO => exact (rp_ HO_3.out)); (case aS => exact (keep_size (w := w) (g := g) (row := none) (ke_))); (case aL => have := LMc78.out; omega); intro v419 w82 ho hb hg hat; rw [← Ny418.out] at ho; replace HB := Aside0.mk (below_weaken (bel_) HL.out hb); replace HI0 := Aside0.mk (IsS106.grown (is_HI0) hg (IsS106.own_ne HI0.out HO_3.out (by decide))); replace HK := Aside0.mk (KeepBut.trans (ke_) (KeepBut.of_grown hg g) (Kd.R_base2 HO_3.out)); have HO420 := Aside0.mk (ho); clear HO_3; clear ho hb hg hat))
            go_ret
            exact ⟨_, fi_, Kd.Q_of_R (rp_ HO420.out), is_HI0, bel_, ke_⟩
           ·rw [if_neg c78] at H
            exact absurd H (by simp)
          ·rw [if_neg c77] at H
           exact absurd H (by simp)
         ·rw [if_neg c76] at H
          exact absurd H (by simp)
        ·rw [if_neg c74] at H
         have c74b0 : (t408 == 1) = false := beq_eq_false_iff_ne.mpr c74
         have c74b1 : (t408 != 1) = true := bne_iff_ne.mpr c74
         by_cases c83 : t408 = 2
         ·rw [if_pos c83] at H
          have c83b0 : (t408 == 2) = true := beq_iff_eq.mpr c83
          have c83b1 : (t408 != 2) = false := bne_eq_false_iff_eq.mpr c83
          clear c83
          by_cases c84 : 1 ≤ (x3_2.length : Int)
          ·rw [if_pos c84] at H
           have c84b0 := eq_true c84
           have c84b1 : decide (1 ≤ (x3_2.length : Int)) = true := decide_eq_true c84
           clear c84
           obtain ⟨y421, hy421⟩ : ∃ y_ : List (S43), y_ = (x3_2.drop (1 : Int).toNat) := ⟨_, rfl⟩
           replace H : (some (y421, t409)) = some (r1, r2) := by first | (rw [hy421]; with_reducible exact H) | (have H2_ := (Option.bind_some _ _).symm.trans H; rw [hy421]; with_reducible exact H2_) | (have H2_ := (Option.bind_some _ _).symm.trans H; with_reducible exact H2_) | with_reducible exact H | (rw [hy421]; exact H) | exact H
           have Ny421 := Aside0.mk hy421
           clear hy421
           simp only [Option.some.injEq, Prod.mk.injEq] at H
           obtain ⟨rfl, rfl⟩ := H
           obtain ⟨Ao85, co85, eo85⟩ := Kd.R_slice HO_3.out
           subst eo85
           go_wp2_with (first | ((with_reducible refine gate_callee (f := 72) rfl ?_); refine gl_ 82 Tryd.func72 #[.pointer (some ⟨g, 0, none⟩), .int .i64 24] ?_; (with_reducible refine (spec_l6Rd_pick.calls k2 g s0_0 x1001_2 24 t408 t409 w0 _ ?side1 ?side2 A61.out).mono ?_); (case side1 => exact is_HI0); (case side2 => exact bel_); rintro e w86 ⟨rfl, hi, hb, hk⟩; refine ⟨_, rfl, ?_⟩; replace HO_3 := Aside0.mk (Kd.R_mono (Kd.R_keep (IsS106.apart (show IsS106 w0 _ g s0_0 x1001_2 from is_HI0) (rp_ HO_3.out) (by decide)) hk (fun _ h => h.2)) (fun _ h => h.1)); replace HK := Aside0.mk (KeepBut.trans (ke_) hk (.inl rfl)); replace HB := Aside0.mk (hb); replace HI0 := Aside0.mk (hi); (try clear hb hk hi); have q87 : (1 : Int) ≤ ((x3_2.length : Int) : Int) := od_; obtain ⟨i087, hi087, _, hsz87, _⟩ := info_parts info43; have hcut87 := cut_from (P := Tryd.prog) 27 43 .i64 Tryd.underlying27 hi087 3 hsz87 Ao85 x3_2.length co85 1 (by omega) q87; have hr87 := Kd.Q_drop (k := (1 : Int).toNat) (Kd.Q_of_R HO_3.out) (by omega); obtain ⟨A87, hA87⟩ : ∃ A1, A1 = (if co85 = (1 : Int).toNat then Ao85 else (Ao85 : Option Addr).map (·.add ((1 : Int).toNat * 3))) := ⟨_, rfl⟩; obtain ⟨c87, hc87⟩ : ∃ c1, c1 = co85 - (1 : Int).toNat := ⟨_, rfl⟩; have hy87 : y421.length = x3_2.length - (1 : Int).toNat := (by rw [Ny421.out, List.length_drop]); rw [← Ny421.out] at hr87; rw [← hy87, ← hA87, ← hc87] at hcut87; replace hr87 : Kd.Q k43 43 w86 w.heap.size (fun _ => True) (.slice A87 y421.length c87) y421 := (by rw [hA87, hc87, hy87]; exact hr87); have HE87 : Aside0 ((Value.slice A87 y421.length c87).ownBlock = (.slice Ao85 x3_2.length co85 : Value).ownBlock) := ⟨by rw [hA87]; split <;> (cases (Ao85 : Option Addr) <;> rfl)⟩; clear hy87 hi087 hsz87 HO_3 hA87 hc87; have HO423 := Aside0.mk hr87; clear hr87; replace q87 := eq_true q87))
           go_ret
           exact ⟨_, fi_, by (with_reducible repeat (first | apply Kd.Q_alloc | apply Kd.Q_drewN | apply Kd.Q_drew)); exact HO423.out, is_HI0, bel_, ke_⟩
          ·rw [if_neg c84] at H
           exact absurd H (by simp)
         ·rw [if_neg c83] at H
          have c83b0 : (t408 == 2) = false := beq_eq_false_iff_ne.mpr c83
          have c83b1 : (t408 != 2) = true := bne_iff_ne.mpr c83
          simp only [Option.some.injEq, Prod.mk.injEq] at H
          obtain ⟨rfl, rfl⟩ := H
          obtain ⟨Ao88, co88, eo88⟩ := Kd.R_slice HO_3.out
          subst eo88
          go_wp2_with (first | ((with_reducible refine gate_callee (f := 72) rfl ?_); refine gl_ 82 Tryd.func72 #[.pointer (some ⟨g, 0, none⟩), .int .i64 24] ?_; (with_reducible refine (spec_l6Rd_pick.calls k2 g s0_0 x1001_2 24 t408 t409 w0 _ ?side1 ?side2 A61.out).mono ?_); (case side1 => exact is_HI0); (case side2 => exact bel_); rintro e w89 ⟨rfl, hi, hb, hk⟩; refine ⟨_, rfl, ?_⟩; replace HO_3 := Aside0.mk (Kd.R_mono (Kd.R_keep (IsS106.apart (show IsS106 w0 _ g s0_0 x1001_2 from is_HI0) (rp_ HO_3.out) (by decide)) hk (fun _ h => h.2)) (fun _ h => h.1)); replace HK := Aside0.mk (KeepBut.trans (ke_) hk (.inl rfl)); replace HB := Aside0.mk (hb); replace HI0 := Aside0.mk (hi); (try clear hb hk hi)))
          go_ret
          exact ⟨_, fi_, Kd.Q_of_R (rp_ HO_3.out), is_HI0, bel_, ke_⟩

mutual
def spec_l71Row.l0 : Nat → List (S43) → Int → List Int → Int → Option ((List (S43)) × Int × Int)
 | 0, _, _, _, _ => none
 | k + 1, x4, x5, x1000, x1001 => if x5 < 6 then ((spec_l6Rd_pick.f k x1000 x1001 12).bind fun bt428 => (spec_l71Row.j1 k x4 x5 (decide (bt428.1 > 0)) x1000 bt428.2)) else (spec_l71Row.j1 k x4 x5 false x1000 x1001)
def spec_l71Row.j1 : Nat → List (S43) → Int → Bool → List Int → Int → Option ((List (S43)) × Int × Int)
 | 0, _, _, _, _, _ => none
 | k + 1, x4, x5, x15, x1000, x1001 => if x15 = true then ((spec_l6Rd_pick.f k x1000 x1001 (x4.length : Int)).bind fun bt438 => (if 0 ≤ bt438.1 then (if bt438.1 < (x4.length : Int) then ((spec_l1Made.f ((rd_T43 x4 bt438.1).f0)).bind fun t441 => (if t441 = true then (some (x4, (rd_T43 x4 bt438.1).f0, bt438.2)) else (if x5 = 3 then ((spec_l71Tree.f k x1000 bt438.2).bind fun bt442 => (spec_l71Row.l0 k bt442.1 (wrap64 (x5 + 1)) x1000 bt442.2)) else (spec_l71Row.l0 k x4 (wrap64 (x5 + 1)) x1000 bt438.2)))) else (none)) else (none))) else ((spec_l71Id.f k x1000 x1001).bind fun bt430 => ((some (([1, 2, 3, bt430.1, 0] : List Int) : List Int)).bind fun y432 => ((spec_l6Rd_pick.f k x1000 bt430.2 5).bind fun bt435 => (if 0 ≤ bt435.1 then (if bt435.1 < (y432.length : Int) then (some (x4, rd y432 bt435.1, bt435.2)) else (none)) else (none)))))
end
def spec_l71Row.f (k : Nat) (s0_0 : List Int) (s0_1 : Int) : Option ((List (S43)) × Int × Int) := (spec_l71Tree.f k s0_0 s0_1).bind fun bt424 => (spec_l71Row.l0 k bt424.1 0 s0_0 bt424.2)
theorem spec_l71Row.mono_l : ∀ k, (∀ y0 y1 y2 y3, LeO (spec_l71Row.l0 k y0 y1 y2 y3) (spec_l71Row.l0 (k + 1) y0 y1 y2 y3)) ∧ (∀ y0 y1 y2 y3 y4, LeO (spec_l71Row.j1 k y0 y1 y2 y3 y4) (spec_l71Row.j1 (k + 1) y0 y1 y2 y3 y4))
 | 0 => ⟨fun _ _ _ _ r h => by simp [spec_l71Row.l0] at h, fun _ _ _ _ _ r h => by simp [spec_l71Row.j1] at h⟩
 | k + 1 => by
  obtain ⟨ih0, ih1⟩ := spec_l71Row.mono_l k
  refine ⟨?_, ?_⟩
  all_goals intros
  all_goals first | unfold spec_l71Row.l0 | unfold spec_l71Row.j1
  all_goals repeat' first
  | (with_reducible exact ih0 _ _ _ _)
  | (with_reducible exact ih1 _ _ _ _ _)
  | (with_reducible exact spec_l6Rd_pick.mono _ _ _ _)
  | (with_reducible exact spec_l71Id.mono _ _ _)
  | (with_reducible exact spec_l71Tree.mono _ _ _)
  | (with_reducible exact LeO.refl _)
  | (with_reducible exact LeO.none _)
  | (with_reducible refine LeO.ite ?_ ?_)
  | (with_reducible refine LeO.bind ?_ (fun _ => ?_))
  | exact ih0 _ _ _ _
  | exact ih1 _ _ _ _ _
  | exact spec_l6Rd_pick.mono _ _ _ _
  | exact spec_l71Id.mono _ _ _
  | exact spec_l71Tree.mono _ _ _
  | exact LeO.none _
  | refine LeO.ite ?_ ?_
  | refine LeO.bind ?_ (fun _ => ?_)
theorem spec_l71Row.mono : ∀ a0 a1 k, LeO (spec_l71Row.f k a0 a1) (spec_l71Row.f (k + 1) a0 a1) := by
 intro a0 a1 k
 obtain ⟨ih0, ih1⟩ := spec_l71Row.mono_l k
 unfold spec_l71Row.f
 repeat' first
   | (with_reducible exact ih0 _ _ _ _)
   | (with_reducible exact ih1 _ _ _ _ _)
   | (with_reducible exact spec_l6Rd_pick.mono _ _ _ _)
   | (with_reducible exact spec_l71Id.mono _ _ _)
   | (with_reducible exact spec_l71Tree.mono _ _ _)
   | (with_reducible exact LeO.refl _)
   | (with_reducible exact LeO.none _)
   | (with_reducible refine LeO.ite ?_ ?_)
   | (with_reducible refine LeO.bind ?_ (fun _ => ?_))
   | exact ih0 _ _ _ _
   | exact ih1 _ _ _ _ _
   | exact spec_l6Rd_pick.mono _ _ _ _
   | exact spec_l71Id.mono _ _ _
   | exact spec_l71Tree.mono _ _ _
   | exact LeO.none _
   | refine LeO.ite ?_ ?_
   | refine LeO.bind ?_ (fun _ => ?_)
def spec_l71Row.T10 : Bool × List (List Nat × List Nat) := (true, [([], []), ([], []), ([1], [1]), ([2], [2]), ([], []), ([4, 2], [4]), ([3, 5], [3, 5]), ([6], [6]), ([0, 5, 0], [0]), ([7, 8, 0, 1, 2, 3, 4, 5, 6, 7, 8], [7])])
def spec_l71Row.B10 : List Nat := [0, 0, 2, 6, 0, 22, 62, 126, 55, 511]
theorem spec_l71Row.tab10 : rtab .any (opsOf Tryd.f70 10) = spec_l71Row.T10 := by kernel_rfl
theorem spec_l71Row.bits10 : waitsOk spec_l71Row.T10.2 spec_l71Row.B10 = true := by kernel_rfl
set_option maxHeartbeats 8000000 in
set_option maxRecDepth 100000 in
theorem spec_l71Row.calls (k : Nat) (g : Nat) (s0_0 : List Int) (s0_1 : Int) (r1 : List (S43)) (r2 : Int) (r3 : Int) (w0 w : World) (hI : IsS106 w0 w g s0_0 s0_1) (hB : Below w0.heap.size w0 w) (h : spec_l71Row.f k s0_0 s0_1 = some (r1, r2, r3)) :
  Calls Tryd.prog 70 #[.pointer (some ⟨g, 0, none⟩)] w fun e w' => ∃ v0_ : Value, e = .returned (.tuple #[v0_, .int .i64 r2]) ∧ Kd.Q k43 43 w' w.heap.size (fun _ => True) v0_ r1 ∧ IsS106 w0 w' g s0_0 r3 ∧ Below w0.heap.size w0 w' ∧ KeepBut w w' g none := by
 have HI0 := Aside0.mk hI
 have HK := Aside0.mk (KeepBut.refl w g none)
 have HL := Aside0.mk hB.size
 clear hI
 have HW0 := Aside0.mk hB.size
 have HB := Aside0.mk hB
 clear hB
 unfold spec_l71Row.f at h
 have H := h
 clear h
 replace H := Option.bind_eq_some_iff.mp H
 obtain ⟨⟨t424, t427⟩, A20, H⟩ := H
 try dsimp only at H
 have A2 := Aside0.mk A20
 clear A20
 have H' := Aside0.mk H
 clear H
 go_enter Tryd.func70, Tryd.ntmps70
 go_wp2_with (first | ((with_reducible refine gate_callee (f := 82) rfl ?_); refine gl_ 8 Tryd.func82 #[.pointer (some ⟨g, 0, none⟩)] ?_; (with_reducible refine (spec_l71Tree.calls k g s0_0 s0_1 t424 t427 w0 _ ?side1 ?side2 A2.out).mono ?_); (case side1 => exact is_HI0); (case side2 => exact bel_); rintro e w3 ⟨v425, rfl, ho0, hi, hb, hk⟩; refine ⟨_, rfl, ?_⟩; have HO426 := Aside0.mk (Kd.Q_lower ho0 (keep_size (w := w) (g := g) (row := none) (ke_))); replace HK := Aside0.mk (KeepBut.trans (ke_) hk (.inl rfl)); replace HB := Aside0.mk (hb); replace HI0 := Aside0.mk (hi); (try clear hb hk hi ho0)))
 go_loopg [4, 5] k (fun kq v4 v5 w' => ∃ (x4_1 : List (S43)) (x5_1 : Int) (x1001_1 : Int), v5 = .int .i64 x5_1 ∧ Aside0 (spec_l71Row.l0 kq x4_1 x5_1 s0_0 x1001_1 = some (r1, r2, r3)) ∧ Aside0 (kq ≤ k) ∧ Aside0 (Kd.Q k43 43 w' w.heap.size (fun _ => True) v4 x4_1) ∧ Aside0 (IsS106 w0 w' g s0_0 x1001_1) ∧ Aside0 (KeepBut w w' g none) ∧ Aside0 (Below w0.heap.size w0 w'))
 case atStart => exact ⟨(t424), (0), (t427), (si_), H', ⟨Nat.le_refl _⟩, ⟨by (with_reducible repeat (first | apply Kd.Q_alloc | apply Kd.Q_drewN | apply Kd.Q_drew)); exact HO426.out⟩, ⟨is_HI0⟩, ⟨ke_⟩, ⟨bel_⟩⟩
 case round =>
  clear H'
  try clear p2
  obtain ⟨x4_1, x5_1, x1001_1, rfl, HA, HK1, HO_4, HI0, HK, HB⟩ := hrel
  cases gk with
  | zero => exact absurd HA.out (by simp [spec_l71Row.l0])
  | succ k1 =>
   have H := HA.out
   clear HA
   simp only [spec_l71Row.l0] at H
   have HC4 := Aside0.mk H
   clear H
   go_upto_region 3 with (fail)
   go_cut [15] (fun v15 wc => ∃ (kq : Nat) (x15_3 : Bool) (x1001_3 : Int), v15 = .bool x15_3 ∧ Aside0 (spec_l71Row.j1 kq x4_1 x5_1 x15_3 s0_0 x1001_3 = some (r1, r2, r3)) ∧ Aside0 (kq ≤ k1) ∧ Aside0 (Kd.Q k43 43 wc w.heap.size (fun _ => True) u4 x4_1) ∧ Aside0 (IsS106 w0 wc g s0_0 x1001_3) ∧ Aside0 (KeepBut w wc g none) ∧ Aside0 (Below w0.heap.size w0 wc))
   case first =>
    have H := HC4.out
    clear HC4
    by_cases c5 : x5_1 < 6
    ·rw [if_pos c5] at H
     have c5b0 : decide (x5_1 < 6) = true := decide_eq_true c5
     clear c5
     (first | rw [c5b0] | (simp only [i64_w, i32_w]; rw [c5b0]) | skip)
     replace H := Option.bind_eq_some_iff.mp H
     obtain ⟨⟨t428, t429⟩, A60, H⟩ := H
     try dsimp only at H
     have A6 := Aside0.mk A60
     clear A60
     have H' := Aside0.mk H
     clear H
     go_wp2_with (first | (go_at_call 72; (with_reducible refine (spec_l6Rd_pick.calls k1 g s0_0 x1001_1 12 t428 t429 w0 _ ?side1 ?side2 A6.out).mono ?_); (case side1 => exact is_HI0); (case side2 => exact bel_); rintro e w7 ⟨rfl, hi, hb, hk⟩; replace HO_4 := Aside0.mk (Kd.Q_mono (Kd.Q_keep (IsS106.apartQ (show IsS106 w0 _ g s0_0 x1001_1 from is_HI0) (qp_ HO_4.out) (by decide)) hk (fun _ h => h.2)) (fun _ h => h.1)); replace HK := Aside0.mk (KeepBut.trans (ke_) hk (.inl rfl)); replace HB := Aside0.mk (hb); replace HI0 := Aside0.mk (hi); (try clear hb hk hi)))
     go_meet
     case rel => exact ⟨_, (decide (t428 > 0)), (t429), (si_), H', ⟨by have := HK1.out; first | omega | exact Nat.le_refl _⟩, ⟨by (with_reducible repeat (first | apply Kd.Q_alloc | apply Kd.Q_drewN | apply Kd.Q_drew)); exact HO_4.out⟩, ⟨is_HI0⟩, ⟨ke_⟩, ⟨bel_⟩⟩
    ·rw [if_neg c5] at H
     have c5b0 : decide (x5_1 < 6) = false := decide_eq_false c5
     clear c5
     (first | rw [c5b0] | (simp only [i64_w, i32_w]; rw [c5b0]) | skip)
     have H' := Aside0.mk H
     clear H
     go_wp2
     go_meet
     case rel => exact ⟨_, (false), (x1001_1), (si_), H', ⟨by have := HK1.out; first | omega | exact Nat.le_refl _⟩, ⟨by (with_reducible repeat (first | apply Kd.Q_alloc | apply Kd.Q_drewN | apply Kd.Q_drew)); exact HO_4.out⟩, ⟨is_HI0⟩, ⟨ke_⟩, ⟨bel_⟩⟩
   case rest =>
    clear HC4
    try clear p2
    try clear c5
    try clear c5b0
    try clear c7
    try clear p2
    obtain ⟨kq, x15_3, x1001_3, rfl, HA, HJ3, HO_4, HI0, HK, HB⟩ := hcut
    cases kq with
    | zero => exact absurd HA.out (by simp [spec_l71Row.j1])
    | succ kj3 =>
     have H := HA.out
     clear HA
     simp only [spec_l71Row.j1] at H
     by_cases c8 : x15_3 = true
     ·subst c8
      have H1 : ((spec_l6Rd_pick.f kj3 s0_0 x1001_3 (x4_1.length : Int)).bind fun bt438 => (if 0 ≤ bt438.1 then (if bt438.1 < (x4_1.length : Int) then ((spec_l1Made.f ((rd_T43 x4_1 bt438.1).f0)).bind fun t441 => (if t441 = true then (some (x4_1, (rd_T43 x4_1 bt438.1).f0, bt438.2)) else (if x5_1 = 3 then ((spec_l71Tree.f kj3 s0_0 bt438.2).bind fun bt442 => (spec_l71Row.l0 kj3 bt442.1 (wrap64 (x5_1 + 1)) s0_0 bt442.2)) else (spec_l71Row.l0 kj3 x4_1 (wrap64 (x5_1 + 1)) s0_0 bt438.2)))) else (none)) else (none))) = some (r1, r2, r3) := by rw [if_pos rfl] at H; exact H
      clear H
      have H := H1
      clear H1
      replace H := Option.bind_eq_some_iff.mp H
      obtain ⟨⟨t438, t439⟩, A90, H⟩ := H
      try dsimp only at H
      have A9 := Aside0.mk A90
      clear A90
      by_cases c10 : 0 ≤ t438
      ·rw [if_pos c10] at H
       have c10b0 : decide (0 ≤ t438) = true := decide_eq_true c10
       clear c10
       by_cases c11 : t438 < (x4_1.length : Int)
       ·rw [if_pos c11] at H
        have c11b0 : decide (t438 < (x4_1.length : Int)) = true := decide_eq_true c11
        clear c11
        replace H := Option.bind_eq_some_iff.mp H
        obtain ⟨t441, A120, H⟩ := H
        try dsimp only at H
        have A12 := Aside0.mk A120
        clear A120
        by_cases c13 : t441 = true
        ·subst c13
         have H1 : (some (x4_1, (rd_T43 x4_1 t438).f0, t439)) = some (r1, r2, r3) := by rw [if_pos rfl] at H; exact H
         clear H
         have H := H1
         clear H1
         simp only [Option.some.injEq, Prod.mk.injEq] at H
         obtain ⟨rfl, rfl, rfl⟩ := H
         obtain ⟨Ao14, co14, eo14, _⟩ := Kd.Q_slice HO_4.out
         subst eo14
         go_wp2_with (first | ((with_reducible refine gate_callee (f := 72) rfl ?_); refine gl_ 22 Tryd.func72 #[.pointer (some ⟨g, 0, none⟩), .int .i64 (x4_1.length : Int)] ?_; (with_reducible refine (spec_l6Rd_pick.calls kj3 g s0_0 x1001_3 (x4_1.length : Int) t438 t439 w0 _ ?side1 ?side2 A9.out).mono ?_); (case side1 => exact is_HI0); (case side2 => exact bel_); rintro e w15 ⟨rfl, hi, hb, hk⟩; refine ⟨_, rfl, ?_⟩; replace HO_4 := Aside0.mk (Kd.Q_mono (Kd.Q_keep (IsS106.apartQ (show IsS106 w0 _ g s0_0 x1001_3 from is_HI0) (qp_ HO_4.out) (by decide)) hk (fun _ h => h.2)) (fun _ h => h.1)); replace HK := Aside0.mk (KeepBut.trans (ke_) hk (.inl rfl)); replace HB := Aside0.mk (hb); replace HI0 := Aside0.mk (hi); (try clear hb hk hi); have p440 : 0 ≤ (t438 : Int) := od_; have q440 : t438 < (x4_1.length : Int) := od_; obtain ⟨ad440, e440, hx440_0, hx440_1, hx440_2⟩ := at_T43 (Kd.Q_reads' HO_4.out).2.2 t438 p440 q440; cases e440; replace p440 := eq_true p440; replace q440 := eq_true q440) | ((with_reducible refine gate_callee (f := 50) rfl ?_); refine gl_ 27 Tryd.func50 #[.int .i64 ((rd_T43 x4_1 t438).f0)] ?_; (with_reducible refine (spec_l1Made.calls ((rd_T43 x4_1 t438).f0) true _ A12.out).mono ?_); rintro e w' ⟨rfl, ⟨nd, rfl⟩⟩; refine ⟨_, rfl, ?_⟩))
         go_ret2
         exact ⟨_, fi_, by (with_reducible repeat (first | apply Kd.Q_alloc | apply Kd.Q_drewN | apply Kd.Q_drew)); exact HO_4.out, is_HI0, bel_, ke_⟩
        ·replace c13 := Bool.eq_false_iff.mpr c13
         subst c13
         have H1 : (if x5_1 = 3 then ((spec_l71Tree.f kj3 s0_0 t439).bind fun bt442 => (spec_l71Row.l0 kj3 bt442.1 (wrap64 (x5_1 + 1)) s0_0 bt442.2)) else (spec_l71Row.l0 kj3 x4_1 (wrap64 (x5_1 + 1)) s0_0 t439)) = some (r1, r2, r3) := by rw [if_neg (show ¬ (false = true) by decide)] at H; exact H
         clear H
         have H := H1
         clear H1
         by_cases c16 : x5_1 = 3
         ·rw [if_pos c16] at H
          have c16b0 : (x5_1 == 3) = true := beq_iff_eq.mpr c16
          have c16b1 : (x5_1 != 3) = false := bne_eq_false_iff_eq.mpr c16
          clear c16
          replace H := Option.bind_eq_some_iff.mp H
          obtain ⟨⟨t442, t445⟩, A170, H⟩ := H
          try dsimp only at H
          have A17 := Aside0.mk A170
          clear A170
          have H' := Aside0.mk H
          clear H
          obtain ⟨Ao18, co18, eo18, _⟩ := Kd.Q_slice HO_4.out
          subst eo18
          go_wp2_with (first | ((with_reducible refine gate_callee (f := 72) rfl ?_); refine gl_ 22 Tryd.func72 #[.pointer (some ⟨g, 0, none⟩), .int .i64 (x4_1.length : Int)] ?_; (with_reducible refine (spec_l6Rd_pick.calls kj3 g s0_0 x1001_3 (x4_1.length : Int) t438 t439 w0 _ ?side1 ?side2 A9.out).mono ?_); (case side1 => exact is_HI0); (case side2 => exact bel_); rintro e w19 ⟨rfl, hi, hb, hk⟩; refine ⟨_, rfl, ?_⟩; replace HO_4 := Aside0.mk (Kd.Q_mono (Kd.Q_keep (IsS106.apartQ (show IsS106 w0 _ g s0_0 x1001_3 from is_HI0) (qp_ HO_4.out) (by decide)) hk (fun _ h => h.2)) (fun _ h => h.1)); replace HK := Aside0.mk (KeepBut.trans (ke_) hk (.inl rfl)); replace HB := Aside0.mk (hb); replace HI0 := Aside0.mk (hi); (try clear hb hk hi); have p440 : 0 ≤ (t438 : Int) := od_; have q440 : t438 < (x4_1.length : Int) := od_; obtain ⟨ad440, e440, hx440_0, hx440_1, hx440_2⟩ := at_T43 (Kd.Q_reads' HO_4.out).2.2 t438 p440 q440; cases e440; replace p440 := eq_true p440; replace q440 := eq_true q440) | ((with_reducible refine gate_callee (f := 50) rfl ?_); refine gl_ 27 Tryd.func50 #[.int .i64 ((rd_T43 x4_1 t438).f0)] ?_; (with_reducible refine (spec_l1Made.calls ((rd_T43 x4_1 t438).f0) false _ A12.out).mono ?_); rintro e w' ⟨rfl, ⟨nd, rfl⟩⟩; refine ⟨_, rfl, ?_⟩) | ((with_reducible refine gate_callee (f := 82) rfl ?_); refine gl_ 33 Tryd.func82 #[.pointer (some ⟨g, 0, none⟩)] ?_; (with_reducible refine (spec_l71Tree.calls kj3 g s0_0 t439 t442 t445 w0 _ ?side1 ?side2 A17.out).mono ?_); (case side1 => exact is_HI0); (case side2 => exact bel_); rintro e w20 ⟨v443, rfl, ho0, hi, hb, hk⟩; refine ⟨_, rfl, ?_⟩; have HO444 := Aside0.mk (Kd.Q_lower (Kd.Q_new' ho0 (Kd.Q_lt (qp_ HO_4.out))) (keep_size (w := w) (g := g) (row := none) (ke_))); replace HO_4 := Aside0.mk (Kd.Q_mono (Kd.Q_told (Kd.Q_oldK (IsS106.apartQ (show IsS106 w0 _ g s0_0 t439 from is_HI0) (qp_ HO_4.out) (by decide)) hk) (Kd.Q_base ho0)) (fun _ h_ => h_.1)); replace HK := Aside0.mk (KeepBut.trans (ke_) hk (.inl rfl)); replace HB := Aside0.mk (hb); replace HI0 := Aside0.mk (hi); (try clear hb hk hi ho0)))
          go_roundg kj3
          case measure => have := HK1.out; have := HJ3.out; omega
          case rel => exact ⟨(t442), (wrap64 (x5_1 + 1)), (t445), (si_), H', ⟨by have := HK1.out; have := HJ3.out; omega⟩, ⟨by (with_reducible repeat (first | apply Kd.Q_alloc | apply Kd.Q_drewN | apply Kd.Q_drew)); exact Kd.Q_mono HO444.out (fun _ hk => trivial)⟩, ⟨is_HI0⟩, ⟨ke_⟩, ⟨bel_⟩⟩
         ·rw [if_neg c16] at H
          have c16b0 : (x5_1 == 3) = false := beq_eq_false_iff_ne.mpr c16
          have c16b1 : (x5_1 != 3) = true := bne_iff_ne.mpr c16
          have H' := Aside0.mk H
          clear H
          obtain ⟨Ao21, co21, eo21, _⟩ := Kd.Q_slice HO_4.out
          subst eo21
          go_wp2_with (first | ((with_reducible refine gate_callee (f := 72) rfl ?_); refine gl_ 22 Tryd.func72 #[.pointer (some ⟨g, 0, none⟩), .int .i64 (x4_1.length : Int)] ?_; (with_reducible refine (spec_l6Rd_pick.calls kj3 g s0_0 x1001_3 (x4_1.length : Int) t438 t439 w0 _ ?side1 ?side2 A9.out).mono ?_); (case side1 => exact is_HI0); (case side2 => exact bel_); rintro e w22 ⟨rfl, hi, hb, hk⟩; refine ⟨_, rfl, ?_⟩; replace HO_4 := Aside0.mk (Kd.Q_mono (Kd.Q_keep (IsS106.apartQ (show IsS106 w0 _ g s0_0 x1001_3 from is_HI0) (qp_ HO_4.out) (by decide)) hk (fun _ h => h.2)) (fun _ h => h.1)); replace HK := Aside0.mk (KeepBut.trans (ke_) hk (.inl rfl)); replace HB := Aside0.mk (hb); replace HI0 := Aside0.mk (hi); (try clear hb hk hi); have p440 : 0 ≤ (t438 : Int) := od_; have q440 : t438 < (x4_1.length : Int) := od_; obtain ⟨ad440, e440, hx440_0, hx440_1, hx440_2⟩ := at_T43 (Kd.Q_reads' HO_4.out).2.2 t438 p440 q440; cases e440; replace p440 := eq_true p440; replace q440 := eq_true q440) | ((with_reducible refine gate_callee (f := 50) rfl ?_); refine gl_ 27 Tryd.func50 #[.int .i64 ((rd_T43 x4_1 t438).f0)] ?_; (with_reducible refine (spec_l1Made.calls ((rd_T43 x4_1 t438).f0) false _ A12.out).mono ?_); rintro e w' ⟨rfl, ⟨nd, rfl⟩⟩; refine ⟨_, rfl, ?_⟩))
          go_roundg kj3
          case measure => have := HK1.out; have := HJ3.out; omega
          case rel => exact ⟨(x4_1), (wrap64 (x5_1 + 1)), (t439), (si_), H', ⟨by have := HK1.out; have := HJ3.out; omega⟩, ⟨by (with_reducible repeat (first | apply Kd.Q_alloc | apply Kd.Q_drewN | apply Kd.Q_drew)); exact HO_4.out⟩, ⟨is_HI0⟩, ⟨ke_⟩, ⟨bel_⟩⟩
       ·rw [if_neg c11] at H
        exact absurd H (by simp)
      ·rw [if_neg c10] at H
       exact absurd H (by simp)
     ·replace c8 := Bool.eq_false_iff.mpr c8
      subst c8
      have H1 : ((spec_l71Id.f kj3 s0_0 x1001_3).bind fun bt430 => ((some (([1, 2, 3, bt430.1, 0] : List Int) : List Int)).bind fun y432 => ((spec_l6Rd_pick.f kj3 s0_0 bt430.2 5).bind fun bt435 => (if 0 ≤ bt435.1 then (if bt435.1 < (y432.length : Int) then (some (x4_1, rd y432 bt435.1, bt435.2)) else (none)) else (none))))) = some (r1, r2, r3) := by rw [if_neg (show ¬ (false = true) by decide)] at H; exact H
      clear H
      have H := H1
      clear H1
      replace H := Option.bind_eq_some_iff.mp H
      obtain ⟨⟨t430, t431⟩, A230, H⟩ := H
      try dsimp only at H
      have A23 := Aside0.mk A230
      clear A230
      obtain ⟨y432, hy432⟩ : ∃ y_ : List Int, y_ = (([1, 2, 3, t430, 0] : List Int)) := ⟨_, rfl⟩
      replace H : ((spec_l6Rd_pick.f kj3 s0_0 t431 5).bind fun bt435 => (if 0 ≤ bt435.1 then (if bt435.1 < (y432.length : Int) then (some (x4_1, rd y432 bt435.1, bt435.2)) else (none)) else (none))) = some (r1, r2, r3) := by first | (rw [hy432]; with_reducible exact H) | (have H2_ := (Option.bind_some _ _).symm.trans H; rw [hy432]; with_reducible exact H2_) | (have H2_ := (Option.bind_some _ _).symm.trans H; with_reducible exact H2_) | with_reducible exact H | (rw [hy432]; exact H) | exact H
      have Ny432 := Aside0.mk hy432
      clear hy432
      replace H := Option.bind_eq_some_iff.mp H
      obtain ⟨⟨t435, t436⟩, A240, H⟩ := H
      try dsimp only at H
      have A24 := Aside0.mk A240
      clear A240
      by_cases c25 : 0 ≤ t435
      ·rw [if_pos c25] at H
       have c25b0 : decide (0 ≤ t435) = true := decide_eq_true c25
       clear c25
       by_cases c26 : t435 < (y432.length : Int)
       ·rw [if_pos c26] at H
        have c26b0 : decide (t435 < (y432.length : Int)) = true := decide_eq_true c26
        clear c26
        simp only [Option.some.injEq, Prod.mk.injEq] at H
        obtain ⟨rfl, rfl, rfl⟩ := H
        try go_wp2
        have pi437 : (0 ≤ (t435 : Int)) = True := eq_true (od_)
        have qi437 : (t435 < (y432.length : Int)) = True := eq_true (od_)
        have n0_ := Aside0.mk (Kd.Q_drew HO_4.out)
        have n1_ := Aside0.mk (IsS106.drew HI0.out)
        have n2_ := Aside0.mk (keep_drew HK.out)
        have n3_ := Aside0.mk (below_drew1 HB.out)
        clear HO_4
        clear HI0
        clear HK
        clear HB
        have HO_4 := n0_
        have HI0 := n1_
        have HK := n2_
        have HB := n3_
        clear n0_ n1_ n2_ n3_
        refine start_ (n := 10) (S := fun w' => True) (ds := []) #[false, false, false, false, false, false, false, false, false, false] (by kernel_rfl) rfl rfl trivial (fun hHeld => ?_); refine with_tabW spec_l71Row.tab10 spec_l71Row.bits10 (fun HT_ HW_ => ?_)
        generalize wc.drew = w27 at HO_4 HI0 HK HB hHeld ⊢
        refine pa_ 0 34 ?_
        refine pa_ 1 35 ?_
        refine pa_ 4 38 ?_
        refine on_ 2 36 (fun K hK => ?_)
        refine goes_ Tryd.func83 (by kernel_rfl) rfl #[.pointer (some ⟨g, 0, none⟩)] (by rfl) rfl rfl ar_ ?_
        with_reducible refine (spec_l71Id.calls kj3 g s0_0 x1001_3 t430 t431 w0 _ ?side1 ?side2 A23.out).mono ?_
        (case side1 => exact is_HI0)
        (case side2 => exact bel_)
        rintro e w28 ⟨rfl, hi, hb, hk⟩
        refine ⟨_, rfl, ?_⟩
        have n0_ := Aside0.mk (Kd.Q_mono (Kd.Q_keep (IsS106.apartQ (show IsS106 w0 _ g s0_0 x1001_3 from is_HI0) (qp_ HO_4.out) (by decide)) hk (fun _ h => h.2)) (fun _ h => h.1))
        have n1_ := Aside0.mk (KeepBut.trans (ke_) hk (.inl rfl))
        have n2_ := Aside0.mk (hb)
        have n3_ := Aside0.mk (hi)
        clear HO_4
        clear HK
        clear HB
        clear HI0
        have HO_4 := n0_
        have HK := n1_
        have HB := n2_
        have HI0 := n3_
        clear n0_ n1_ n2_ n3_
        (try clear hb)
        (try clear hb2)
        (try clear hk)
        (try clear hi)
        refine hK.out _ _ trivial (fun hHeld => ?_)
        clear hK K
        refine no_ 36 ?_
        refine join_ (σ := Value × Addr) 3 #[true, true, true, true, true, true, false, false, true, false] (fun s_ => [(37, s_.1), (39, .int .i64 t435), (2, u4)]) (fun s_ w' => (Kd.R (Kd.int .i64) 3 w' w.heap.size (fun _ => True) s_.1 y432) ∧ (Kd.Q k43 43 w' w.heap.size (fun _ => True) u4 x4_1) ∧ (∃ c_, (s_.1 : Value) = .slice (some s_.2) y432.length c_) ∧ (IsS106 w0 w' g s0_0 t436) ∧ (KeepBut w w' g none) ∧ (Below w0.heap.size w0 w')) ?_ ?_
        rotate_left
        ·intro hCont
         refine two_ (i := 3) (j := 5) (Ni := some 37) (Nj := some 39) #[true, true, true, true, true, false, false, false, false, false] #[true, true, true, false, true, true, false, false, false, false] rfl rfl rfl rfl (two_of HT_.out (by kernel_rfl)) (by decide) (by decide) (fun K hK => ?_) (fun K hK => ?_)
         ·skip
          refine Kd.R_lit_step (Kd.int .i64) _ 3 ?hg (N := 37) ?hd (xs := ([1, 2, 3, t430, 0] : List Int)) (inner := [.int .i64 1, .int .i64 2, .int .i64 3, .int .i64 t430, .int .i64 0]) (ok := fun _ => True) (okp := fun _ => True) ?hr ?hp (fun _ hk => hk) trivial (Below.refl _ _) (Nat.le_refl _) (by simp) ?_; (case hd => rfl); (case hg => rfl); (case hr => first | (go_simp; done) | (go_simp; rfl)); (case hp => exact (Reps.one (show Kd.M (Kd.int .i64) _ _ _ 1 [.int .i64 1] from rfl) (Reps.one (show Kd.M (Kd.int .i64) _ _ _ 2 [.int .i64 2] from rfl) (Reps.one (show Kd.M (Kd.int .i64) _ _ _ 3 [.int .i64 3] from rfl) (Reps.one (show Kd.M (Kd.int .i64) _ _ _ t430 [.int .i64 t430] from rfl) (Reps.one (show Kd.M (Kd.int .i64) _ _ _ 0 [.int .i64 0] from rfl) (Reps.none _ _)))))))
          intro v433 w29 ho30 hb hg_ hnew_
          clear hg_ hnew_
          (first | rw [← Ny432.out] at ho30 | (simp only [Int.reduceToNat] at ho30; rw [← Ny432.out] at ho30))
          have n0_ := Aside0.mk (Kd.Q_below (qp_ HO_4.out) hb)
          have n1_ := Aside0.mk (Kd.R_lower ho30 (keep_size (w := w) (g := g) (row := none) (ke_)))
          have n2_ := Aside0.mk (IsS106.below (is_HI0) hb)
          have n3_ := Aside0.mk (KeepBut.trans (ke_) (KeepBut.of_below hb g none) (.inl rfl))
          have n4_ := Aside0.mk (below_step (bel_) hb)
          clear HO_4
          clear HI0
          clear HK
          clear HB
          have HO_4 := n0_
          have HO434 := n1_
          have HI0 := n2_
          have HK := n3_
          have HB := n4_
          clear n0_ n1_ n2_ n3_ n4_
          clear hb ho30
          obtain ⟨Ao31, co31, eo31⟩ := Kd.R_slice HO434.out
          subst eo31
          obtain ⟨ado31, fo31, _⟩ := Kd.at_int (Kd.R_reads' HO434.out).2.2 0 (by decide) (by rw [Ny432.out]; simp)
          cases fo31
          refine hK.out _ _ trivial (fun hHeld => ?_)
          clear hK K
          refine no_ 37 ?_
          refine on_ 5 39 (fun K hK => ?_)
          refine goes_ Tryd.func72 (by kernel_rfl) rfl #[.pointer (some ⟨g, 0, none⟩), .int .i64 5] (by rfl) rfl rfl ar_ ?_
          with_reducible refine (spec_l6Rd_pick.calls kj3 g s0_0 t431 5 t435 t436 w0 _ ?side1 ?side2 A24.out).mono ?_
          (case side1 => exact is_HI0)
          (case side2 => exact bel_)
          rintro e w32 ⟨rfl, hi, hb, hk⟩
          refine ⟨_, rfl, ?_⟩
          have n0_ := Aside0.mk (Kd.Q_mono (Kd.Q_keep (IsS106.apartQ (show IsS106 w0 _ g s0_0 t431 from is_HI0) (qp_ HO_4.out) (by decide)) hk (fun _ h => h.2)) (fun _ h => h.1))
          have n1_ := Aside0.mk (Kd.R_mono (Kd.R_keep (IsS106.apart (show IsS106 w0 _ g s0_0 t431 from is_HI0) (rp_ HO434.out) (by decide)) hk (fun _ h => h.2)) (fun _ h => h.1))
          have n2_ := Aside0.mk (KeepBut.trans (ke_) hk (.inl rfl))
          have n3_ := Aside0.mk (hb)
          have n4_ := Aside0.mk (hi)
          clear HO_4
          clear HO434
          clear HK
          clear HB
          clear HI0
          have HO_4 := n0_
          have HO434 := n1_
          have HK := n2_
          have HB := n3_
          have HI0 := n4_
          clear n0_ n1_ n2_ n3_ n4_
          (try clear hb)
          (try clear hb2)
          (try clear hk)
          (try clear hi)
          refine hK.out _ _ trivial (fun hHeld => ?_)
          clear hK K
          refine no_ 39 ?_
          refine pa_ 8 2 ?_
          exact norm_ (by simp only [putAll, Act.put, List.setIfInBounds_toArray, List.set_cons_zero, List.set_cons_succ]) (hCont (.slice (some ado31) y432.length co31, ado31) _ ⟨(rp_ HO434.out), (qp_ HO_4.out), ⟨_, rfl⟩, (is_HI0), (ke_), (bel_)⟩)
         ·skip
          refine goes_ Tryd.func72 (by kernel_rfl) rfl #[.pointer (some ⟨g, 0, none⟩), .int .i64 5] (by rfl) rfl rfl ar_ ?_
          with_reducible refine (spec_l6Rd_pick.calls kj3 g s0_0 t431 5 t435 t436 w0 _ ?side1 ?side2 A24.out).mono ?_
          (case side1 => exact is_HI0)
          (case side2 => exact bel_)
          rintro e w29 ⟨rfl, hi, hb, hk⟩
          refine ⟨_, rfl, ?_⟩
          have n0_ := Aside0.mk (Kd.Q_mono (Kd.Q_keep (IsS106.apartQ (show IsS106 w0 _ g s0_0 t431 from is_HI0) (qp_ HO_4.out) (by decide)) hk (fun _ h => h.2)) (fun _ h => h.1))
          have n1_ := Aside0.mk (KeepBut.trans (ke_) hk (.inl rfl))
          have n2_ := Aside0.mk (hb)
          have n3_ := Aside0.mk (hi)
          clear HO_4
          clear HK
          clear HB
          clear HI0
          have HO_4 := n0_
          have HK := n1_
          have HB := n2_
          have HI0 := n3_
          clear n0_ n1_ n2_ n3_
          (try clear hb)
          (try clear hb2)
          (try clear hk)
          (try clear hi)
          refine hK.out _ _ trivial (fun hHeld => ?_)
          clear hK K
          refine no_ 39 ?_
          refine pa_ 8 2 ?_
          refine on_ 3 37 (fun K hK => ?_)
          refine Kd.R_lit_step (Kd.int .i64) _ 3 ?hg (N := 37) ?hd (xs := ([1, 2, 3, t430, 0] : List Int)) (inner := [.int .i64 1, .int .i64 2, .int .i64 3, .int .i64 t430, .int .i64 0]) (ok := fun _ => True) (okp := fun _ => True) ?hr ?hp (fun _ hk => hk) trivial (Below.refl _ _) (Nat.le_refl _) (by simp) ?_; (case hd => rfl); (case hg => rfl); (case hr => first | (go_simp; done) | (go_simp; rfl)); (case hp => exact (Reps.one (show Kd.M (Kd.int .i64) _ _ _ 1 [.int .i64 1] from rfl) (Reps.one (show Kd.M (Kd.int .i64) _ _ _ 2 [.int .i64 2] from rfl) (Reps.one (show Kd.M (Kd.int .i64) _ _ _ 3 [.int .i64 3] from rfl) (Reps.one (show Kd.M (Kd.int .i64) _ _ _ t430 [.int .i64 t430] from rfl) (Reps.one (show Kd.M (Kd.int .i64) _ _ _ 0 [.int .i64 0] from rfl) (Reps.none _ _)))))))
          intro v433 w30 ho31 hb hg_ hnew_
          clear hg_ hnew_
          (first | rw [← Ny432.out] at ho31 | (simp only [Int.reduceToNat] at ho31; rw [← Ny432.out] at ho31))
          have n0_ := Aside0.mk (Kd.Q_below (qp_ HO_4.out) hb)
          have n1_ := Aside0.mk (Kd.R_lower ho31 (keep_size (w := w) (g := g) (row := none) (ke_)))
          have n2_ := Aside0.mk (IsS106.below (is_HI0) hb)
          have n3_ := Aside0.mk (KeepBut.trans (ke_) (KeepBut.of_below hb g none) (.inl rfl))
          have n4_ := Aside0.mk (below_step (bel_) hb)
          clear HO_4
          clear HI0
          clear HK
          clear HB
          have HO_4 := n0_
          have HO434 := n1_
          have HI0 := n2_
          have HK := n3_
          have HB := n4_
          clear n0_ n1_ n2_ n3_ n4_
          clear hb ho31
          obtain ⟨Ao32, co32, eo32⟩ := Kd.R_slice HO434.out
          subst eo32
          obtain ⟨ado32, fo32, _⟩ := Kd.at_int (Kd.R_reads' HO434.out).2.2 0 (by decide) (by rw [Ny432.out]; simp)
          cases fo32
          refine hK.out _ _ trivial (fun hHeld => ?_)
          clear hK K
          refine no_ 37 ?_
          exact norm_ (by simp only [putAll, Act.put, List.setIfInBounds_toArray, List.set_cons_zero, List.set_cons_succ]) (hCont (.slice (some ado32) y432.length co32, ado32) _ ⟨(rp_ HO434.out), (qp_ HO_4.out), ⟨_, rfl⟩, (is_HI0), (ke_), (bel_)⟩)
        rintro ⟨v433, adz_v433⟩ w33 ⟨h0_, h1_, h2_, h3_, h4_, h5_⟩
        have n0_ : Aside0 (Kd.R (Kd.int .i64) 3 w33 w.heap.size (fun _ => True) v433 y432) := ⟨h0_⟩
        have n1_ : Aside0 (Kd.Q k43 43 w33 w.heap.size (fun _ => True) u4 x4_1) := ⟨h1_⟩
        have n2_ : Aside0 (∃ c_, (v433 : Value) = .slice (some adz_v433) y432.length c_) := ⟨h2_⟩
        have n3_ : Aside0 (IsS106 w0 w33 g s0_0 t436) := ⟨h3_⟩
        have n4_ : Aside0 (KeepBut w w33 g none) := ⟨h4_⟩
        have n5_ : Aside0 (Below w0.heap.size w0 w33) := ⟨h5_⟩
        clear HO_4
        clear HI0
        clear HK
        clear HB
        clear h0_ h1_ h2_ h3_ h4_ h5_
        have HO434 := n0_
        have HO_4 := n1_
        have HA_HO434 := n2_
        have HI0 := n3_
        have HK := n4_
        have HB := n5_
        clear n0_ n1_ n2_ n3_ n4_ n5_
        have hHeld := trivial
        obtain ⟨co34, eo34⟩ := HA_HO434.out
        clear HA_HO434
        subst eo34
        refine norm_ (a' := ?_) ?_ ?_
        rotate_left
        ·simp only [putAll, Act.put, List.setIfInBounds_toArray, List.set_cons_zero, List.set_cons_succ]
         rfl
        refine pa_ 6 40 ?_
        refine on_ 7 41 (fun K hK => ?_)
        (have p437 : 0 ≤ (t435 : Int) := od_; have q437 : t435 < (y432.length : Int) := od_; obtain ⟨ad437, e437, hx437_0⟩ := Kd.at_int (Kd.R_reads' HO434.out).2.2 t435 p437 q437; obtain rfl : adz_v433 = ad437 := (by injection e437))
        refine value_ (w1 := ?_) (v := ?_) (by rfl) rfl ?_ ?_
        rotate_left 2
        ·go_simp
         constructor
         ·rfl
         ·rfl
        clear hx437_0
        refine hK.out _ _ trivial (fun hHeld => ?_)
        clear hK K
        refine no_ 41 ?_
        refine pa_ 9 3 ?_
        refine done_ (done_of HT_.out (by kernel_rfl)) ?_
        try go_wp2
        go_ret2
        exact ⟨_, fi_, by (with_reducible repeat (first | apply Kd.Q_alloc | apply Kd.Q_drewN | apply Kd.Q_drew)); exact HO_4.out, is_HI0, bel_, ke_⟩
       ·rw [if_neg c26] at H
        exact absurd H (by simp)
      ·rw [if_neg c25] at H
       exact absurd H (by simp)

mutual
def spec_l71Op.j1 : Nat → List Int → Int → Int → Int → Int → Int → ByteArray → Option (Int × Int × Int × Int × ByteArray × Int)
 | 0, _, _, _, _, _, _, _ => none
 | k + 1, x1000, x1001, x452000, x452001, x452002, x452003, x452004 => (spec_l6Rd_pick.f k x1000 x1001 30).bind fun bt470 => (if bt470.1 = 0 then ((spec_l6Rd_pick.f k x1000 bt470.2 5).bind fun bt472 => (some (bt472.1, x452001, x452002, x452003, x452004, bt472.2))) else (if bt470.1 = 1 then ((spec_l6Rd_pick.f k x1000 bt470.2 50).bind fun bt474 => (some (x452000, bt474.1, x452002, x452003, x452004, bt474.2))) else (if bt470.1 = 2 then ((spec_l6Rd_pick.f k x1000 bt470.2 50).bind fun bt476 => (some (x452000, x452001, bt476.1, x452003, x452004, bt476.2))) else (if bt470.1 = 3 then ((spec_l6Rd_pick.f k x1000 bt470.2 50).bind fun bt478 => (some (x452000, x452001, x452002, bt478.1, x452004, bt478.2))) else (some (x452000, x452001, x452002, x452003, x452004, bt470.2))))))
def spec_l71Op.j0 : Nat → Int → Int → Int → Bool → List Int → Int → Int → Int → Int → Int → ByteArray → Option (Int × Int × Int × Int × ByteArray × Int)
 | 0, _, _, _, _, _, _, _, _, _, _, _ => none
 | k + 1, x4, x5, x26, x27, x1000, x1001, x452000, x452001, x452002, x452003, x452004 => if x27 = true then (spec_l71Op.j1 k x1000 x1001 1 x452001 x4 x5 x452004) else (if x26 = 2 then (spec_l71Op.j1 k x1000 x1001 3 x452001 x4 x5 (⟨#[]⟩ : ByteArray)) else (if x26 = 3 then (spec_l71Op.j1 k x1000 x1001 3 x452001 x4 x5 (⟨#[]⟩ : ByteArray)) else (spec_l71Op.j1 k x1000 x1001 x452000 x452001 x452002 x452003 x452004)))
end
def spec_l71Op.f (k : Nat) (s0_0 : List Int) (s0_1 : Int) : Option (Int × Int × Int × Int × ByteArray × Int) := (spec_l71Id.f k s0_0 s0_1).bind fun bt447 => ((spec_l71Text.f k s0_0 bt447.2).bind fun bt449 => ((spec_l71Id.f k s0_0 bt449.2).bind fun bt452 => ((some (([1, 1, bt452.1, 2, 3] : List Int) : List Int)).bind fun y454 => ((spec_l6Rd_pick.f k s0_0 bt452.2 5).bind fun bt457 => (if 0 ≤ bt457.1 then (if bt457.1 < (y454.length : Int) then ((spec_l71Id.f k s0_0 bt457.2).bind fun bt460 => ((some (([0, bt460.1] : List Int) : List Int)).bind fun y462 => ((spec_l6Rd_pick.f k s0_0 bt460.2 2).bind fun bt465 => (if 0 ≤ bt465.1 then (if bt465.1 < (y462.length : Int) then ((spec_l6Rd_pick.f k s0_0 bt465.2 5).bind fun bt468 => (if bt468.1 = 0 then (spec_l71Op.j0 k (rd y454 bt457.1) (rd y462 bt465.1) bt468.1 (bt468.1 == 0) s0_0 bt468.2 2 bt447.1 0 0 bt449.1) else (spec_l71Op.j0 k (rd y454 bt457.1) (rd y462 bt465.1) bt468.1 (bt468.1 == 1) s0_0 bt468.2 2 bt447.1 0 0 bt449.1))) else (none)) else (none))))) else (none)) else (none))))))
theorem spec_l71Op.mono_l : ∀ k, (∀ y0 y1 y2 y3 y4 y5 y6, LeO (spec_l71Op.j1 k y0 y1 y2 y3 y4 y5 y6) (spec_l71Op.j1 (k + 1) y0 y1 y2 y3 y4 y5 y6)) ∧ (∀ y0 y1 y2 y3 y4 y5 y6 y7 y8 y9 y10, LeO (spec_l71Op.j0 k y0 y1 y2 y3 y4 y5 y6 y7 y8 y9 y10) (spec_l71Op.j0 (k + 1) y0 y1 y2 y3 y4 y5 y6 y7 y8 y9 y10))
 | 0 => ⟨fun _ _ _ _ _ _ _ r h => by simp [spec_l71Op.j1] at h, fun _ _ _ _ _ _ _ _ _ _ _ r h => by simp [spec_l71Op.j0] at h⟩
 | k + 1 => by
  obtain ⟨ih0, ih1⟩ := spec_l71Op.mono_l k
  refine ⟨?_, ?_⟩
  all_goals intros
  all_goals first | unfold spec_l71Op.j1 | unfold spec_l71Op.j0
  all_goals repeat' first
  | (with_reducible exact ih0 _ _ _ _ _ _ _)
  | (with_reducible exact ih1 _ _ _ _ _ _ _ _ _ _ _)
  | (with_reducible exact spec_l6Rd_pick.mono _ _ _ _)
  | (with_reducible exact spec_l71Id.mono _ _ _)
  | (with_reducible exact spec_l71Text.mono _ _ _)
  | (with_reducible exact LeO.refl _)
  | (with_reducible exact LeO.none _)
  | (with_reducible refine LeO.ite ?_ ?_)
  | (with_reducible refine LeO.bind ?_ (fun _ => ?_))
  | exact ih0 _ _ _ _ _ _ _
  | exact ih1 _ _ _ _ _ _ _ _ _ _ _
  | exact spec_l6Rd_pick.mono _ _ _ _
  | exact spec_l71Id.mono _ _ _
  | exact spec_l71Text.mono _ _ _
  | exact LeO.none _
  | refine LeO.ite ?_ ?_
  | refine LeO.bind ?_ (fun _ => ?_)
theorem spec_l71Op.mono : ∀ a0 a1 k, LeO (spec_l71Op.f k a0 a1) (spec_l71Op.f (k + 1) a0 a1) := by
 intro a0 a1 k
 obtain ⟨ih0, ih1⟩ := spec_l71Op.mono_l k
 unfold spec_l71Op.f
 repeat' first
   | (with_reducible exact ih0 _ _ _ _ _ _ _)
   | (with_reducible exact ih1 _ _ _ _ _ _ _ _ _ _ _)
   | (with_reducible exact spec_l6Rd_pick.mono _ _ _ _)
   | (with_reducible exact spec_l71Id.mono _ _ _)
   | (with_reducible exact spec_l71Text.mono _ _ _)
   | (with_reducible exact LeO.refl _)
   | (with_reducible exact LeO.none _)
   | (with_reducible refine LeO.ite ?_ ?_)
   | (with_reducible refine LeO.bind ?_ (fun _ => ?_))
   | exact ih0 _ _ _ _ _ _ _
   | exact ih1 _ _ _ _ _ _ _ _ _ _ _
   | exact spec_l6Rd_pick.mono _ _ _ _
   | exact spec_l71Id.mono _ _ _
   | exact spec_l71Text.mono _ _ _
   | exact LeO.none _
   | refine LeO.ite ?_ ?_
   | refine LeO.bind ?_ (fun _ => ?_)
set_option maxHeartbeats 8000000 in
set_option maxRecDepth 100000 in
theorem spec_l71Op.calls (k : Nat) (g : Nat) (s0_0 : List Int) (s0_1 : Int) (r1 : Int) (r2 : Int) (r3 : Int) (r4 : Int) (r5 : ByteArray) (r6 : Int) (w0 w : World) (hI : IsS106 w0 w g s0_0 s0_1) (hB : Below w0.heap.size w0 w) (h : spec_l71Op.f k s0_0 s0_1 = some (r1, r2, r3, r4, r5, r6)) :
  Calls Tryd.prog 71 #[.pointer (some ⟨g, 0, none⟩)] w fun e w' => e = .returned (.agg #[.int .i64 r1, .int .i64 r2, .int .i64 r3, .int .i64 r4, .string r5]) ∧ IsS106 w0 w' g s0_0 r6 ∧ Below w0.heap.size w0 w' ∧ KeepBut w w' g none := by
 have hu30 := Tryd.underlying30
 have HI0 := Aside0.mk hI
 have HK := Aside0.mk (KeepBut.refl w g none)
 have HL := Aside0.mk hB.size
 clear hI
 have HW0 := Aside0.mk hB.size
 have HB := Aside0.mk hB
 clear hB
 unfold spec_l71Op.f at h
 have H := h
 clear h
 replace H := Option.bind_eq_some_iff.mp H
 obtain ⟨⟨t447, t448⟩, A20, H⟩ := H
 try dsimp only at H
 have A2 := Aside0.mk A20
 clear A20
 replace H := Option.bind_eq_some_iff.mp H
 obtain ⟨⟨t449, t450⟩, A30, H⟩ := H
 try dsimp only at H
 have A3 := Aside0.mk A30
 clear A30
 replace H := Option.bind_eq_some_iff.mp H
 obtain ⟨⟨t452, t453⟩, A40, H⟩ := H
 try dsimp only at H
 have A4 := Aside0.mk A40
 clear A40
 obtain ⟨y454, hy454⟩ : ∃ y_ : List Int, y_ = (([1, 1, t452, 2, 3] : List Int)) := ⟨_, rfl⟩
 replace H : ((spec_l6Rd_pick.f k s0_0 t453 5).bind fun bt457 => (if 0 ≤ bt457.1 then (if bt457.1 < (y454.length : Int) then ((spec_l71Id.f k s0_0 bt457.2).bind fun bt460 => ((some (([0, bt460.1] : List Int) : List Int)).bind fun y462 => ((spec_l6Rd_pick.f k s0_0 bt460.2 2).bind fun bt465 => (if 0 ≤ bt465.1 then (if bt465.1 < (y462.length : Int) then ((spec_l6Rd_pick.f k s0_0 bt465.2 5).bind fun bt468 => (if bt468.1 = 0 then (spec_l71Op.j0 k (rd y454 bt457.1) (rd y462 bt465.1) bt468.1 (bt468.1 == 0) s0_0 bt468.2 2 t447 0 0 t449) else (spec_l71Op.j0 k (rd y454 bt457.1) (rd y462 bt465.1) bt468.1 (bt468.1 == 1) s0_0 bt468.2 2 t447 0 0 t449))) else (none)) else (none))))) else (none)) else (none))) = some (r1, r2, r3, r4, r5, r6) := by first | (rw [hy454]; with_reducible exact H) | (have H2_ := (Option.bind_some _ _).symm.trans H; rw [hy454]; with_reducible exact H2_) | (have H2_ := (Option.bind_some _ _).symm.trans H; with_reducible exact H2_) | with_reducible exact H | (rw [hy454]; exact H) | exact H
 have Ny454 := Aside0.mk hy454
 clear hy454
 replace H := Option.bind_eq_some_iff.mp H
 obtain ⟨⟨t457, t458⟩, A50, H⟩ := H
 try dsimp only at H
 have A5 := Aside0.mk A50
 clear A50
 by_cases c6 : 0 ≤ t457
 ·rw [if_pos c6] at H
  have c6b0 : decide (0 ≤ t457) = true := decide_eq_true c6
  clear c6
  by_cases c7 : t457 < (y454.length : Int)
  ·rw [if_pos c7] at H
   have c7b0 : decide (t457 < (y454.length : Int)) = true := decide_eq_true c7
   clear c7
   replace H := Option.bind_eq_some_iff.mp H
   obtain ⟨⟨t460, t461⟩, A80, H⟩ := H
   try dsimp only at H
   have A8 := Aside0.mk A80
   clear A80
   obtain ⟨y462, hy462⟩ : ∃ y_ : List Int, y_ = (([0, t460] : List Int)) := ⟨_, rfl⟩
   replace H : ((spec_l6Rd_pick.f k s0_0 t461 2).bind fun bt465 => (if 0 ≤ bt465.1 then (if bt465.1 < (y462.length : Int) then ((spec_l6Rd_pick.f k s0_0 bt465.2 5).bind fun bt468 => (if bt468.1 = 0 then (spec_l71Op.j0 k (rd y454 t457) (rd y462 bt465.1) bt468.1 (bt468.1 == 0) s0_0 bt468.2 2 t447 0 0 t449) else (spec_l71Op.j0 k (rd y454 t457) (rd y462 bt465.1) bt468.1 (bt468.1 == 1) s0_0 bt468.2 2 t447 0 0 t449))) else (none)) else (none))) = some (r1, r2, r3, r4, r5, r6) := by first | (rw [hy462]; with_reducible exact H) | (have H2_ := (Option.bind_some _ _).symm.trans H; rw [hy462]; with_reducible exact H2_) | (have H2_ := (Option.bind_some _ _).symm.trans H; with_reducible exact H2_) | with_reducible exact H | (rw [hy462]; exact H) | exact H
   have Ny462 := Aside0.mk hy462
   clear hy462
   replace H := Option.bind_eq_some_iff.mp H
   obtain ⟨⟨t465, t466⟩, A90, H⟩ := H
   try dsimp only at H
   have A9 := Aside0.mk A90
   clear A90
   by_cases c10 : 0 ≤ t465
   ·rw [if_pos c10] at H
    have c10b0 : decide (0 ≤ t465) = true := decide_eq_true c10
    clear c10
    by_cases c11 : t465 < (y462.length : Int)
    ·rw [if_pos c11] at H
     have c11b0 : decide (t465 < (y462.length : Int)) = true := decide_eq_true c11
     clear c11
     replace H := Option.bind_eq_some_iff.mp H
     obtain ⟨⟨t468, t469⟩, A120, H⟩ := H
     try dsimp only at H
     have A12 := Aside0.mk A120
     clear A120
     have HC13 := Aside0.mk H
     clear H
     go_enter Tryd.func71, Tryd.ntmps71
     go_upto_block 0 with (first | ((with_reducible refine gate_dst (N := 2) rfl ?_); refine bx_ 2 (#[.int .i64 0, .int .i64 0, .int .i64 0, .int .i64 0, .string (⟨#[]⟩ : ByteArray)]) 30 ?_; intro gb446 hg w14 hbox hb; have n0_ := Aside0.mk (IsS106.below (is_HI0) hb); have n1_ := Aside0.mk (KeepBut.trans (ke_) (KeepBut.of_below hb g none) (.inl rfl)); have n2_ := Aside0.mk (below_step (bel_) hb); have n3_ := Aside0.mk (hbox); have n4_ := Aside0.mk ((by rw [hg]; exact (keep_size (w := w) (g := g) (row := none) (ke_)) : w.heap.size ≤ gb446)); have n5_ := Aside0.mk ((Nat.le_trans HW0.out (by rw [hg]; exact (keep_size (w := w) (g := g) (row := none) (ke_)) : w.heap.size ≤ gb446) : w0.heap.size ≤ gb446)); have n6_ := Aside0.mk ((by rw [hg]; exact Nat.ne_of_lt (IsS106.lt (show IsS106 w0 _ g s0_0 s0_1 from is_HI0)) : g ≠ gb446)); have n7_ := Aside0.mk ((by rw [hg]; exact Nat.ne_of_gt (IsS106.lt (show IsS106 w0 _ g s0_0 s0_1 from is_HI0)) : gb446 ≠ g)); clear HI0; clear HK; clear HB; have HI0 := n0_; have HK := n1_; have HB := n2_; have BK446 := n3_; have GW446 := n4_; have GE446 := n5_; have NB0_446 := n6_; have NB446_0 := n7_; clear n0_ n1_ n2_ n3_ n4_ n5_ n6_ n7_; clear hb hbox hg) | ((with_reducible refine gate_callee (f := 83) rfl ?_); refine gl_ 7 Tryd.func83 #[.pointer (some ⟨g, 0, none⟩)] ?_; (with_reducible refine (spec_l71Id.calls k g s0_0 s0_1 t447 t448 w0 _ ?side1 ?side2 A2.out).mono ?_); (case side1 => exact is_HI0); (case side2 => exact bel_); rintro e w15 ⟨rfl, hi, hb, hk⟩; refine ⟨_, rfl, ?_⟩; replace BK446 := Aside0.mk (kb_ hk BK446.out NB446_0.out); replace HK := Aside0.mk (KeepBut.trans (kf_ HK.out) hk (.inl rfl)); replace HB := Aside0.mk (hb); replace HI0 := Aside0.mk (hi); (try clear hb hk hi)) | ((with_reducible refine gate_callee (f := 84) rfl ?_); refine gl_ 9 Tryd.func84 #[.pointer (some ⟨g, 0, none⟩)] ?_; (with_reducible refine (spec_l71Text.calls k g s0_0 t448 t449 t450 w0 _ ?side1 ?side2 A3.out).mono ?_); (case side1 => exact is_HI0); (case side2 => exact bel_); rintro e w16 ⟨rfl, hi, hb, hk⟩; refine ⟨_, rfl, ?_⟩; replace BK446 := Aside0.mk (kb_ hk BK446.out NB446_0.out); replace HK := Aside0.mk (KeepBut.trans (kf_ HK.out) hk (.inl rfl)); replace HB := Aside0.mk (hb); replace HI0 := Aside0.mk (hi); (try clear hb hk hi)) | ((with_reducible refine gate_dst (N := 3) rfl ?_); refine bx_ 3 (#[.int .i64 0, .int .i64 0, .int .i64 0, .int .i64 0, .string (⟨#[]⟩ : ByteArray)]) 30 ?_; intro gb451 hg w17 hbox hb; have n0_ := Aside0.mk (IsS106.below (is_HI0) hb); have n1_ := Aside0.mk (bb_ BK446.out hb); have n2_ := Aside0.mk (KeepBut.trans (kf_ HK.out) (KeepBut.of_below hb g none) (.inl rfl)); have n3_ := Aside0.mk (below_step (bel_) hb); have n4_ := Aside0.mk (hbox); have n5_ := Aside0.mk ((by rw [hg]; exact (keep_size (w := w) (g := g) (row := none) (kf_ HK.out)) : w.heap.size ≤ gb451)); have n6_ := Aside0.mk ((Nat.le_trans HW0.out (by rw [hg]; exact (keep_size (w := w) (g := g) (row := none) (kf_ HK.out)) : w.heap.size ≤ gb451) : w0.heap.size ≤ gb451)); have n7_ := Aside0.mk ((by rw [hg]; exact Nat.ne_of_lt (blk_lt (g := gb446) (o := .cells #[.int .i64 0, .int .i64 0, .int .i64 0, .int .i64 0, .string (⟨#[]⟩ : ByteArray)] 30 (0, 0)) (bp_ BK446.out)) : gb446 ≠ gb451)); have n8_ := Aside0.mk ((by rw [hg]; exact Nat.ne_of_gt (blk_lt (g := gb446) (o := .cells #[.int .i64 0, .int .i64 0, .int .i64 0, .int .i64 0, .string (⟨#[]⟩ : ByteArray)] 30 (0, 0)) (bp_ BK446.out)) : gb451 ≠ gb446)); have n9_ := Aside0.mk ((by rw [hg]; exact Nat.ne_of_lt (IsS106.lt (show IsS106 w0 _ g s0_0 t450 from is_HI0)) : g ≠ gb451)); have n10_ := Aside0.mk ((by rw [hg]; exact Nat.ne_of_gt (IsS106.lt (show IsS106 w0 _ g s0_0 t450 from is_HI0)) : gb451 ≠ g)); clear HI0; clear BK446; clear HK; clear HB; have HI0 := n0_; have BK446 := n1_; have HK := n2_; have HB := n3_; have BK451 := n4_; have GW451 := n5_; have GE451 := n6_; have NB446_451 := n7_; have NB451_446 := n8_; have NB0_451 := n9_; have NB451_0 := n10_; clear n0_ n1_ n2_ n3_ n4_ n5_ n6_ n7_ n8_ n9_ n10_; clear hb hbox hg; have hnb18 := NB451_446.out; have hnc18 := NB446_451.out; have hnb19 := NB451_0.out; have hnc19 := NB0_451.out; have hcz20_0 := cz_ BK451.out 0 (.int .i64 0); have hcz20_1 := cz_ BK451.out 1 (.int .i64 0); have hcz20_2 := cz_ BK451.out 2 (.int .i64 0); have hcz20_3 := cz_ BK451.out 3 (.int .i64 0); have hcz20_4 := cz_ BK451.out 4 (.string (⟨#[]⟩ : ByteArray)); have hfz20_0 := blk_frozen BK451.out 0; have hfz20_1 := blk_frozen BK451.out 1; have hfz20_2 := blk_frozen BK451.out 2; have hfz20_3 := blk_frozen BK451.out 3; have hfz20_4 := blk_frozen BK451.out 4) | ((with_reducible refine gate_callee (f := 83) rfl ?_); refine gl_ 12 Tryd.func83 #[.pointer (some ⟨g, 0, none⟩)] ?_; (with_reducible refine (spec_l71Id.calls k g s0_0 t450 t452 t453 w0 _ ?side1 ?side2 A4.out).mono ?_); (case side1 => exact is_HI0); (case side2 => exact bel_); rintro e w21 ⟨rfl, hi, hb, hk⟩; refine ⟨_, rfl, ?_⟩; have n0_ := Aside0.mk (KeepBut.blk hk (g' := gb446) (o := .cells #[.int .i64 0, .int .i64 0, .int .i64 0, .int .i64 0, .string (⟨#[]⟩ : ByteArray)] 30 (0, 0)) (by (with_reducible repeat (first | refine blk_drewN ?_ _ | refine blk_drew ?_ | refine blk_alloc ?_ _)); refine blk_far ?_ NB446_451.out _; (with_reducible repeat (first | refine blk_drewN ?_ _ | refine blk_drew ?_ | refine blk_alloc ?_ _)); refine blk_far ?_ NB446_451.out _; (with_reducible repeat (first | refine blk_drewN ?_ _ | refine blk_drew ?_ | refine blk_alloc ?_ _)); refine blk_far ?_ NB446_451.out _; (with_reducible repeat (first | refine blk_drewN ?_ _ | refine blk_drew ?_ | refine blk_alloc ?_ _)); refine blk_far ?_ NB446_451.out _; (with_reducible repeat (first | refine blk_drewN ?_ _ | refine blk_drew ?_ | refine blk_alloc ?_ _)); refine blk_far ?_ NB446_451.out _; (with_reducible repeat (first | refine blk_drewN ?_ _ | refine blk_drew ?_ | refine blk_alloc ?_ _)); exact BK446.out) NB446_0.out (by simp)); have n1_ := Aside0.mk (KeepBut.blk hk (g' := gb451) (o := .cells #[.int .i64 2, .int .i64 t447, .int .i64 0, .int .i64 0, .string t449] 30 (0, 0)) (by (with_reducible repeat (first | refine blk_drewN ?_ _ | refine blk_drew ?_ | refine blk_alloc ?_ _)); refine blk_put (cs := #[.int .i64 2, .int .i64 t447, .int .i64 0, .int .i64 0, .string (⟨#[]⟩ : ByteArray)]) ?_ 4 _ rfl; (with_reducible repeat (first | refine blk_drewN ?_ _ | refine blk_drew ?_ | refine blk_alloc ?_ _)); refine blk_put (cs := #[.int .i64 2, .int .i64 t447, .int .i64 0, .int .i64 0, .string (⟨#[]⟩ : ByteArray)]) ?_ 3 _ rfl; (with_reducible repeat (first | refine blk_drewN ?_ _ | refine blk_drew ?_ | refine blk_alloc ?_ _)); refine blk_put (cs := #[.int .i64 2, .int .i64 t447, .int .i64 0, .int .i64 0, .string (⟨#[]⟩ : ByteArray)]) ?_ 2 _ rfl; (with_reducible repeat (first | refine blk_drewN ?_ _ | refine blk_drew ?_ | refine blk_alloc ?_ _)); refine blk_put (cs := #[.int .i64 2, .int .i64 0, .int .i64 0, .int .i64 0, .string (⟨#[]⟩ : ByteArray)]) ?_ 1 _ rfl; (with_reducible repeat (first | refine blk_drewN ?_ _ | refine blk_drew ?_ | refine blk_alloc ?_ _)); refine blk_put (cs := #[.int .i64 0, .int .i64 0, .int .i64 0, .int .i64 0, .string (⟨#[]⟩ : ByteArray)]) ?_ 0 _ rfl; (with_reducible repeat (first | refine blk_drewN ?_ _ | refine blk_drew ?_ | refine blk_alloc ?_ _)); exact BK451.out) NB451_0.out (by simp)); have n2_ := Aside0.mk (KeepBut.trans (kf_ HK.out) hk (.inl rfl)); have n3_ := Aside0.mk (hb); have n4_ := Aside0.mk (hi); clear BK446; clear BK451; clear HK; clear HB; clear HI0; have BK446 := n0_; have BK451 := n1_; have HK := n2_; have HB := n3_; have HI0 := n4_; clear n0_ n1_ n2_ n3_ n4_; (try clear hb hk hi)) | ((with_reducible refine gate_dst (N := 13) rfl ?_); refine Kd.R_lit (Kd.int .i64) _ 3 ?hg (N := 13) ?hd (xs := ([1, 1, t452, 2, 3] : List Int)) (inner := [.int .i64 1, .int .i64 1, .int .i64 t452, .int .i64 2, .int .i64 3]) (ok := fun _ => True) (okp := fun _ => True) ?hr ?hp (fun _ hk => hk) trivial (Below.refl _ _) (Nat.le_refl _) (by simp) ?_; (case hd => rfl); (case hg => rfl); (case hr => first | (go_simp; done) | (go_simp; rfl)); (case hp => exact (Reps.one (show Kd.M (Kd.int .i64) _ _ _ 1 [.int .i64 1] from rfl) (Reps.one (show Kd.M (Kd.int .i64) _ _ _ 1 [.int .i64 1] from rfl) (Reps.one (show Kd.M (Kd.int .i64) _ _ _ t452 [.int .i64 t452] from rfl) (Reps.one (show Kd.M (Kd.int .i64) _ _ _ 2 [.int .i64 2] from rfl) (Reps.one (show Kd.M (Kd.int .i64) _ _ _ 3 [.int .i64 3] from rfl) (Reps.none _ _))))))); intro v455 w22 ho23 hb hg_ hnew_; clear hg_ hnew_; (first | rw [← Ny454.out] at ho23 | (simp only [Int.reduceToNat] at ho23; rw [← Ny454.out] at ho23)); have HO456 := Aside0.mk (Kd.R_lower ho23 (keep_size (w := w) (g := g) (row := none) (kf_ HK.out))); replace HK := Aside0.mk (KeepBut.trans (kf_ HK.out) (KeepBut.of_below hb g none) (.inl rfl)); replace HB := Aside0.mk (below_step (bel_) hb); replace HI0 := Aside0.mk (IsS106.below (is_HI0) hb); replace BK446 := Aside0.mk (bb_ BK446.out hb); replace BK451 := Aside0.mk (bb_ BK451.out hb); clear hb ho23) | ((with_reducible refine gate_callee (f := 72) rfl ?_); refine gl_ 15 Tryd.func72 #[.pointer (some ⟨g, 0, none⟩), .int .i64 5] ?_; (with_reducible refine (spec_l6Rd_pick.calls k g s0_0 t453 5 t457 t458 w0 _ ?side1 ?side2 A5.out).mono ?_); (case side1 => exact is_HI0); (case side2 => exact bel_); rintro e w24 ⟨rfl, hi, hb, hk⟩; refine ⟨_, rfl, ?_⟩; replace BK446 := Aside0.mk (kb_ hk BK446.out NB446_0.out); replace BK451 := Aside0.mk (kb_ hk BK451.out NB451_0.out); replace HO456 := Aside0.mk (Kd.R_mono (Kd.R_keep (IsS106.apart (show IsS106 w0 _ g s0_0 t453 from is_HI0) (rp_ HO456.out) (by decide)) hk (fun _ h => h.2)) (fun _ h => h.1)); replace HK := Aside0.mk (KeepBut.trans (kf_ HK.out) hk (.inl rfl)); replace HB := Aside0.mk (hb); replace HI0 := Aside0.mk (hi); (try clear hb hk hi); obtain ⟨Ao25, co25, eo25⟩ := Kd.R_slice HO456.out; subst eo25; have p459 : 0 ≤ (t457 : Int) := od_; have q459 : t457 < (y454.length : Int) := od_; obtain ⟨ad459, e459, hx459_0⟩ := Kd.at_int (Kd.R_reads' HO456.out).2.2 t457 p459 q459; cases e459; replace p459 := eq_true p459; replace q459 := eq_true q459) | ((with_reducible refine gate_callee (f := 83) rfl ?_); refine gl_ 19 Tryd.func83 #[.pointer (some ⟨g, 0, none⟩)] ?_; (with_reducible refine (spec_l71Id.calls k g s0_0 t458 t460 t461 w0 _ ?side1 ?side2 A8.out).mono ?_); (case side1 => exact is_HI0); (case side2 => exact bel_); rintro e w26 ⟨rfl, hi, hb, hk⟩; refine ⟨_, rfl, ?_⟩; replace BK446 := Aside0.mk (kb_ hk BK446.out NB446_0.out); replace BK451 := Aside0.mk (kb_ hk BK451.out NB451_0.out); replace HO456 := Aside0.mk (Kd.R_mono (Kd.R_keep (IsS106.apart (show IsS106 w0 _ g s0_0 t458 from is_HI0) (rp_ HO456.out) (by decide)) hk (fun _ h => h.2)) (fun _ h => h.1)); replace HK := Aside0.mk (KeepBut.trans (kf_ HK.out) hk (.inl rfl)); replace HB := Aside0.mk (hb); replace HI0 := Aside0.mk (hi); (try clear hb hk hi)) | ((with_reducible refine gate_dst (N := 20) rfl ?_); refine Kd.R_lit (Kd.int .i64) _ 3 ?hg (N := 20) ?hd (xs := ([0, t460] : List Int)) (inner := [.int .i64 0, .int .i64 t460]) (ok := fun _ => True) (okp := fun _ => True) ?hr ?hp (fun _ hk => hk) trivial (Below.refl _ _) (Nat.le_refl _) (by simp) ?_; (case hd => rfl); (case hg => rfl); (case hr => first | (go_simp; done) | (go_simp; rfl)); (case hp => exact (Reps.one (show Kd.M (Kd.int .i64) _ _ _ 0 [.int .i64 0] from rfl) (Reps.one (show Kd.M (Kd.int .i64) _ _ _ t460 [.int .i64 t460] from rfl) (Reps.none _ _)))); intro v463 w27 ho28 hb hg_ hnew_; clear hg_ hnew_; (first | rw [← Ny462.out] at ho28 | (simp only [Int.reduceToNat] at ho28; rw [← Ny462.out] at ho28)); have HO464 := Aside0.mk (Kd.R_lower (Kd.R_new' ho28 (Kd.R_lt (rp_ HO456.out))) (keep_size (w := w) (g := g) (row := none) (kf_ HK.out))); replace HO456 := Aside0.mk (Kd.R_elder' (rp_ HO456.out) (Kd.R_base ho28) hb); replace HK := Aside0.mk (KeepBut.trans (kf_ HK.out) (KeepBut.of_below hb g none) (.inl rfl)); replace HB := Aside0.mk (below_step (bel_) hb); replace HI0 := Aside0.mk (IsS106.below (is_HI0) hb); replace BK446 := Aside0.mk (bb_ BK446.out hb); replace BK451 := Aside0.mk (bb_ BK451.out hb); clear hb ho28) | ((with_reducible refine gate_callee (f := 72) rfl ?_); refine gl_ 22 Tryd.func72 #[.pointer (some ⟨g, 0, none⟩), .int .i64 2] ?_; (with_reducible refine (spec_l6Rd_pick.calls k g s0_0 t461 2 t465 t466 w0 _ ?side1 ?side2 A9.out).mono ?_); (case side1 => exact is_HI0); (case side2 => exact bel_); rintro e w29 ⟨rfl, hi, hb, hk⟩; refine ⟨_, rfl, ?_⟩; replace BK446 := Aside0.mk (kb_ hk BK446.out NB446_0.out); replace BK451 := Aside0.mk (kb_ hk BK451.out NB451_0.out); replace HO456 := Aside0.mk (Kd.R_mono (Kd.R_keep (IsS106.apart (show IsS106 w0 _ g s0_0 t461 from is_HI0) (rp_ HO456.out) (by decide)) hk (fun _ h => h.2)) (fun _ h => h.1)); replace HO464 := Aside0.mk (Kd.R_mono (Kd.R_keep (IsS106.apart (show IsS106 w0 _ g s0_0 t461 from is_HI0) (rp_ HO464.out) (by decide)) hk (fun _ h => h.2)) (fun _ h => h.1)); replace HK := Aside0.mk (KeepBut.trans (kf_ HK.out) hk (.inl rfl)); replace HB := Aside0.mk (hb); replace HI0 := Aside0.mk (hi); (try clear hb hk hi); obtain ⟨Ao30, co30, eo30⟩ := Kd.R_slice HO464.out; subst eo30; have p467 : 0 ≤ (t465 : Int) := od_; have q467 : t465 < (y462.length : Int) := od_; obtain ⟨ad467, e467, hx467_0⟩ := Kd.at_int (Kd.R_reads' HO464.out).2.2 t465 p467 q467; cases e467; replace p467 := eq_true p467; replace q467 := eq_true q467) | ((with_reducible refine gate_callee (f := 72) rfl ?_); refine gl_ 26 Tryd.func72 #[.pointer (some ⟨g, 0, none⟩), .int .i64 5] ?_; (with_reducible refine (spec_l6Rd_pick.calls k g s0_0 t466 5 t468 t469 w0 _ ?side1 ?side2 A12.out).mono ?_); (case side1 => exact is_HI0); (case side2 => exact bel_); rintro e w31 ⟨rfl, hi, hb, hk⟩; refine ⟨_, rfl, ?_⟩; replace BK446 := Aside0.mk (kb_ hk BK446.out NB446_0.out); replace BK451 := Aside0.mk (kb_ hk BK451.out NB451_0.out); replace HO456 := Aside0.mk (Kd.R_mono (Kd.R_keep (IsS106.apart (show IsS106 w0 _ g s0_0 t466 from is_HI0) (rp_ HO456.out) (by decide)) hk (fun _ h => h.2)) (fun _ h => h.1)); replace HO464 := Aside0.mk (Kd.R_mono (Kd.R_keep (IsS106.apart (show IsS106 w0 _ g s0_0 t466 from is_HI0) (rp_ HO464.out) (by decide)) hk (fun _ h => h.2)) (fun _ h => h.1)); replace HK := Aside0.mk (KeepBut.trans (kf_ HK.out) hk (.inl rfl)); replace HB := Aside0.mk (hb); replace HI0 := Aside0.mk (hi); (try clear hb hk hi)))
     (try simp only [Act.put, List.setIfInBounds_toArray, List.set_cons_zero, List.set_cons_succ])
     go_cut [] (fun wc => ∃ (kq : Nat) (x452000_12 : Int) (x452001_12 : Int) (x452002_12 : Int) (x452003_12 : Int) (x452004_12 : ByteArray), Aside0 (spec_l71Op.j1 kq s0_0 t469 x452000_12 x452001_12 x452002_12 x452003_12 x452004_12 = some (r1, r2, r3, r4, r5, r6)) ∧ Aside0 (kq ≤ k) ∧ Aside0 (wc.heap[gb446]? = some (.cells #[.int .i64 0, .int .i64 0, .int .i64 0, .int .i64 0, .string (⟨#[]⟩ : ByteArray)] 30 (0, 0))) ∧ Aside0 (wc.heap[gb451]? = some (.cells #[.int .i64 x452000_12, .int .i64 x452001_12, .int .i64 x452002_12, .int .i64 x452003_12, .string x452004_12] 30 (0, 0))) ∧ Aside0 (IsS106 w0 wc g s0_0 t469) ∧ Aside0 (KeepBut w wc g none) ∧ Aside0 (Below w0.heap.size w0 wc))
     case first =>
      have H := HC13.out
      clear HC13
      have HC32 := Aside0.mk H
      clear H
      go_upto_if 27 with (fail)
      go_cut [27] (fun v27 wc => ∃ (kq : Nat) (x27_31 : Bool), v27 = .bool x27_31 ∧ Aside0 (spec_l71Op.j0 kq (rd y454 t457) (rd y462 t465) t468 x27_31 s0_0 t469 2 t447 0 0 t449 = some (r1, r2, r3, r4, r5, r6)) ∧ Aside0 (kq ≤ k) ∧ Aside0 (wc.heap[gb446]? = some (.cells #[.int .i64 0, .int .i64 0, .int .i64 0, .int .i64 0, .string (⟨#[]⟩ : ByteArray)] 30 (0, 0))) ∧ Aside0 (wc.heap[gb451]? = some (.cells #[.int .i64 2, .int .i64 t447, .int .i64 0, .int .i64 0, .string t449] 30 (0, 0))) ∧ Aside0 (IsS106 w0 wc g s0_0 t469) ∧ Aside0 (KeepBut w wc g none) ∧ Aside0 (Below w0.heap.size w0 wc))
      case first =>
       have H := HC32.out
       clear HC32
       by_cases c33 : t468 = 0
       ·rw [if_pos c33] at H
        have c33b0 : (t468 == 0) = true := beq_iff_eq.mpr c33
        have c33b1 : (t468 != 0) = false := bne_eq_false_iff_eq.mpr c33
        clear c33
        (first | rw [c33b0] | (simp only [i64_w, i32_w]; rw [c33b0]) | skip)
        have H' := Aside0.mk H
        clear H
        go_wp2
        go_meet
        case rel => exact ⟨_, ((t468 == 0)), (si_), H', ⟨by first | omega | exact Nat.le_refl _⟩, ⟨by (with_reducible repeat (first | refine blk_drewN ?_ _ | refine blk_drew ?_ | refine blk_alloc ?_ _)); exact BK446.out⟩, ⟨by (with_reducible repeat (first | refine blk_drewN ?_ _ | refine blk_drew ?_ | refine blk_alloc ?_ _)); exact BK451.out⟩, ⟨is_HI0⟩, ⟨kf_ HK.out⟩, ⟨bel_⟩⟩
       ·rw [if_neg c33] at H
        have c33b0 : (t468 == 0) = false := beq_eq_false_iff_ne.mpr c33
        have c33b1 : (t468 != 0) = true := bne_iff_ne.mpr c33
        (first | rw [c33b0] | (simp only [i64_w, i32_w]; rw [c33b0]) | skip)
        have H' := Aside0.mk H
        clear H
        go_wp2
        go_meet
        case rel => exact ⟨_, ((t468 == 1)), (si_), H', ⟨by first | omega | exact Nat.le_refl _⟩, ⟨by (with_reducible repeat (first | refine blk_drewN ?_ _ | refine blk_drew ?_ | refine blk_alloc ?_ _)); exact BK446.out⟩, ⟨by (with_reducible repeat (first | refine blk_drewN ?_ _ | refine blk_drew ?_ | refine blk_alloc ?_ _)); exact BK451.out⟩, ⟨is_HI0⟩, ⟨kf_ HK.out⟩, ⟨bel_⟩⟩
      case rest =>
       clear HC32
       try clear c1
       try clear p2
       try clear c3
       try clear p4
       try clear q4
       try clear hx4
       try clear c6
       try clear c6b0
       try clear c7
       try clear c7b0
       try clear c8
       try clear c10
       try clear c10b0
       try clear c11
       try clear c11b0
       try clear c18
       try clear c19
       try clear c33
       try clear c33b0
       try clear c33b1
       try clear hcz20_0
       try clear hcz20_1
       try clear hcz20_2
       try clear hcz20_3
       try clear hcz20_4
       try clear hfz20_0
       try clear hfz20_1
       try clear hfz20_2
       try clear hfz20_3
       try clear hfz20_4
       try clear hx459_0
       try clear hx467_0
       try clear p459
       try clear p467
       try clear q459
       try clear q467
       obtain ⟨kq, x27_31, rfl, HA, HJ31, BK446, BK451, HI0, HK, HB⟩ := hcut
       cases kq with
       | zero => exact absurd HA.out (by simp [spec_l71Op.j0])
       | succ kj31 =>
        have H := HA.out
        clear HA
        simp only [spec_l71Op.j0] at H
        by_cases c34 : x27_31 = true
        ·subst c34
         have H1 : (spec_l71Op.j1 kj31 s0_0 t469 1 t447 (rd y454 t457) (rd y462 t465) t449) = some (r1, r2, r3, r4, r5, r6) := by rw [if_pos rfl] at H; exact H
         clear H
         have H := H1
         clear H1
         have H' := Aside0.mk H
         clear H
         have hnb35 := NB451_446.out
         have hnc35 := NB446_451.out
         have hnb36 := NB451_0.out
         have hnc36 := NB0_451.out
         have hcz37_0 : wc.cell? ⟨gb451, 0, none⟩ = some (.int .i64 2) := (blk_cell BK451.out 0).trans rfl
         have hcz37_1 : wc.cell? ⟨gb451, 1, none⟩ = some (.int .i64 t447) := (blk_cell BK451.out 1).trans rfl
         have hcz37_2 : wc.cell? ⟨gb451, 2, none⟩ = some (.int .i64 0) := (blk_cell BK451.out 2).trans rfl
         have hcz37_3 : wc.cell? ⟨gb451, 3, none⟩ = some (.int .i64 0) := (blk_cell BK451.out 3).trans rfl
         have hcz37_4 : wc.cell? ⟨gb451, 4, none⟩ = some (.string t449) := (blk_cell BK451.out 4).trans rfl
         have hfz37_0 := blk_frozen BK451.out 0
         have hfz37_1 := blk_frozen BK451.out 1
         have hfz37_2 := blk_frozen BK451.out 2
         have hfz37_3 := blk_frozen BK451.out 3
         have hfz37_4 := blk_frozen BK451.out 4
         go_wp2
         go_meet
         case rel => exact ⟨_, (1), (t447), ((rd y454 t457)), ((rd y462 t465)), (t449), H', ⟨by have := HJ31.out; first | omega | exact Nat.le_refl _⟩, ⟨by (with_reducible repeat (first | refine blk_drewN ?_ _ | refine blk_drew ?_ | refine blk_alloc ?_ _)); refine blk_far ?_ NB446_451.out _; (with_reducible repeat (first | refine blk_drewN ?_ _ | refine blk_drew ?_ | refine blk_alloc ?_ _)); refine blk_far ?_ NB446_451.out _; (with_reducible repeat (first | refine blk_drewN ?_ _ | refine blk_drew ?_ | refine blk_alloc ?_ _)); refine blk_far ?_ NB446_451.out _; (with_reducible repeat (first | refine blk_drewN ?_ _ | refine blk_drew ?_ | refine blk_alloc ?_ _)); refine blk_far ?_ NB446_451.out _; (with_reducible repeat (first | refine blk_drewN ?_ _ | refine blk_drew ?_ | refine blk_alloc ?_ _)); refine blk_far ?_ NB446_451.out _; (with_reducible repeat (first | refine blk_drewN ?_ _ | refine blk_drew ?_ | refine blk_alloc ?_ _)); exact BK446.out⟩, ⟨by (with_reducible repeat (first | refine blk_drewN ?_ _ | refine blk_drew ?_ | refine blk_alloc ?_ _)); refine blk_put (cs := #[.int .i64 1, .int .i64 t447, .int .i64 (rd y454 t457), .int .i64 (rd y462 t465), .string t449]) ?_ 4 _ rfl; (with_reducible repeat (first | refine blk_drewN ?_ _ | refine blk_drew ?_ | refine blk_alloc ?_ _)); refine blk_put (cs := #[.int .i64 1, .int .i64 t447, .int .i64 (rd y454 t457), .int .i64 0, .string t449]) ?_ 3 _ rfl; (with_reducible repeat (first | refine blk_drewN ?_ _ | refine blk_drew ?_ | refine blk_alloc ?_ _)); refine blk_put (cs := #[.int .i64 1, .int .i64 t447, .int .i64 0, .int .i64 0, .string t449]) ?_ 2 _ rfl; (with_reducible repeat (first | refine blk_drewN ?_ _ | refine blk_drew ?_ | refine blk_alloc ?_ _)); refine blk_put (cs := #[.int .i64 1, .int .i64 t447, .int .i64 0, .int .i64 0, .string t449]) ?_ 1 _ rfl; (with_reducible repeat (first | refine blk_drewN ?_ _ | refine blk_drew ?_ | refine blk_alloc ?_ _)); refine blk_put (cs := #[.int .i64 2, .int .i64 t447, .int .i64 0, .int .i64 0, .string t449]) ?_ 0 _ rfl; (with_reducible repeat (first | refine blk_drewN ?_ _ | refine blk_drew ?_ | refine blk_alloc ?_ _)); exact BK451.out⟩, ⟨is_HI0⟩, ⟨kf_ HK.out⟩, ⟨bel_⟩⟩
        ·replace c34 := Bool.eq_false_iff.mpr c34
         subst c34
         have H1 : (if t468 = 2 then (spec_l71Op.j1 kj31 s0_0 t469 3 t447 (rd y454 t457) (rd y462 t465) (⟨#[]⟩ : ByteArray)) else (if t468 = 3 then (spec_l71Op.j1 kj31 s0_0 t469 3 t447 (rd y454 t457) (rd y462 t465) (⟨#[]⟩ : ByteArray)) else (spec_l71Op.j1 kj31 s0_0 t469 2 t447 0 0 t449))) = some (r1, r2, r3, r4, r5, r6) := by rw [if_neg (show ¬ (false = true) by decide)] at H; exact H
         clear H
         have H := H1
         clear H1
         by_cases c38 : t468 = 2
         ·rw [if_pos c38] at H
          have c38b0 : (t468 == 2) = true := beq_iff_eq.mpr c38
          have c38b1 : (t468 != 2) = false := bne_eq_false_iff_eq.mpr c38
          clear c38
          have H' := Aside0.mk H
          clear H
          have hnb39 := NB451_446.out
          have hnc39 := NB446_451.out
          have hnb40 := NB451_0.out
          have hnc40 := NB0_451.out
          have hcz41_0 : wc.cell? ⟨gb451, 0, none⟩ = some (.int .i64 2) := (blk_cell BK451.out 0).trans rfl
          have hcz41_1 : wc.cell? ⟨gb451, 1, none⟩ = some (.int .i64 t447) := (blk_cell BK451.out 1).trans rfl
          have hcz41_2 : wc.cell? ⟨gb451, 2, none⟩ = some (.int .i64 0) := (blk_cell BK451.out 2).trans rfl
          have hcz41_3 : wc.cell? ⟨gb451, 3, none⟩ = some (.int .i64 0) := (blk_cell BK451.out 3).trans rfl
          have hcz41_4 : wc.cell? ⟨gb451, 4, none⟩ = some (.string t449) := (blk_cell BK451.out 4).trans rfl
          have hfz41_0 := blk_frozen BK451.out 0
          have hfz41_1 := blk_frozen BK451.out 1
          have hfz41_2 := blk_frozen BK451.out 2
          have hfz41_3 := blk_frozen BK451.out 3
          have hfz41_4 := blk_frozen BK451.out 4
          go_wp2
          go_meet
          case rel => exact ⟨_, (3), (t447), ((rd y454 t457)), ((rd y462 t465)), ((⟨#[]⟩ : ByteArray)), H', ⟨by have := HJ31.out; first | omega | exact Nat.le_refl _⟩, ⟨by (with_reducible repeat (first | refine blk_drewN ?_ _ | refine blk_drew ?_ | refine blk_alloc ?_ _)); refine blk_far ?_ NB446_451.out _; (with_reducible repeat (first | refine blk_drewN ?_ _ | refine blk_drew ?_ | refine blk_alloc ?_ _)); refine blk_far ?_ NB446_451.out _; (with_reducible repeat (first | refine blk_drewN ?_ _ | refine blk_drew ?_ | refine blk_alloc ?_ _)); refine blk_far ?_ NB446_451.out _; (with_reducible repeat (first | refine blk_drewN ?_ _ | refine blk_drew ?_ | refine blk_alloc ?_ _)); refine blk_far ?_ NB446_451.out _; (with_reducible repeat (first | refine blk_drewN ?_ _ | refine blk_drew ?_ | refine blk_alloc ?_ _)); refine blk_far ?_ NB446_451.out _; (with_reducible repeat (first | refine blk_drewN ?_ _ | refine blk_drew ?_ | refine blk_alloc ?_ _)); exact BK446.out⟩, ⟨by (with_reducible repeat (first | refine blk_drewN ?_ _ | refine blk_drew ?_ | refine blk_alloc ?_ _)); refine blk_put (cs := #[.int .i64 3, .int .i64 t447, .int .i64 (rd y454 t457), .int .i64 (rd y462 t465), .string t449]) ?_ 4 _ rfl; (with_reducible repeat (first | refine blk_drewN ?_ _ | refine blk_drew ?_ | refine blk_alloc ?_ _)); refine blk_put (cs := #[.int .i64 3, .int .i64 t447, .int .i64 (rd y454 t457), .int .i64 0, .string t449]) ?_ 3 _ rfl; (with_reducible repeat (first | refine blk_drewN ?_ _ | refine blk_drew ?_ | refine blk_alloc ?_ _)); refine blk_put (cs := #[.int .i64 3, .int .i64 t447, .int .i64 0, .int .i64 0, .string t449]) ?_ 2 _ rfl; (with_reducible repeat (first | refine blk_drewN ?_ _ | refine blk_drew ?_ | refine blk_alloc ?_ _)); refine blk_put (cs := #[.int .i64 3, .int .i64 t447, .int .i64 0, .int .i64 0, .string t449]) ?_ 1 _ rfl; (with_reducible repeat (first | refine blk_drewN ?_ _ | refine blk_drew ?_ | refine blk_alloc ?_ _)); refine blk_put (cs := #[.int .i64 2, .int .i64 t447, .int .i64 0, .int .i64 0, .string t449]) ?_ 0 _ rfl; (with_reducible repeat (first | refine blk_drewN ?_ _ | refine blk_drew ?_ | refine blk_alloc ?_ _)); exact BK451.out⟩, ⟨is_HI0⟩, ⟨kf_ HK.out⟩, ⟨bel_⟩⟩
         ·rw [if_neg c38] at H
          have c38b0 : (t468 == 2) = false := beq_eq_false_iff_ne.mpr c38
          have c38b1 : (t468 != 2) = true := bne_iff_ne.mpr c38
          by_cases c42 : t468 = 3
          ·rw [if_pos c42] at H
           have c42b0 : (t468 == 3) = true := beq_iff_eq.mpr c42
           have c42b1 : (t468 != 3) = false := bne_eq_false_iff_eq.mpr c42
           clear c42
           have H' := Aside0.mk H
           clear H
           have hnb43 := NB451_446.out
           have hnc43 := NB446_451.out
           have hnb44 := NB451_0.out
           have hnc44 := NB0_451.out
           have hcz45_0 : wc.cell? ⟨gb451, 0, none⟩ = some (.int .i64 2) := (blk_cell BK451.out 0).trans rfl
           have hcz45_1 : wc.cell? ⟨gb451, 1, none⟩ = some (.int .i64 t447) := (blk_cell BK451.out 1).trans rfl
           have hcz45_2 : wc.cell? ⟨gb451, 2, none⟩ = some (.int .i64 0) := (blk_cell BK451.out 2).trans rfl
           have hcz45_3 : wc.cell? ⟨gb451, 3, none⟩ = some (.int .i64 0) := (blk_cell BK451.out 3).trans rfl
           have hcz45_4 : wc.cell? ⟨gb451, 4, none⟩ = some (.string t449) := (blk_cell BK451.out 4).trans rfl
           have hfz45_0 := blk_frozen BK451.out 0
           have hfz45_1 := blk_frozen BK451.out 1
           have hfz45_2 := blk_frozen BK451.out 2
           have hfz45_3 := blk_frozen BK451.out 3
           have hfz45_4 := blk_frozen BK451.out 4
           go_wp2
           go_meet
           case rel => exact ⟨_, (3), (t447), ((rd y454 t457)), ((rd y462 t465)), ((⟨#[]⟩ : ByteArray)), H', ⟨by have := HJ31.out; first | omega | exact Nat.le_refl _⟩, ⟨by (with_reducible repeat (first | refine blk_drewN ?_ _ | refine blk_drew ?_ | refine blk_alloc ?_ _)); refine blk_far ?_ NB446_451.out _; (with_reducible repeat (first | refine blk_drewN ?_ _ | refine blk_drew ?_ | refine blk_alloc ?_ _)); refine blk_far ?_ NB446_451.out _; (with_reducible repeat (first | refine blk_drewN ?_ _ | refine blk_drew ?_ | refine blk_alloc ?_ _)); refine blk_far ?_ NB446_451.out _; (with_reducible repeat (first | refine blk_drewN ?_ _ | refine blk_drew ?_ | refine blk_alloc ?_ _)); refine blk_far ?_ NB446_451.out _; (with_reducible repeat (first | refine blk_drewN ?_ _ | refine blk_drew ?_ | refine blk_alloc ?_ _)); refine blk_far ?_ NB446_451.out _; (with_reducible repeat (first | refine blk_drewN ?_ _ | refine blk_drew ?_ | refine blk_alloc ?_ _)); exact BK446.out⟩, ⟨by (with_reducible repeat (first | refine blk_drewN ?_ _ | refine blk_drew ?_ | refine blk_alloc ?_ _)); refine blk_put (cs := #[.int .i64 3, .int .i64 t447, .int .i64 (rd y454 t457), .int .i64 (rd y462 t465), .string t449]) ?_ 4 _ rfl; (with_reducible repeat (first | refine blk_drewN ?_ _ | refine blk_drew ?_ | refine blk_alloc ?_ _)); refine blk_put (cs := #[.int .i64 3, .int .i64 t447, .int .i64 (rd y454 t457), .int .i64 0, .string t449]) ?_ 3 _ rfl; (with_reducible repeat (first | refine blk_drewN ?_ _ | refine blk_drew ?_ | refine blk_alloc ?_ _)); refine blk_put (cs := #[.int .i64 3, .int .i64 t447, .int .i64 0, .int .i64 0, .string t449]) ?_ 2 _ rfl; (with_reducible repeat (first | refine blk_drewN ?_ _ | refine blk_drew ?_ | refine blk_alloc ?_ _)); refine blk_put (cs := #[.int .i64 3, .int .i64 t447, .int .i64 0, .int .i64 0, .string t449]) ?_ 1 _ rfl; (with_reducible repeat (first | refine blk_drewN ?_ _ | refine blk_drew ?_ | refine blk_alloc ?_ _)); refine blk_put (cs := #[.int .i64 2, .int .i64 t447, .int .i64 0, .int .i64 0, .string t449]) ?_ 0 _ rfl; (with_reducible repeat (first | refine blk_drewN ?_ _ | refine blk_drew ?_ | refine blk_alloc ?_ _)); exact BK451.out⟩, ⟨is_HI0⟩, ⟨kf_ HK.out⟩, ⟨bel_⟩⟩
          ·rw [if_neg c42] at H
           have c42b0 : (t468 == 3) = false := beq_eq_false_iff_ne.mpr c42
           have c42b1 : (t468 != 3) = true := bne_iff_ne.mpr c42
           have H' := Aside0.mk H
           clear H
           go_wp2
           go_meet
           case rel => exact ⟨_, (2), (t447), (0), (0), (t449), H', ⟨by have := HJ31.out; first | omega | exact Nat.le_refl _⟩, ⟨by (with_reducible repeat (first | refine blk_drewN ?_ _ | refine blk_drew ?_ | refine blk_alloc ?_ _)); exact BK446.out⟩, ⟨by (with_reducible repeat (first | refine blk_drewN ?_ _ | refine blk_drew ?_ | refine blk_alloc ?_ _)); exact BK451.out⟩, ⟨is_HI0⟩, ⟨kf_ HK.out⟩, ⟨bel_⟩⟩
     case rest =>
      clear HC13
      try clear c1
      try clear p2
      try clear c3
      try clear c4
      try clear p4
      try clear q4
      try clear hx4
      try clear c6
      try clear c6b0
      try clear c7
      try clear c7b0
      try clear c8
      try clear c10
      try clear c10b0
      try clear c11
      try clear c11b0
      try clear c18
      try clear c19
      try clear c33
      try clear c33b0
      try clear c33b1
      try clear c34
      try clear c35
      try clear c36
      try clear c38
      try clear c38b0
      try clear c38b1
      try clear c39
      try clear c40
      try clear c42
      try clear c42b0
      try clear c42b1
      try clear c43
      try clear c44
      try clear p45
      try clear q45
      try clear hx45
      try clear hcz20_0
      try clear hcz20_1
      try clear hcz20_2
      try clear hcz20_3
      try clear hcz20_4
      try clear hcz37_0
      try clear hcz37_1
      try clear hcz37_2
      try clear hcz37_3
      try clear hcz37_4
      try clear hcz41_0
      try clear hcz41_1
      try clear hcz41_2
      try clear hcz41_3
      try clear hcz41_4
      try clear hcz45_0
      try clear hcz45_1
      try clear hcz45_2
      try clear hcz45_3
      try clear hcz45_4
      try clear hfz20_0
      try clear hfz20_1
      try clear hfz20_2
      try clear hfz20_3
      try clear hfz20_4
      try clear hfz37_0
      try clear hfz37_1
      try clear hfz37_2
      try clear hfz37_3
      try clear hfz37_4
      try clear hfz41_0
      try clear hfz41_1
      try clear hfz41_2
      try clear hfz41_3
      try clear hfz41_4
      try clear hfz45_0
      try clear hfz45_1
      try clear hfz45_2
      try clear hfz45_3
      try clear hfz45_4
      try clear hx459_0
      try clear hx467_0
      try clear p2
      try clear p4
      try clear p459
      try clear p467
      try clear q4
      try clear q459
      try clear q467
      obtain ⟨kq, x452000_12, x452001_12, x452002_12, x452003_12, x452004_12, HA, HJ12, BK446, BK451, HI0, HK, HB⟩ := hcut
      cases kq with
      | zero => exact absurd HA.out (by simp [spec_l71Op.j1])
      | succ kj12 =>
       have H := HA.out
       clear HA
       simp only [spec_l71Op.j1] at H
       replace H := Option.bind_eq_some_iff.mp H
       obtain ⟨⟨t470, t471⟩, A460, H⟩ := H
       try dsimp only at H
       have A46 := Aside0.mk A460
       clear A460
       by_cases c47 : t470 = 0
       ·rw [if_pos c47] at H
        have c47b0 : (t470 == 0) = true := beq_iff_eq.mpr c47
        have c47b1 : (t470 != 0) = false := bne_eq_false_iff_eq.mpr c47
        clear c47
        replace H := Option.bind_eq_some_iff.mp H
        obtain ⟨⟨t472, t473⟩, A480, H⟩ := H
        try dsimp only at H
        have A48 := Aside0.mk A480
        clear A480
        simp only [Option.some.injEq, Prod.mk.injEq] at H
        obtain ⟨rfl, rfl, rfl, rfl, rfl, rfl⟩ := H
        go_wp2_with (first | ((with_reducible refine gate_callee (f := 72) rfl ?_); refine gl_ 46 Tryd.func72 #[.pointer (some ⟨g, 0, none⟩), .int .i64 30] ?_; (with_reducible refine (spec_l6Rd_pick.calls kj12 g s0_0 t469 30 t470 t471 w0 _ ?side1 ?side2 A46.out).mono ?_); (case side1 => exact is_HI0); (case side2 => exact bel_); rintro e w49 ⟨rfl, hi, hb, hk⟩; refine ⟨_, rfl, ?_⟩; replace BK446 := Aside0.mk (kb_ hk BK446.out NB446_0.out); replace BK451 := Aside0.mk (kb_ hk BK451.out NB451_0.out); replace HK := Aside0.mk (KeepBut.trans (kf_ HK.out) hk (.inl rfl)); replace HB := Aside0.mk (hb); replace HI0 := Aside0.mk (hi); (try clear hb hk hi)) | ((with_reducible refine gate_callee (f := 72) rfl ?_); refine gl_ 50 Tryd.func72 #[.pointer (some ⟨g, 0, none⟩), .int .i64 5] ?_; (with_reducible refine (spec_l6Rd_pick.calls kj12 g s0_0 t471 5 t472 t473 w0 _ ?side1 ?side2 A48.out).mono ?_); (case side1 => exact is_HI0); (case side2 => exact bel_); rintro e w50 ⟨rfl, hi, hb, hk⟩; refine ⟨_, rfl, ?_⟩; replace BK446 := Aside0.mk (kb_ hk BK446.out NB446_0.out); replace BK451 := Aside0.mk (kb_ hk BK451.out NB451_0.out); replace HK := Aside0.mk (KeepBut.trans (kf_ HK.out) hk (.inl rfl)); replace HB := Aside0.mk (hb); replace HI0 := Aside0.mk (hi); (try clear hb hk hi); have hnb51 := NB451_446.out; have hnc51 := NB446_451.out; have hnb52 := NB451_0.out; have hnc52 := NB0_451.out; have hcz53_0 := cz_ BK451.out 0 (.int .i64 x452000_12); have hcz53_1 := cz_ BK451.out 1 (.int .i64 x452001_12); have hcz53_2 := cz_ BK451.out 2 (.int .i64 x452002_12); have hcz53_3 := cz_ BK451.out 3 (.int .i64 x452003_12); have hcz53_4 := cz_ BK451.out 4 (.string x452004_12); have hfz53_0 := blk_frozen BK451.out 0; have hfz53_1 := blk_frozen BK451.out 1; have hfz53_2 := blk_frozen BK451.out 2; have hfz53_3 := blk_frozen BK451.out 3; have hfz53_4 := blk_frozen BK451.out 4; have hnb54 := NB446_0.out; have hnc54 := NB0_446.out; have hcz55_0 := cz_ BK446.out 0 (.int .i64 0); have hcz55_1 := cz_ BK446.out 1 (.int .i64 0); have hcz55_2 := cz_ BK446.out 2 (.int .i64 0); have hcz55_3 := cz_ BK446.out 3 (.int .i64 0); have hcz55_4 := cz_ BK446.out 4 (.string (⟨#[]⟩ : ByteArray)); have hfz55_0 := blk_frozen BK446.out 0; have hfz55_1 := blk_frozen BK446.out 1; have hfz55_2 := blk_frozen BK446.out 2; have hfz55_3 := blk_frozen BK446.out 3; have hfz55_4 := blk_frozen BK446.out 4))
        refine bodyPost_ret (results_cell_row rfl _ _ gb446 30 #[.int .i64 t472, .int .i64 x452001_12, .int .i64 x452002_12, .int .i64 x452003_12, .string x452004_12] (0, 0) _ rfl (by (with_reducible repeat (first | refine blk_drewN ?_ _ | refine blk_drew ?_ | refine blk_alloc ?_ _)); refine blk_put (cs := #[.int .i64 t472, .int .i64 x452001_12, .int .i64 x452002_12, .int .i64 x452003_12, .string (⟨#[]⟩ : ByteArray)]) ?_ 4 _ rfl; (with_reducible repeat (first | refine blk_drewN ?_ _ | refine blk_drew ?_ | refine blk_alloc ?_ _)); refine blk_put (cs := #[.int .i64 t472, .int .i64 x452001_12, .int .i64 x452002_12, .int .i64 0, .string (⟨#[]⟩ : ByteArray)]) ?_ 3 _ rfl; (with_reducible repeat (first | refine blk_drewN ?_ _ | refine blk_drew ?_ | refine blk_alloc ?_ _)); refine blk_put (cs := #[.int .i64 t472, .int .i64 x452001_12, .int .i64 0, .int .i64 0, .string (⟨#[]⟩ : ByteArray)]) ?_ 2 _ rfl; (with_reducible repeat (first | refine blk_drewN ?_ _ | refine blk_drew ?_ | refine blk_alloc ?_ _)); refine blk_put (cs := #[.int .i64 t472, .int .i64 0, .int .i64 0, .int .i64 0, .string (⟨#[]⟩ : ByteArray)]) ?_ 1 _ rfl; (with_reducible repeat (first | refine blk_drewN ?_ _ | refine blk_drew ?_ | refine blk_alloc ?_ _)); refine blk_put (cs := #[.int .i64 0, .int .i64 0, .int .i64 0, .int .i64 0, .string (⟨#[]⟩ : ByteArray)]) ?_ 0 _ rfl; (with_reducible repeat (first | refine blk_drewN ?_ _ | refine blk_drew ?_ | refine blk_alloc ?_ _)); refine blk_far ?_ NB446_451.out _; (with_reducible repeat (first | refine blk_drewN ?_ _ | refine blk_drew ?_ | refine blk_alloc ?_ _)); exact BK446.out) Tryd.underlying30 rfl (by kernel_rfl)) rfl ?_
        exact ⟨fi_, is_HI0, bel_, kf_ HK.out⟩
       ·rw [if_neg c47] at H
        have c47b0 : (t470 == 0) = false := beq_eq_false_iff_ne.mpr c47
        have c47b1 : (t470 != 0) = true := bne_iff_ne.mpr c47
        by_cases c56 : t470 = 1
        ·rw [if_pos c56] at H
         have c56b0 : (t470 == 1) = true := beq_iff_eq.mpr c56
         have c56b1 : (t470 != 1) = false := bne_eq_false_iff_eq.mpr c56
         clear c56
         replace H := Option.bind_eq_some_iff.mp H
         obtain ⟨⟨t474, t475⟩, A570, H⟩ := H
         try dsimp only at H
         have A57 := Aside0.mk A570
         clear A570
         simp only [Option.some.injEq, Prod.mk.injEq] at H
         obtain ⟨rfl, rfl, rfl, rfl, rfl, rfl⟩ := H
         go_wp2_with (first | ((with_reducible refine gate_callee (f := 72) rfl ?_); refine gl_ 46 Tryd.func72 #[.pointer (some ⟨g, 0, none⟩), .int .i64 30] ?_; (with_reducible refine (spec_l6Rd_pick.calls kj12 g s0_0 t469 30 t470 t471 w0 _ ?side1 ?side2 A46.out).mono ?_); (case side1 => exact is_HI0); (case side2 => exact bel_); rintro e w58 ⟨rfl, hi, hb, hk⟩; refine ⟨_, rfl, ?_⟩; replace BK446 := Aside0.mk (kb_ hk BK446.out NB446_0.out); replace BK451 := Aside0.mk (kb_ hk BK451.out NB451_0.out); replace HK := Aside0.mk (KeepBut.trans (kf_ HK.out) hk (.inl rfl)); replace HB := Aside0.mk (hb); replace HI0 := Aside0.mk (hi); (try clear hb hk hi)) | ((with_reducible refine gate_callee (f := 72) rfl ?_); refine gl_ 55 Tryd.func72 #[.pointer (some ⟨g, 0, none⟩), .int .i64 50] ?_; (with_reducible refine (spec_l6Rd_pick.calls kj12 g s0_0 t471 50 t474 t475 w0 _ ?side1 ?side2 A57.out).mono ?_); (case side1 => exact is_HI0); (case side2 => exact bel_); rintro e w59 ⟨rfl, hi, hb, hk⟩; refine ⟨_, rfl, ?_⟩; replace BK446 := Aside0.mk (kb_ hk BK446.out NB446_0.out); replace BK451 := Aside0.mk (kb_ hk BK451.out NB451_0.out); replace HK := Aside0.mk (KeepBut.trans (kf_ HK.out) hk (.inl rfl)); replace HB := Aside0.mk (hb); replace HI0 := Aside0.mk (hi); (try clear hb hk hi); have hnb60 := NB451_446.out; have hnc60 := NB446_451.out; have hnb61 := NB451_0.out; have hnc61 := NB0_451.out; have hcz62_0 := cz_ BK451.out 0 (.int .i64 x452000_12); have hcz62_1 := cz_ BK451.out 1 (.int .i64 x452001_12); have hcz62_2 := cz_ BK451.out 2 (.int .i64 x452002_12); have hcz62_3 := cz_ BK451.out 3 (.int .i64 x452003_12); have hcz62_4 := cz_ BK451.out 4 (.string x452004_12); have hfz62_0 := blk_frozen BK451.out 0; have hfz62_1 := blk_frozen BK451.out 1; have hfz62_2 := blk_frozen BK451.out 2; have hfz62_3 := blk_frozen BK451.out 3; have hfz62_4 := blk_frozen BK451.out 4; have hnb63 := NB446_0.out; have hnc63 := NB0_446.out; have hcz64_0 := cz_ BK446.out 0 (.int .i64 0); have hcz64_1 := cz_ BK446.out 1 (.int .i64 0); have hcz64_2 := cz_ BK446.out 2 (.int .i64 0); have hcz64_3 := cz_ BK446.out 3 (.int .i64 0); have hcz64_4 := cz_ BK446.out 4 (.string (⟨#[]⟩ : ByteArray)); have hfz64_0 := blk_frozen BK446.out 0; have hfz64_1 := blk_frozen BK446.out 1; have hfz64_2 := blk_frozen BK446.out 2; have hfz64_3 := blk_frozen BK446.out 3; have hfz64_4 := blk_frozen BK446.out 4))
         refine bodyPost_ret (results_cell_row rfl _ _ gb446 30 #[.int .i64 x452000_12, .int .i64 t474, .int .i64 x452002_12, .int .i64 x452003_12, .string x452004_12] (0, 0) _ rfl (by (with_reducible repeat (first | refine blk_drewN ?_ _ | refine blk_drew ?_ | refine blk_alloc ?_ _)); refine blk_put (cs := #[.int .i64 x452000_12, .int .i64 t474, .int .i64 x452002_12, .int .i64 x452003_12, .string (⟨#[]⟩ : ByteArray)]) ?_ 4 _ rfl; (with_reducible repeat (first | refine blk_drewN ?_ _ | refine blk_drew ?_ | refine blk_alloc ?_ _)); refine blk_put (cs := #[.int .i64 x452000_12, .int .i64 t474, .int .i64 x452002_12, .int .i64 0, .string (⟨#[]⟩ : ByteArray)]) ?_ 3 _ rfl; (with_reducible repeat (first | refine blk_drewN ?_ _ | refine blk_drew ?_ | refine blk_alloc ?_ _)); refine blk_put (cs := #[.int .i64 x452000_12, .int .i64 t474, .int .i64 0, .int .i64 0, .string (⟨#[]⟩ : ByteArray)]) ?_ 2 _ rfl; (with_reducible repeat (first | refine blk_drewN ?_ _ | refine blk_drew ?_ | refine blk_alloc ?_ _)); refine blk_put (cs := #[.int .i64 x452000_12, .int .i64 0, .int .i64 0, .int .i64 0, .string (⟨#[]⟩ : ByteArray)]) ?_ 1 _ rfl; (with_reducible repeat (first | refine blk_drewN ?_ _ | refine blk_drew ?_ | refine blk_alloc ?_ _)); refine blk_put (cs := #[.int .i64 0, .int .i64 0, .int .i64 0, .int .i64 0, .string (⟨#[]⟩ : ByteArray)]) ?_ 0 _ rfl; (with_reducible repeat (first | refine blk_drewN ?_ _ | refine blk_drew ?_ | refine blk_alloc ?_ _)); refine blk_far ?_ NB446_451.out _; (with_reducible repeat (first | refine blk_drewN ?_ _ | refine blk_drew ?_ | refine blk_alloc ?_ _)); exact BK446.out) Tryd.underlying30 rfl (by kernel_rfl)) rfl ?_
         exact ⟨fi_, is_HI0, bel_, kf_ HK.out⟩
        ·rw [if_neg c56] at H
         have c56b0 : (t470 == 1) = false := beq_eq_false_iff_ne.mpr c56
         have c56b1 : (t470 != 1) = true := bne_iff_ne.mpr c56
         by_cases c65 : t470 = 2
         ·rw [if_pos c65] at H
          have c65b0 : (t470 == 2) = true := beq_iff_eq.mpr c65
          have c65b1 : (t470 != 2) = false := bne_eq_false_iff_eq.mpr c65
          clear c65
          replace H := Option.bind_eq_some_iff.mp H
          obtain ⟨⟨t476, t477⟩, A660, H⟩ := H
          try dsimp only at H
          have A66 := Aside0.mk A660
          clear A660
          simp only [Option.some.injEq, Prod.mk.injEq] at H
          obtain ⟨rfl, rfl, rfl, rfl, rfl, rfl⟩ := H
          go_wp2_with (first | ((with_reducible refine gate_callee (f := 72) rfl ?_); refine gl_ 46 Tryd.func72 #[.pointer (some ⟨g, 0, none⟩), .int .i64 30] ?_; (with_reducible refine (spec_l6Rd_pick.calls kj12 g s0_0 t469 30 t470 t471 w0 _ ?side1 ?side2 A46.out).mono ?_); (case side1 => exact is_HI0); (case side2 => exact bel_); rintro e w67 ⟨rfl, hi, hb, hk⟩; refine ⟨_, rfl, ?_⟩; replace BK446 := Aside0.mk (kb_ hk BK446.out NB446_0.out); replace BK451 := Aside0.mk (kb_ hk BK451.out NB451_0.out); replace HK := Aside0.mk (KeepBut.trans (kf_ HK.out) hk (.inl rfl)); replace HB := Aside0.mk (hb); replace HI0 := Aside0.mk (hi); (try clear hb hk hi)) | ((with_reducible refine gate_callee (f := 72) rfl ?_); refine gl_ 60 Tryd.func72 #[.pointer (some ⟨g, 0, none⟩), .int .i64 50] ?_; (with_reducible refine (spec_l6Rd_pick.calls kj12 g s0_0 t471 50 t476 t477 w0 _ ?side1 ?side2 A66.out).mono ?_); (case side1 => exact is_HI0); (case side2 => exact bel_); rintro e w68 ⟨rfl, hi, hb, hk⟩; refine ⟨_, rfl, ?_⟩; replace BK446 := Aside0.mk (kb_ hk BK446.out NB446_0.out); replace BK451 := Aside0.mk (kb_ hk BK451.out NB451_0.out); replace HK := Aside0.mk (KeepBut.trans (kf_ HK.out) hk (.inl rfl)); replace HB := Aside0.mk (hb); replace HI0 := Aside0.mk (hi); (try clear hb hk hi); have hnb69 := NB451_446.out; have hnc69 := NB446_451.out; have hnb70 := NB451_0.out; have hnc70 := NB0_451.out; have hcz71_0 := cz_ BK451.out 0 (.int .i64 x452000_12); have hcz71_1 := cz_ BK451.out 1 (.int .i64 x452001_12); have hcz71_2 := cz_ BK451.out 2 (.int .i64 x452002_12); have hcz71_3 := cz_ BK451.out 3 (.int .i64 x452003_12); have hcz71_4 := cz_ BK451.out 4 (.string x452004_12); have hfz71_0 := blk_frozen BK451.out 0; have hfz71_1 := blk_frozen BK451.out 1; have hfz71_2 := blk_frozen BK451.out 2; have hfz71_3 := blk_frozen BK451.out 3; have hfz71_4 := blk_frozen BK451.out 4; have hnb72 := NB446_0.out; have hnc72 := NB0_446.out; have hcz73_0 := cz_ BK446.out 0 (.int .i64 0); have hcz73_1 := cz_ BK446.out 1 (.int .i64 0); have hcz73_2 := cz_ BK446.out 2 (.int .i64 0); have hcz73_3 := cz_ BK446.out 3 (.int .i64 0); have hcz73_4 := cz_ BK446.out 4 (.string (⟨#[]⟩ : ByteArray)); have hfz73_0 := blk_frozen BK446.out 0; have hfz73_1 := blk_frozen BK446.out 1; have hfz73_2 := blk_frozen BK446.out 2; have hfz73_3 := blk_frozen BK446.out 3; have hfz73_4 := blk_frozen BK446.out 4))
          refine bodyPost_ret (results_cell_row rfl _ _ gb446 30 #[.int .i64 x452000_12, .int .i64 x452001_12, .int .i64 t476, .int .i64 x452003_12, .string x452004_12] (0, 0) _ rfl (by (with_reducible repeat (first | refine blk_drewN ?_ _ | refine blk_drew ?_ | refine blk_alloc ?_ _)); refine blk_put (cs := #[.int .i64 x452000_12, .int .i64 x452001_12, .int .i64 t476, .int .i64 x452003_12, .string (⟨#[]⟩ : ByteArray)]) ?_ 4 _ rfl; (with_reducible repeat (first | refine blk_drewN ?_ _ | refine blk_drew ?_ | refine blk_alloc ?_ _)); refine blk_put (cs := #[.int .i64 x452000_12, .int .i64 x452001_12, .int .i64 t476, .int .i64 0, .string (⟨#[]⟩ : ByteArray)]) ?_ 3 _ rfl; (with_reducible repeat (first | refine blk_drewN ?_ _ | refine blk_drew ?_ | refine blk_alloc ?_ _)); refine blk_put (cs := #[.int .i64 x452000_12, .int .i64 x452001_12, .int .i64 0, .int .i64 0, .string (⟨#[]⟩ : ByteArray)]) ?_ 2 _ rfl; (with_reducible repeat (first | refine blk_drewN ?_ _ | refine blk_drew ?_ | refine blk_alloc ?_ _)); refine blk_put (cs := #[.int .i64 x452000_12, .int .i64 0, .int .i64 0, .int .i64 0, .string (⟨#[]⟩ : ByteArray)]) ?_ 1 _ rfl; (with_reducible repeat (first | refine blk_drewN ?_ _ | refine blk_drew ?_ | refine blk_alloc ?_ _)); refine blk_put (cs := #[.int .i64 0, .int .i64 0, .int .i64 0, .int .i64 0, .string (⟨#[]⟩ : ByteArray)]) ?_ 0 _ rfl; (with_reducible repeat (first | refine blk_drewN ?_ _ | refine blk_drew ?_ | refine blk_alloc ?_ _)); refine blk_far ?_ NB446_451.out _; (with_reducible repeat (first | refine blk_drewN ?_ _ | refine blk_drew ?_ | refine blk_alloc ?_ _)); exact BK446.out) Tryd.underlying30 rfl (by kernel_rfl)) rfl ?_
          exact ⟨fi_, is_HI0, bel_, kf_ HK.out⟩
         ·rw [if_neg c65] at H
          have c65b0 : (t470 == 2) = false := beq_eq_false_iff_ne.mpr c65
          have c65b1 : (t470 != 2) = true := bne_iff_ne.mpr c65
          by_cases c74 : t470 = 3
          ·rw [if_pos c74] at H
           have c74b0 : (t470 == 3) = true := beq_iff_eq.mpr c74
           have c74b1 : (t470 != 3) = false := bne_eq_false_iff_eq.mpr c74
           clear c74
           replace H := Option.bind_eq_some_iff.mp H
           obtain ⟨⟨t478, t479⟩, A750, H⟩ := H
           try dsimp only at H
           have A75 := Aside0.mk A750
           clear A750
           simp only [Option.some.injEq, Prod.mk.injEq] at H
           obtain ⟨rfl, rfl, rfl, rfl, rfl, rfl⟩ := H
           go_wp2_with (first | ((with_reducible refine gate_callee (f := 72) rfl ?_); refine gl_ 46 Tryd.func72 #[.pointer (some ⟨g, 0, none⟩), .int .i64 30] ?_; (with_reducible refine (spec_l6Rd_pick.calls kj12 g s0_0 t469 30 t470 t471 w0 _ ?side1 ?side2 A46.out).mono ?_); (case side1 => exact is_HI0); (case side2 => exact bel_); rintro e w76 ⟨rfl, hi, hb, hk⟩; refine ⟨_, rfl, ?_⟩; replace BK446 := Aside0.mk (kb_ hk BK446.out NB446_0.out); replace BK451 := Aside0.mk (kb_ hk BK451.out NB451_0.out); replace HK := Aside0.mk (KeepBut.trans (kf_ HK.out) hk (.inl rfl)); replace HB := Aside0.mk (hb); replace HI0 := Aside0.mk (hi); (try clear hb hk hi)) | ((with_reducible refine gate_callee (f := 72) rfl ?_); refine gl_ 65 Tryd.func72 #[.pointer (some ⟨g, 0, none⟩), .int .i64 50] ?_; (with_reducible refine (spec_l6Rd_pick.calls kj12 g s0_0 t471 50 t478 t479 w0 _ ?side1 ?side2 A75.out).mono ?_); (case side1 => exact is_HI0); (case side2 => exact bel_); rintro e w77 ⟨rfl, hi, hb, hk⟩; refine ⟨_, rfl, ?_⟩; replace BK446 := Aside0.mk (kb_ hk BK446.out NB446_0.out); replace BK451 := Aside0.mk (kb_ hk BK451.out NB451_0.out); replace HK := Aside0.mk (KeepBut.trans (kf_ HK.out) hk (.inl rfl)); replace HB := Aside0.mk (hb); replace HI0 := Aside0.mk (hi); (try clear hb hk hi); have hnb78 := NB451_446.out; have hnc78 := NB446_451.out; have hnb79 := NB451_0.out; have hnc79 := NB0_451.out; have hcz80_0 := cz_ BK451.out 0 (.int .i64 x452000_12); have hcz80_1 := cz_ BK451.out 1 (.int .i64 x452001_12); have hcz80_2 := cz_ BK451.out 2 (.int .i64 x452002_12); have hcz80_3 := cz_ BK451.out 3 (.int .i64 x452003_12); have hcz80_4 := cz_ BK451.out 4 (.string x452004_12); have hfz80_0 := blk_frozen BK451.out 0; have hfz80_1 := blk_frozen BK451.out 1; have hfz80_2 := blk_frozen BK451.out 2; have hfz80_3 := blk_frozen BK451.out 3; have hfz80_4 := blk_frozen BK451.out 4; have hnb81 := NB446_0.out; have hnc81 := NB0_446.out; have hcz82_0 := cz_ BK446.out 0 (.int .i64 0); have hcz82_1 := cz_ BK446.out 1 (.int .i64 0); have hcz82_2 := cz_ BK446.out 2 (.int .i64 0); have hcz82_3 := cz_ BK446.out 3 (.int .i64 0); have hcz82_4 := cz_ BK446.out 4 (.string (⟨#[]⟩ : ByteArray)); have hfz82_0 := blk_frozen BK446.out 0; have hfz82_1 := blk_frozen BK446.out 1; have hfz82_2 := blk_frozen BK446.out 2; have hfz82_3 := blk_frozen BK446.out 3; have hfz82_4 := blk_frozen BK446.out 4))
           refine bodyPost_ret (results_cell_row rfl _ _ gb446 30 #[.int .i64 x452000_12, .int .i64 x452001_12, .int .i64 x452002_12, .int .i64 t478, .string x452004_12] (0, 0) _ rfl (by (with_reducible repeat (first | refine blk_drewN ?_ _ | refine blk_drew ?_ | refine blk_alloc ?_ _)); refine blk_put (cs := #[.int .i64 x452000_12, .int .i64 x452001_12, .int .i64 x452002_12, .int .i64 t478, .string (⟨#[]⟩ : ByteArray)]) ?_ 4 _ rfl; (with_reducible repeat (first | refine blk_drewN ?_ _ | refine blk_drew ?_ | refine blk_alloc ?_ _)); refine blk_put (cs := #[.int .i64 x452000_12, .int .i64 x452001_12, .int .i64 x452002_12, .int .i64 0, .string (⟨#[]⟩ : ByteArray)]) ?_ 3 _ rfl; (with_reducible repeat (first | refine blk_drewN ?_ _ | refine blk_drew ?_ | refine blk_alloc ?_ _)); refine blk_put (cs := #[.int .i64 x452000_12, .int .i64 x452001_12, .int .i64 0, .int .i64 0, .string (⟨#[]⟩ : ByteArray)]) ?_ 2 _ rfl; (with_reducible repeat (first | refine blk_drewN ?_ _ | refine blk_drew ?_ | refine blk_alloc ?_ _)); refine blk_put (cs := #[.int .i64 x452000_12, .int .i64 0, .int .i64 0, .int .i64 0, .string (⟨#[]⟩ : ByteArray)]) ?_ 1 _ rfl; (with_reducible repeat (first | refine blk_drewN ?_ _ | refine blk_drew ?_ | refine blk_alloc ?_ _)); refine blk_put (cs := #[.int .i64 0, .int .i64 0, .int .i64 0, .int .i64 0, .string (⟨#[]⟩ : ByteArray)]) ?_ 0 _ rfl; (with_reducible repeat (first | refine blk_drewN ?_ _ | refine blk_drew ?_ | refine blk_alloc ?_ _)); refine blk_far ?_ NB446_451.out _; (with_reducible repeat (first | refine blk_drewN ?_ _ | refine blk_drew ?_ | refine blk_alloc ?_ _)); exact BK446.out) Tryd.underlying30 rfl (by kernel_rfl)) rfl ?_
           exact ⟨fi_, is_HI0, bel_, kf_ HK.out⟩
          ·rw [if_neg c74] at H
           have c74b0 : (t470 == 3) = false := beq_eq_false_iff_ne.mpr c74
           have c74b1 : (t470 != 3) = true := bne_iff_ne.mpr c74
           simp only [Option.some.injEq, Prod.mk.injEq] at H
           obtain ⟨rfl, rfl, rfl, rfl, rfl, rfl⟩ := H
           go_wp2_with (first | ((with_reducible refine gate_callee (f := 72) rfl ?_); refine gl_ 46 Tryd.func72 #[.pointer (some ⟨g, 0, none⟩), .int .i64 30] ?_; (with_reducible refine (spec_l6Rd_pick.calls kj12 g s0_0 t469 30 t470 t471 w0 _ ?side1 ?side2 A46.out).mono ?_); (case side1 => exact is_HI0); (case side2 => exact bel_); rintro e w83 ⟨rfl, hi, hb, hk⟩; refine ⟨_, rfl, ?_⟩; replace BK446 := Aside0.mk (kb_ hk BK446.out NB446_0.out); replace BK451 := Aside0.mk (kb_ hk BK451.out NB451_0.out); replace HK := Aside0.mk (KeepBut.trans (kf_ HK.out) hk (.inl rfl)); replace HB := Aside0.mk (hb); replace HI0 := Aside0.mk (hi); (try clear hb hk hi); have hnb84 := NB451_446.out; have hnc84 := NB446_451.out; have hnb85 := NB451_0.out; have hnc85 := NB0_451.out; have hcz86_0 := cz_ BK451.out 0 (.int .i64 x452000_12); have hcz86_1 := cz_ BK451.out 1 (.int .i64 x452001_12); have hcz86_2 := cz_ BK451.out 2 (.int .i64 x452002_12); have hcz86_3 := cz_ BK451.out 3 (.int .i64 x452003_12); have hcz86_4 := cz_ BK451.out 4 (.string x452004_12); have hfz86_0 := blk_frozen BK451.out 0; have hfz86_1 := blk_frozen BK451.out 1; have hfz86_2 := blk_frozen BK451.out 2; have hfz86_3 := blk_frozen BK451.out 3; have hfz86_4 := blk_frozen BK451.out 4; have hnb87 := NB446_0.out; have hnc87 := NB0_446.out; have hcz88_0 := cz_ BK446.out 0 (.int .i64 0); have hcz88_1 := cz_ BK446.out 1 (.int .i64 0); have hcz88_2 := cz_ BK446.out 2 (.int .i64 0); have hcz88_3 := cz_ BK446.out 3 (.int .i64 0); have hcz88_4 := cz_ BK446.out 4 (.string (⟨#[]⟩ : ByteArray)); have hfz88_0 := blk_frozen BK446.out 0; have hfz88_1 := blk_frozen BK446.out 1; have hfz88_2 := blk_frozen BK446.out 2; have hfz88_3 := blk_frozen BK446.out 3; have hfz88_4 := blk_frozen BK446.out 4))
           refine bodyPost_ret (results_cell_row rfl _ _ gb446 30 #[.int .i64 x452000_12, .int .i64 x452001_12, .int .i64 x452002_12, .int .i64 x452003_12, .string x452004_12] (0, 0) _ rfl (by (with_reducible repeat (first | refine blk_drewN ?_ _ | refine blk_drew ?_ | refine blk_alloc ?_ _)); refine blk_put (cs := #[.int .i64 x452000_12, .int .i64 x452001_12, .int .i64 x452002_12, .int .i64 x452003_12, .string (⟨#[]⟩ : ByteArray)]) ?_ 4 _ rfl; (with_reducible repeat (first | refine blk_drewN ?_ _ | refine blk_drew ?_ | refine blk_alloc ?_ _)); refine blk_put (cs := #[.int .i64 x452000_12, .int .i64 x452001_12, .int .i64 x452002_12, .int .i64 0, .string (⟨#[]⟩ : ByteArray)]) ?_ 3 _ rfl; (with_reducible repeat (first | refine blk_drewN ?_ _ | refine blk_drew ?_ | refine blk_alloc ?_ _)); refine blk_put (cs := #[.int .i64 x452000_12, .int .i64 x452001_12, .int .i64 0, .int .i64 0, .string (⟨#[]⟩ : ByteArray)]) ?_ 2 _ rfl; (with_reducible repeat (first | refine blk_drewN ?_ _ | refine blk_drew ?_ | refine blk_alloc ?_ _)); refine blk_put (cs := #[.int .i64 x452000_12, .int .i64 0, .int .i64 0, .int .i64 0, .string (⟨#[]⟩ : ByteArray)]) ?_ 1 _ rfl; (with_reducible repeat (first | refine blk_drewN ?_ _ | refine blk_drew ?_ | refine blk_alloc ?_ _)); refine blk_put (cs := #[.int .i64 0, .int .i64 0, .int .i64 0, .int .i64 0, .string (⟨#[]⟩ : ByteArray)]) ?_ 0 _ rfl; (with_reducible repeat (first | refine blk_drewN ?_ _ | refine blk_drew ?_ | refine blk_alloc ?_ _)); exact BK446.out) Tryd.underlying30 rfl (by kernel_rfl)) rfl ?_
           exact ⟨fi_, is_HI0, bel_, kf_ HK.out⟩
    ·rw [if_neg c11] at H
     exact absurd H (by simp)
   ·rw [if_neg c10] at H
    exact absurd H (by simp)
  ·rw [if_neg c7] at H
   exact absurd H (by simp)
 ·rw [if_neg c6] at H
  exact absurd H (by simp)

end Go.Proofs.YtkopimbbgckcnaaDoor.P
