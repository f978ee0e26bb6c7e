/- Joined by a program (wip/shake.py): the declarations that 'YtkopimbbgckcnaaDoorCardFnMoveAll' reaches. -/
import Derived.Test.YtkopimbbgckcnaaDoorZDk0
set_option linter.unusedVariables false
set_option linter.unusedSimpArgs false
set_option linter.unusedSectionVars false
namespace Go.Proofs.YtkopimbbgckcnaaDoor.P
open Go.RowKit Go.Proofs.YtkopimbbgckcnaaDoorW.PrintWords Go.Proofs.YtkopimbbgckcnaaDoorW.PrintLast
mutual
def spec_l3Put.j0 : Nat → List (S43) → List (S43) → Int → Int → Option ((List (S43)))
 | 0, _, _, _, _ => none
 | k + 1, x0, x1, x10, x11 => (some (([] : List (S43)) : List (S43))).bind fun y164 => (if 0 ≤ x11 then (if x11 ≤ (x0.length : Int) then ((some (x0.take (x11 : Int).toNat : List (S43))).bind fun y167 => (if y164.length + y167.length < 4398046511104 then (spec_l3Put.l0 k x0 x1 x10 x11 (y164 ++ y167) 0) else (none))) else (none)) else (none))
def spec_l3Put.l0 : Nat → List (S43) → List (S43) → Int → Int → List (S43) → Int → Option ((List (S43)))
 | 0, _, _, _, _, _, _ => none
 | k + 1, x0, x1, x10, x11, x12, x13 => if x13 < (x1.length : Int) then (if 0 ≤ x13 then (if x12.length < 4398046511104 then (spec_l3Put.l0 k x0 x1 x10 x11 (x12 ++ [(⟨(rd_T43 x1 x13).f0, wrap64 (((rd_T43 x1 x13).f1) + x10), (rd_T43 x1 x13).f2⟩ : S43)]) (wrap64 (x13 + 1))) else (none)) else (none)) else (if 0 ≤ x11 then (if x11 ≤ (x0.length : Int) then ((some (x0.drop (x11 : Int).toNat : List (S43))).bind fun y179 => (if x12.length + y179.length < 4398046511104 then (some (x12 ++ y179)) else (none))) else (none)) else (none))
end
def spec_l3Put.f (k : Nat) (l0 : List (S43)) (l1 : List (S43)) (a2 : Int) (a3 : Int) : Option ((List (S43))) := (spec_l2At.f k l0 a2).bind fun t159 => (if 0 ≤ t159 then (if t159 < (l0.length : Int) then (if 0 < (l1.length : Int) then (if a3 > 0 then ((spec_l2At.f k l0 a3).bind fun t162 => ((spec_l2End.f k l0 t162).bind fun t163 => (spec_l3Put.j0 k l0 l1 (wrap64 ((wrap64 (((rd_T43 l0 t159).f1) + 1)) - ((rd_T43 l1 0).f1))) t163))) else (spec_l3Put.j0 k l0 l1 (wrap64 ((wrap64 (((rd_T43 l0 t159).f1) + 1)) - ((rd_T43 l1 0).f1))) (wrap64 (t159 + 1)))) else (none)) else (none)) else (none))
theorem spec_l3Put.mono_l : ∀ k, (∀ y0 y1 y2 y3, LeO (spec_l3Put.j0 k y0 y1 y2 y3) (spec_l3Put.j0 (k + 1) y0 y1 y2 y3)) ∧ (∀ y0 y1 y2 y3 y4 y5, LeO (spec_l3Put.l0 k y0 y1 y2 y3 y4 y5) (spec_l3Put.l0 (k + 1) y0 y1 y2 y3 y4 y5))
 | 0 => ⟨fun _ _ _ _ r h => by simp [spec_l3Put.j0] at h, fun _ _ _ _ _ _ r h => by simp [spec_l3Put.l0] at h⟩
 | k + 1 => by
  obtain ⟨ih0, ih1⟩ := spec_l3Put.mono_l k
  refine ⟨?_, ?_⟩
  all_goals intros
  all_goals first | unfold spec_l3Put.j0 | unfold spec_l3Put.l0
  all_goals repeat' first
  | (with_reducible exact ih0 _ _ _ _)
  | (with_reducible exact ih1 _ _ _ _ _ _)
  | (with_reducible exact spec_l2At.mono _ _ _)
  | (with_reducible exact spec_l2End.mono _ _ _)
  | (with_reducible exact LeO.refl _)
  | (with_reducible exact LeO.none _)
  | (with_reducible refine LeO.ite ?_ ?_)
  | (with_reducible refine LeO.bind ?_ (fun _ => ?_))
  | exact ih0 _ _ _ _
  | exact ih1 _ _ _ _ _ _
  | exact spec_l2At.mono _ _ _
  | exact spec_l2End.mono _ _ _
  | exact LeO.none _
  | refine LeO.ite ?_ ?_
  | refine LeO.bind ?_ (fun _ => ?_)
theorem spec_l3Put.mono : ∀ a0 a1 a2 a3 k, LeO (spec_l3Put.f k a0 a1 a2 a3) (spec_l3Put.f (k + 1) a0 a1 a2 a3) := by
 intro a0 a1 a2 a3 k
 obtain ⟨ih0, ih1⟩ := spec_l3Put.mono_l k
 unfold spec_l3Put.f
 repeat' first
   | (with_reducible exact ih0 _ _ _ _)
   | (with_reducible exact ih1 _ _ _ _ _ _)
   | (with_reducible exact spec_l2At.mono _ _ _)
   | (with_reducible exact spec_l2End.mono _ _ _)
   | (with_reducible exact LeO.refl _)
   | (with_reducible exact LeO.none _)
   | (with_reducible refine LeO.ite ?_ ?_)
   | (with_reducible refine LeO.bind ?_ (fun _ => ?_))
   | exact ih0 _ _ _ _
   | exact ih1 _ _ _ _ _ _
   | exact spec_l2At.mono _ _ _
   | exact spec_l2End.mono _ _ _
   | exact LeO.none _
   | refine LeO.ite ?_ ?_
   | refine LeO.bind ?_ (fun _ => ?_)
set_option maxHeartbeats 8000000 in
set_option maxRecDepth 100000 in
theorem spec_l3Put.calls (k : Nat) (A0 : Option Addr) (c0 : Nat) (l0 : List (S43)) (A1 : Option Addr) (c1 : Nat) (l1 : List (S43)) (a2 : Int) (a3 : Int) (r : List (S43)) (w : World) (hr0 : Kd.C k43 w A0 l0.length l0) (hc0 : l0.length ≤ c0) (hr1 : Kd.C k43 w A1 l1.length l1) (hc1 : l1.length ≤ c1) (h : spec_l3Put.f k l0 l1 a2 a3 = some r) :
  Calls Tryd.prog 62 #[.slice A0 l0.length c0, .slice A1 l1.length c1, .int .i64 a2, .int .i64 a3] w fun e w' => ∃ v0_ : Value, e = .returned (v0_) ∧ Kd.R k43 43 w' w.heap.size (fun _ => True) v0_ r ∧ Below w.heap.size w w' := by
 have hu43 := Tryd.underlying43
 have HR0 := Aside0.mk hr0
 have HC0 := Aside0.mk hc0
 clear hr0 hc0
 have HR1 := Aside0.mk hr1
 have HC1 := Aside0.mk hc1
 clear hr1 hc1
 have HB := Aside0.mk (Below.refl w.heap.size w)
 unfold spec_l3Put.f at h
 have H := h
 clear h
 replace H := Option.bind_eq_some_iff.mp H
 obtain ⟨t159, A50, H⟩ := H
 try dsimp only at H
 have A5 := Aside0.mk A50
 clear A50
 by_cases c6 : 0 ≤ t159
 ·rw [if_pos c6] at H
  have c6b0 : decide (0 ≤ t159) = true := decide_eq_true c6
  clear c6
  by_cases c7 : t159 < (l0.length : Int)
  ·rw [if_pos c7] at H
   have c7b0 : decide (t159 < (l0.length : Int)) = true := decide_eq_true c7
   clear c7
   by_cases c8 : 0 < (l1.length : Int)
   ·rw [if_pos c8] at H
    have c8b0 : decide (0 < (l1.length : Int)) = true := decide_eq_true c8
    have c8b1 : decide (0 < l1.length) = true := decide_eq_true (by omega)
    clear c8
    have HC9 := Aside0.mk H
    clear H
    go_enter Tryd.func62, Tryd.ntmps62
    go_upto_if 32 with (first | (go_at_call 60; (with_reducible refine (spec_l2At.calls k _ _ l0 a2 t159 _ ?side1 ?side2 A5.out).mono ?_); (case side1 => exact cx_ HR0.out); (case side2 => exact HC0.out); rintro e w' ⟨rfl, ⟨nd, rfl⟩⟩; (try first | exact ⟨rfl, _, World.drewN_drewN _ _ _⟩ | exact ⟨rfl, _, Eq.trans (World.drewN_drewN _ _ _) (congrArg (World.drewN _) (Nat.add_assoc _ _ _))⟩); have p160 : 0 ≤ (t159 : Int) := od_; have q160 : t159 < (l0.length : Int) := od_; obtain ⟨ad160, e160, hx160_0, hx160_1, hx160_2⟩ := at_T43 HR0.out t159 p160 q160; cases e160; replace p160 := eq_true p160; replace q160 := eq_true q160; have p161 : 0 ≤ (0 : Int) := (by omega); have q161 : 0 < (l1.length : Int) := od_; obtain ⟨ad161, e161, hx161_0, hx161_1, hx161_2⟩ := at_T43 HR1.out 0 p161 q161; cases e161; have qi161 : (0 < l1.length) = True := eq_true (by omega); (try rw [show ((0 : Int)).toNat = 0 from rfl] at hx161_0); (try rw [show 0 * 3 = 0 from rfl] at hx161_0); (try rw [Addr.add_zero'] at hx161_0); (try rw [show ((0 : Int)).toNat = 0 from rfl] at hx161_1); (try rw [show 0 * 3 = 0 from rfl] at hx161_1); (try rw [Addr.add_zero'] at hx161_1); (try rw [show ((0 : Int)).toNat = 0 from rfl] at hx161_2); (try rw [show 0 * 3 = 0 from rfl] at hx161_2); (try rw [Addr.add_zero'] at hx161_2); replace p161 := eq_true p161; replace q161 := eq_true q161))
    repeat (go_quiet (first | (go_at_call 60; (with_reducible refine (spec_l2At.calls k _ _ l0 a2 t159 _ ?side1 ?side2 A5.out).mono ?_); (case side1 => exact cx_ HR0.out); (case side2 => exact HC0.out); rintro e w' ⟨rfl, ⟨nd, rfl⟩⟩; (try first | exact ⟨rfl, _, World.drewN_drewN _ _ _⟩ | exact ⟨rfl, _, Eq.trans (World.drewN_drewN _ _ _) (congrArg (World.drewN _) (Nat.add_assoc _ _ _))⟩); have p160 : 0 ≤ (t159 : Int) := od_; have q160 : t159 < (l0.length : Int) := od_; obtain ⟨ad160, e160, hx160_0, hx160_1, hx160_2⟩ := at_T43 HR0.out t159 p160 q160; cases e160; replace p160 := eq_true p160; replace q160 := eq_true q160; have p161 : 0 ≤ (0 : Int) := (by omega); have q161 : 0 < (l1.length : Int) := od_; obtain ⟨ad161, e161, hx161_0, hx161_1, hx161_2⟩ := at_T43 HR1.out 0 p161 q161; cases e161; have qi161 : (0 < l1.length) = True := eq_true (by omega); (try rw [show ((0 : Int)).toNat = 0 from rfl] at hx161_0); (try rw [show 0 * 3 = 0 from rfl] at hx161_0); (try rw [Addr.add_zero'] at hx161_0); (try rw [show ((0 : Int)).toNat = 0 from rfl] at hx161_1); (try rw [show 0 * 3 = 0 from rfl] at hx161_1); (try rw [Addr.add_zero'] at hx161_1); (try rw [show ((0 : Int)).toNat = 0 from rfl] at hx161_2); (try rw [show 0 * 3 = 0 from rfl] at hx161_2); (try rw [Addr.add_zero'] at hx161_2); replace p161 := eq_true p161; replace q161 := eq_true q161)); go_upto_if 32 with (first | (go_at_call 60; (with_reducible refine (spec_l2At.calls k _ _ l0 a2 t159 _ ?side1 ?side2 A5.out).mono ?_); (case side1 => exact cx_ HR0.out); (case side2 => exact HC0.out); rintro e w' ⟨rfl, ⟨nd, rfl⟩⟩; (try first | exact ⟨rfl, _, World.drewN_drewN _ _ _⟩ | exact ⟨rfl, _, Eq.trans (World.drewN_drewN _ _ _) (congrArg (World.drewN _) (Nat.add_assoc _ _ _))⟩); have p160 : 0 ≤ (t159 : Int) := od_; have q160 : t159 < (l0.length : Int) := od_; obtain ⟨ad160, e160, hx160_0, hx160_1, hx160_2⟩ := at_T43 HR0.out t159 p160 q160; cases e160; replace p160 := eq_true p160; replace q160 := eq_true q160; have p161 : 0 ≤ (0 : Int) := (by omega); have q161 : 0 < (l1.length : Int) := od_; obtain ⟨ad161, e161, hx161_0, hx161_1, hx161_2⟩ := at_T43 HR1.out 0 p161 q161; cases e161; have qi161 : (0 < l1.length) = True := eq_true (by omega); (try rw [show ((0 : Int)).toNat = 0 from rfl] at hx161_0); (try rw [show 0 * 3 = 0 from rfl] at hx161_0); (try rw [Addr.add_zero'] at hx161_0); (try rw [show ((0 : Int)).toNat = 0 from rfl] at hx161_1); (try rw [show 0 * 3 = 0 from rfl] at hx161_1); (try rw [Addr.add_zero'] at hx161_1); (try rw [show ((0 : Int)).toNat = 0 from rfl] at hx161_2); (try rw [show 0 * 3 = 0 from rfl] at hx161_2); (try rw [Addr.add_zero'] at hx161_2); replace p161 := eq_true p161; replace q161 := eq_true q161)))
    (try simp only [Act.put, List.setIfInBounds_toArray, List.set_cons_zero, List.set_cons_succ])
    go_cut [11] (fun v11 wc => ∃ (kq : Nat) (x11_8 : Int), v11 = .int .i64 x11_8 ∧ Aside0 (spec_l3Put.j0 kq l0 l1 (wrap64 ((wrap64 (((rd_T43 l0 t159).f1) + 1)) - ((rd_T43 l1 0).f1))) x11_8 = some r) ∧ Aside0 (kq ≤ k) ∧ Aside0 (Below w.heap.size w wc))
    case first =>
     have H := HC9.out
     clear HC9
     by_cases c10 : a3 > 0
     ·rw [if_pos c10] at H
      have c10b0 : decide (0 < a3) = true := decide_eq_true c10
      clear c10
      (first | rw [c10b0] | (simp only [i64_w, i32_w]; rw [c10b0]) | skip)
      replace H := Option.bind_eq_some_iff.mp H
      obtain ⟨t162, A110, H⟩ := H
      try dsimp only at H
      have A11 := Aside0.mk A110
      clear A110
      replace H := Option.bind_eq_some_iff.mp H
      obtain ⟨t163, A120, H⟩ := H
      try dsimp only at H
      have A12 := Aside0.mk A120
      clear A120
      have H' := Aside0.mk H
      clear H
      go_wp2_with (first | (go_at_call 60; (with_reducible refine (spec_l2At.calls k _ _ l0 a3 t162 _ ?side1 ?side2 A11.out).mono ?_); (case side1 => exact cp_ HR0.out); (case side2 => exact HC0.out); rintro e w' ⟨rfl, ⟨nd, rfl⟩⟩; (try first | exact ⟨rfl, _, World.drewN_drewN _ _ _⟩ | exact ⟨rfl, _, Eq.trans (World.drewN_drewN _ _ _) (congrArg (World.drewN _) (Nat.add_assoc _ _ _))⟩)) | (go_at_call 63; (with_reducible refine (spec_l2End.calls k _ _ l0 t162 t163 _ ?side1 ?side2 A12.out).mono ?_); (case side1 => repeat (first | exact (Kd.C_below HR0.out (bel_)) | (with_reducible refine Kd.C_alloc ?_ _) | (with_reducible refine Kd.C_drewN ?_ _) | (with_reducible refine Kd.C_drew ?_))); (case side2 => exact HC0.out); rintro e w' ⟨rfl, ⟨nd, rfl⟩⟩; (try first | exact ⟨rfl, _, World.drewN_drewN _ _ _⟩ | exact ⟨rfl, _, Eq.trans (World.drewN_drewN _ _ _) (congrArg (World.drewN _) (Nat.add_assoc _ _ _))⟩)))
      repeat (go_quiet (first | (go_at_call 60; (with_reducible refine (spec_l2At.calls k _ _ l0 a3 t162 _ ?side1 ?side2 A11.out).mono ?_); (case side1 => exact cp_ HR0.out); (case side2 => exact HC0.out); rintro e w' ⟨rfl, ⟨nd, rfl⟩⟩; (try first | exact ⟨rfl, _, World.drewN_drewN _ _ _⟩ | exact ⟨rfl, _, Eq.trans (World.drewN_drewN _ _ _) (congrArg (World.drewN _) (Nat.add_assoc _ _ _))⟩)) | (go_at_call 63; (with_reducible refine (spec_l2End.calls k _ _ l0 t162 t163 _ ?side1 ?side2 A12.out).mono ?_); (case side1 => repeat (first | exact (Kd.C_below HR0.out (bel_)) | (with_reducible refine Kd.C_alloc ?_ _) | (with_reducible refine Kd.C_drewN ?_ _) | (with_reducible refine Kd.C_drew ?_))); (case side2 => exact HC0.out); rintro e w' ⟨rfl, ⟨nd, rfl⟩⟩; (try first | exact ⟨rfl, _, World.drewN_drewN _ _ _⟩ | exact ⟨rfl, _, Eq.trans (World.drewN_drewN _ _ _) (congrArg (World.drewN _) (Nat.add_assoc _ _ _))⟩))); try go_wp2_with (first | (go_at_call 60; (with_reducible refine (spec_l2At.calls k _ _ l0 a3 t162 _ ?side1 ?side2 A11.out).mono ?_); (case side1 => exact cp_ HR0.out); (case side2 => exact HC0.out); rintro e w' ⟨rfl, ⟨nd, rfl⟩⟩; (try first | exact ⟨rfl, _, World.drewN_drewN _ _ _⟩ | exact ⟨rfl, _, Eq.trans (World.drewN_drewN _ _ _) (congrArg (World.drewN _) (Nat.add_assoc _ _ _))⟩)) | (go_at_call 63; (with_reducible refine (spec_l2End.calls k _ _ l0 t162 t163 _ ?side1 ?side2 A12.out).mono ?_); (case side1 => repeat (first | exact (Kd.C_below HR0.out (bel_)) | (with_reducible refine Kd.C_alloc ?_ _) | (with_reducible refine Kd.C_drewN ?_ _) | (with_reducible refine Kd.C_drew ?_))); (case side2 => exact HC0.out); rintro e w' ⟨rfl, ⟨nd, rfl⟩⟩; (try first | exact ⟨rfl, _, World.drewN_drewN _ _ _⟩ | exact ⟨rfl, _, Eq.trans (World.drewN_drewN _ _ _) (congrArg (World.drewN _) (Nat.add_assoc _ _ _))⟩))))
      go_meet
      case rel => exact ⟨_, (t163), (si_), H', ⟨by first | omega | exact Nat.le_refl _⟩, ⟨bel_⟩⟩
     ·rw [if_neg c10] at H
      have c10b0 : decide (0 < a3) = false := decide_eq_false c10
      clear c10
      (first | rw [c10b0] | (simp only [i64_w, i32_w]; rw [c10b0]) | skip)
      have H' := Aside0.mk H
      clear H
      go_wp2
      repeat (go_quiet (fail); try go_wp2)
      go_meet
      case rel => exact ⟨_, (wrap64 (t159 + 1)), (si_), H', ⟨by first | omega | exact Nat.le_refl _⟩, ⟨bel_⟩⟩
    case rest =>
     clear HC9
     try clear c1
     try clear p1
     try clear q1
     try clear hx1
     try clear qi1
     try clear p2
     try clear c6
     try clear c6b0
     try clear p6
     try clear c7
     try clear c7b0
     try clear c8
     try clear c8b0
     try clear c8b1
     try clear c10
     try clear c10b0
     try clear hx160_0
     try clear hx160_1
     try clear hx160_2
     try clear hx161_0
     try clear hx161_1
     try clear hx161_2
     try clear p160
     try clear p161
     try clear q160
     try clear q161
     obtain ⟨kq, x11_8, rfl, HA, HJ8, HB⟩ := hcut
     cases kq with
     | zero => exact absurd HA.out (by simp [spec_l3Put.j0])
     | succ kj8 =>
      have H := HA.out
      clear HA
      simp only [spec_l3Put.j0] at H
      obtain ⟨y164, hy164⟩ : ∃ y_ : List (S43), y_ = (([] : List (S43))) := ⟨_, rfl⟩
      replace H : (if 0 ≤ x11_8 then (if x11_8 ≤ (l0.length : Int) then ((some (l0.take (x11_8 : Int).toNat : List (S43))).bind fun y167 => (if y164.length + y167.length < 4398046511104 then (spec_l3Put.l0 kj8 l0 l1 (wrap64 ((wrap64 (((rd_T43 l0 t159).f1) + 1)) - ((rd_T43 l1 0).f1))) x11_8 (y164 ++ y167) 0) else (none))) else (none)) else (none)) = some r := by first | (rw [hy164]; with_reducible exact H) | (have H2_ := (Option.bind_some _ _).symm.trans H; rw [hy164]; with_reducible exact H2_) | (have H2_ := (Option.bind_some _ _).symm.trans H; with_reducible exact H2_) | with_reducible exact H | (rw [hy164]; exact H) | exact H
      have Ny164 := Aside0.mk hy164
      clear hy164
      by_cases c13 : 0 ≤ x11_8
      ·rw [if_pos c13] at H
       have c13b0 := eq_true c13
       have c13b1 : decide (0 ≤ x11_8) = true := decide_eq_true c13
       clear c13
       by_cases c14 : x11_8 ≤ (l0.length : Int)
       ·rw [if_pos c14] at H
        have c14b0 := eq_true c14
        have c14b1 : decide (x11_8 ≤ (l0.length : Int)) = true := decide_eq_true c14
        clear c14
        obtain ⟨y167, hy167⟩ : ∃ y_ : List (S43), y_ = (l0.take (x11_8 : Int).toNat) := ⟨_, rfl⟩
        replace H : (if y164.length + y167.length < 4398046511104 then (spec_l3Put.l0 kj8 l0 l1 (wrap64 ((wrap64 (((rd_T43 l0 t159).f1) + 1)) - ((rd_T43 l1 0).f1))) x11_8 (y164 ++ y167) 0) else (none)) = some r := by first | (rw [hy167]; with_reducible exact H) | (have H2_ := (Option.bind_some _ _).symm.trans H; rw [hy167]; with_reducible exact H2_) | (have H2_ := (Option.bind_some _ _).symm.trans H; with_reducible exact H2_) | with_reducible exact H | (rw [hy167]; exact H) | exact H
        have Ny167 := Aside0.mk hy167
        clear hy167
        by_cases c15 : y164.length + y167.length < 4398046511104
        ·rw [if_pos c15] at H
         have LMc15 := Aside0.mk c15
         clear c15
         obtain ⟨y171, hy171⟩ : ∃ y_ : List (S43), y_ = (y164 ++ y167) := ⟨_, rfl⟩
         replace H : (spec_l3Put.l0 kj8 l0 l1 (wrap64 ((wrap64 (((rd_T43 l0 t159).f1) + 1)) - ((rd_T43 l1 0).f1))) x11_8 y171 0) = some r := by first | (rw [hy171]; with_reducible exact H) | (have H2_ := (Option.bind_some _ _).symm.trans H; rw [hy171]; with_reducible exact H2_) | (have H2_ := (Option.bind_some _ _).symm.trans H; with_reducible exact H2_) | with_reducible exact H | (rw [hy171]; exact H) | exact H
         have Ny171 := Aside0.mk hy171
         clear hy171
         have H' := Aside0.mk H
         clear H
         go_wp2_with (first | ((with_reducible refine gate_dst (N := 38) rfl ?_); refine Kd.R_lit k43 _ 43 ?hg (N := 38) ?hd (xs := ([] : List (S43))) (inner := []) (ok := fun _ => True) (okp := fun _ => True) ?hr ?hp (fun _ hk => hk) trivial (Below.refl _ _) (Nat.le_refl _) (by simp) ?_; (case hd => rfl); (case hg => rfl); (case hr => first | (go_simp; done) | (go_simp; rfl)); (case hp => exact (Reps.none _ _)); intro v165 w16 ho17 hb hg_ hnew_; clear hg_ hnew_; (first | rw [← Ny164.out] at ho17 | (simp only [Int.reduceToNat] at ho17; rw [← Ny164.out] at ho17)); have HO166 := Aside0.mk (Kd.R_lower ho17 (below_size (bel_))); replace HB := Aside0.mk (below_step (bel_) hb); clear hb ho17; have q18 : (x11_8 : Int) ≤ ((l0.length : Int) : Int) := od_; obtain ⟨i018, hi018, _, hsz18, _⟩ := info_parts info43; have hroom18 : l0.length ≤ c0 := HC0.out; have hC18 : Kd.C k43 _ (some ad160) l0.length l0 := HR0.out; have hcut18 := cut_to (P := Tryd.prog) 27 43 .i64 Tryd.underlying27 hi018 (some ad160) l0.length c0 x11_8 (od_) q18 hroom18; have hr18 := Kd.C_take (m := (x11_8 : Int).toNat) hC18 (by omega); have hy18 : y167.length = (x11_8 : Int).toNat := (by rw [Ny167.out, List.length_take]; omega); rw [← Ny167.out] at hr18; rw [← hy18] at hcut18; have HR170 := Aside0.mk hr18; have HC170 := Aside0.mk (show y167.length ≤ c0 from by omega); clear hr18 hC18 hroom18 hi018 hsz18; have KY18 := Aside0.mk hy18; clear hy18; replace q18 := eq_true q18) | ((with_reducible refine gate_builtin (b := .append) (xs := #[.tmp 38, .tmp 41]) rfl ?_); at_builtin; refine Kd.R_append_rows k43 (w0 := w) w.heap.size rfl (.tmp 38) (.tmp 41) 27 43 (.agg #[(.int .i64 0), (.int .i64 0), (.string ⟨#[]⟩)]) 32 rfl Tryd.underlying27 info43 rfl (by decide) (by omega) v165 y164 y167 _ _ _ (fun _ => True) (fun _ => False) rfl rfl ?aO ?aR (fun _ _ h => h) (fun _ h => h.elim) ?aF ?aB ?aS ?aL ?_; (case aR => exact cx_ (Kd.C_below HR170.out HB.out)); (case aB => exact (bel_)); (case aF => exact (fun _ _ => trivial)); (case aO => exact (rp_ HO166.out)); (case aS => exact (below_size (bel_))); (case aL => have := LMc15.out; omega); intro v172 w19 ho hb hg hat; rw [← Ny171.out] at ho; replace HB := Aside0.mk (hb); have HO173 := Aside0.mk (ho); clear HO166; clear ho hb hg hat))
         repeat (go_quiet (first | ((with_reducible refine gate_dst (N := 38) rfl ?_); refine Kd.R_lit k43 _ 43 ?hg (N := 38) ?hd (xs := ([] : List (S43))) (inner := []) (ok := fun _ => True) (okp := fun _ => True) ?hr ?hp (fun _ hk => hk) trivial (Below.refl _ _) (Nat.le_refl _) (by simp) ?_; (case hd => rfl); (case hg => rfl); (case hr => first | (go_simp; done) | (go_simp; rfl)); (case hp => exact (Reps.none _ _)); intro v165 w16 ho17 hb hg_ hnew_; clear hg_ hnew_; (first | rw [← Ny164.out] at ho17 | (simp only [Int.reduceToNat] at ho17; rw [← Ny164.out] at ho17)); have HO166 := Aside0.mk (Kd.R_lower ho17 (below_size (bel_))); replace HB := Aside0.mk (below_step (bel_) hb); clear hb ho17; have q18 : (x11_8 : Int) ≤ ((l0.length : Int) : Int) := od_; obtain ⟨i018, hi018, _, hsz18, _⟩ := info_parts info43; have hroom18 : l0.length ≤ c0 := HC0.out; have hC18 : Kd.C k43 _ (some ad160) l0.length l0 := HR0.out; have hcut18 := cut_to (P := Tryd.prog) 27 43 .i64 Tryd.underlying27 hi018 (some ad160) l0.length c0 x11_8 (od_) q18 hroom18; have hr18 := Kd.C_take (m := (x11_8 : Int).toNat) hC18 (by omega); have hy18 : y167.length = (x11_8 : Int).toNat := (by rw [Ny167.out, List.length_take]; omega); rw [← Ny167.out] at hr18; rw [← hy18] at hcut18; have HR170 := Aside0.mk hr18; have HC170 := Aside0.mk (show y167.length ≤ c0 from by omega); clear hr18 hC18 hroom18 hi018 hsz18; have KY18 := Aside0.mk hy18; clear hy18; replace q18 := eq_true q18) | ((with_reducible refine gate_builtin (b := .append) (xs := #[.tmp 38, .tmp 41]) rfl ?_); at_builtin; refine Kd.R_append_rows k43 (w0 := w) w.heap.size rfl (.tmp 38) (.tmp 41) 27 43 (.agg #[(.int .i64 0), (.int .i64 0), (.string ⟨#[]⟩)]) 32 rfl Tryd.underlying27 info43 rfl (by decide) (by omega) v165 y164 y167 _ _ _ (fun _ => True) (fun _ => False) rfl rfl ?aO ?aR (fun _ _ h => h) (fun _ h => h.elim) ?aF ?aB ?aS ?aL ?_; (case aR => exact cx_ (Kd.C_below HR170.out HB.out)); (case aB => exact (bel_)); (case aF => exact (fun _ _ => trivial)); (case aO => exact (rp_ HO166.out)); (case aS => exact (below_size (bel_))); (case aL => have := LMc15.out; omega); intro v172 w19 ho hb hg hat; rw [← Ny171.out] at ho; replace HB := Aside0.mk (hb); have HO173 := Aside0.mk (ho); clear HO166; clear ho hb hg hat)); try go_wp2_with (first | ((with_reducible refine gate_dst (N := 38) rfl ?_); refine Kd.R_lit k43 _ 43 ?hg (N := 38) ?hd (xs := ([] : List (S43))) (inner := []) (ok := fun _ => True) (okp := fun _ => True) ?hr ?hp (fun _ hk => hk) trivial (Below.refl _ _) (Nat.le_refl _) (by simp) ?_; (case hd => rfl); (case hg => rfl); (case hr => first | (go_simp; done) | (go_simp; rfl)); (case hp => exact (Reps.none _ _)); intro v165 w16 ho17 hb hg_ hnew_; clear hg_ hnew_; (first | rw [← Ny164.out] at ho17 | (simp only [Int.reduceToNat] at ho17; rw [← Ny164.out] at ho17)); have HO166 := Aside0.mk (Kd.R_lower ho17 (below_size (bel_))); replace HB := Aside0.mk (below_step (bel_) hb); clear hb ho17; have q18 : (x11_8 : Int) ≤ ((l0.length : Int) : Int) := od_; obtain ⟨i018, hi018, _, hsz18, _⟩ := info_parts info43; have hroom18 : l0.length ≤ c0 := HC0.out; have hC18 : Kd.C k43 _ (some ad160) l0.length l0 := HR0.out; have hcut18 := cut_to (P := Tryd.prog) 27 43 .i64 Tryd.underlying27 hi018 (some ad160) l0.length c0 x11_8 (od_) q18 hroom18; have hr18 := Kd.C_take (m := (x11_8 : Int).toNat) hC18 (by omega); have hy18 : y167.length = (x11_8 : Int).toNat := (by rw [Ny167.out, List.length_take]; omega); rw [← Ny167.out] at hr18; rw [← hy18] at hcut18; have HR170 := Aside0.mk hr18; have HC170 := Aside0.mk (show y167.length ≤ c0 from by omega); clear hr18 hC18 hroom18 hi018 hsz18; have KY18 := Aside0.mk hy18; clear hy18; replace q18 := eq_true q18) | ((with_reducible refine gate_builtin (b := .append) (xs := #[.tmp 38, .tmp 41]) rfl ?_); at_builtin; refine Kd.R_append_rows k43 (w0 := w) w.heap.size rfl (.tmp 38) (.tmp 41) 27 43 (.agg #[(.int .i64 0), (.int .i64 0), (.string ⟨#[]⟩)]) 32 rfl Tryd.underlying27 info43 rfl (by decide) (by omega) v165 y164 y167 _ _ _ (fun _ => True) (fun _ => False) rfl rfl ?aO ?aR (fun _ _ h => h) (fun _ h => h.elim) ?aF ?aB ?aS ?aL ?_; (case aR => exact cx_ (Kd.C_below HR170.out HB.out)); (case aB => exact (bel_)); (case aF => exact (fun _ _ => trivial)); (case aO => exact (rp_ HO166.out)); (case aS => exact (below_size (bel_))); (case aL => have := LMc15.out; omega); intro v172 w19 ho hb hg hat; rw [← Ny171.out] at ho; replace HB := Aside0.mk (hb); have HO173 := Aside0.mk (ho); clear HO166; clear ho hb hg hat)))
         go_loopg [12, 13] kj8 (fun kq v12 v13 w' => ∃ (x12_2 : List (S43)) (x13_2 : Int), v13 = .int .i64 x13_2 ∧ Aside0 (spec_l3Put.l0 kq l0 l1 (wrap64 ((wrap64 (((rd_T43 l0 t159).f1) + 1)) - ((rd_T43 l1 0).f1))) x11_8 x12_2 x13_2 = some r) ∧ Aside0 (kq ≤ kj8) ∧ Aside0 (Kd.R k43 43 w' w.heap.size (fun _ => True) v12 x12_2) ∧ Aside0 (Below w.heap.size w w'))
         case atStart => exact ⟨(y171), (0), (si_), H', ⟨Nat.le_refl _⟩, ⟨by (with_reducible repeat (first | apply Kd.R_alloc | apply Kd.R_drewN | apply Kd.R_drew)); exact HO173.out⟩, ⟨bel_⟩⟩
         case round =>
          clear H'
          try clear c1
          try clear p1
          try clear q1
          try clear hx1
          try clear qi1
          try clear p2
          try clear c6
          try clear c6b0
          try clear p6
          try clear c7
          try clear c7b0
          try clear c8
          try clear c8b0
          try clear c8b1
          try clear c10
          try clear c10b0
          try clear c13
          try clear c13b0
          try clear c13b1
          try clear c14
          try clear c14b0
          try clear c14b1
          try clear c15
          try clear p16
          try clear q16
          try clear hx16
          try clear qi16
          try clear q18
          try clear hx160_0
          try clear hx160_1
          try clear hx160_2
          try clear hx161_0
          try clear hx161_1
          try clear hx161_2
          try clear p1
          try clear p160
          try clear p161
          try clear p2
          try clear p6
          try clear q1
          try clear q160
          try clear q161
          try clear q18
          obtain ⟨x12_2, x13_2, rfl, HA, HK2, HO_12, HB⟩ := hrel
          cases gk with
          | zero => exact absurd HA.out (by simp [spec_l3Put.l0])
          | succ k2 =>
           have H := HA.out
           clear HA
           simp only [spec_l3Put.l0] at H
           by_cases c20 : x13_2 < (l1.length : Int)
           ·rw [if_pos c20] at H
            have c20b0 : decide (x13_2 < (l1.length : Int)) = true := decide_eq_true c20
            clear c20
            by_cases c21 : 0 ≤ x13_2
            ·rw [if_pos c21] at H
             have c21b0 : decide (0 ≤ x13_2) = true := decide_eq_true c21
             clear c21
             by_cases c22 : x12_2.length < 4398046511104
             ·rw [if_pos c22] at H
              have LMc22 := Aside0.mk c22
              clear c22
              obtain ⟨y176, hy176⟩ : ∃ y_ : List (S43), y_ = (x12_2 ++ [(⟨(rd_T43 l1 x13_2).f0, wrap64 (((rd_T43 l1 x13_2).f1) + (wrap64 ((wrap64 (((rd_T43 l0 t159).f1) + 1)) - ((rd_T43 l1 0).f1)))), (rd_T43 l1 x13_2).f2⟩ : S43)]) := ⟨_, rfl⟩
              replace H : (spec_l3Put.l0 k2 l0 l1 (wrap64 ((wrap64 (((rd_T43 l0 t159).f1) + 1)) - ((rd_T43 l1 0).f1))) x11_8 y176 (wrap64 (x13_2 + 1))) = some r := by first | (rw [hy176]; with_reducible exact H) | (have H2_ := (Option.bind_some _ _).symm.trans H; rw [hy176]; with_reducible exact H2_) | (have H2_ := (Option.bind_some _ _).symm.trans H; with_reducible exact H2_) | with_reducible exact H | (rw [hy176]; exact H) | exact H
              have Ny176 := Aside0.mk hy176
              clear hy176
              have H' := Aside0.mk H
              clear H
              have p174 : 0 ≤ (x13_2 : Int) := od_
              have q174 : x13_2 < (l1.length : Int) := od_
              obtain ⟨ad174, e174, hx174_0, hx174_1, hx174_2⟩ := at_T43 HR1.out x13_2 p174 q174
              obtain rfl : ad161 = ad174 := (by injection e174)
              replace hx174_0 := (cb_ HB.out hx174_0 :)
              replace hx174_1 := (cb_ HB.out hx174_1 :)
              replace hx174_2 := (cb_ HB.out hx174_2 :)
              replace p174 := eq_true p174
              replace q174 := eq_true q174
              go_wp2_with (first | ((with_reducible refine gate_dst (N := 14) rfl ?_); refine bx_ 14 (#[.int .i64 0, .int .i64 0, .string (⟨#[]⟩ : ByteArray)]) 43 ?_; intro gb175 hg w23 hbox hb; have n0_ := Aside0.mk (Kd.R_below (Kd.R_elderB (rp_ HO_12.out) gb175 (Nat.le_of_eq hg.symm)) hb); have n1_ := Aside0.mk (below_step (bel_) hb); have n2_ := Aside0.mk (hbox); have n3_ := Aside0.mk ((by rw [hg]; exact (below_size (bel_)) : w.heap.size ≤ gb175)); have n4_ := Aside0.mk ((by rw [hg]; exact (below_size (bel_)) : w.heap.size ≤ gb175)); clear HO_12; clear HB; have HO_12 := n0_; have HB := n1_; have BK175 := n2_; have GW175 := n3_; have GE175 := n4_; clear n0_ n1_ n2_ n3_ n4_; clear hb hbox hg; have hcz24_0 := cz_ BK175.out 0 (.int .i64 0); have hcz24_1 := cz_ BK175.out 1 (.int .i64 0); have hcz24_2 := cz_ BK175.out 2 (.string (⟨#[]⟩ : ByteArray)); have hfz24_0 := blk_frozen BK175.out 0; have hfz24_1 := blk_frozen BK175.out 1; have hfz24_2 := blk_frozen BK175.out 2; have hq_ : ((((w23.setCell ⟨gb175, 0, none⟩ (.int .i64 ((rd_T43 l1 x13_2).f0))).setCell ⟨gb175, 1, none⟩ (.int .i64 ((rd_T43 l1 x13_2).f1))).setCell ⟨gb175, 2, none⟩ (.string ((rd_T43 l1 x13_2).f2))).setCell ⟨gb175, 1, none⟩ (.int .i64 (wrap64 (((rd_T43 l1 x13_2).f1) + (wrap64 ((wrap64 (((rd_T43 l0 t159).f1) + 1)) - ((rd_T43 l1 0).f1))))))).heap[gb175]? = some (.cells #[.int .i64 ((rd_T43 l1 x13_2).f0), .int .i64 (wrap64 (((rd_T43 l1 x13_2).f1) + (wrap64 ((wrap64 (((rd_T43 l0 t159).f1) + 1)) - ((rd_T43 l1 0).f1))))), .string ((rd_T43 l1 x13_2).f2)] 43 (0, 0)) := (blk_set (blk_set (blk_set (blk_set BK175.out 0 _) 1 _) 2 _) 1 _).trans rfl; have hq0_ : ((((w23.setCell ⟨gb175, 0, none⟩ (.int .i64 ((rd_T43 l1 x13_2).f0))).setCell ⟨gb175, 1, none⟩ (.int .i64 ((rd_T43 l1 x13_2).f1))).setCell ⟨gb175, 2, none⟩ (.string ((rd_T43 l1 x13_2).f2))).setCell ⟨gb175, 1, none⟩ (.int .i64 (wrap64 (((rd_T43 l1 x13_2).f1) + (wrap64 ((wrap64 (((rd_T43 l0 t159).f1) + 1)) - ((rd_T43 l1 0).f1))))))).cell? ⟨gb175, 0, none⟩ = some (.int .i64 ((rd_T43 l1 x13_2).f0)) := (blk_cell hq_ 0).trans rfl; have hq1_ : ((((w23.setCell ⟨gb175, 0, none⟩ (.int .i64 ((rd_T43 l1 x13_2).f0))).setCell ⟨gb175, 1, none⟩ (.int .i64 ((rd_T43 l1 x13_2).f1))).setCell ⟨gb175, 2, none⟩ (.string ((rd_T43 l1 x13_2).f2))).setCell ⟨gb175, 1, none⟩ (.int .i64 (wrap64 (((rd_T43 l1 x13_2).f1) + (wrap64 ((wrap64 (((rd_T43 l0 t159).f1) + 1)) - ((rd_T43 l1 0).f1))))))).cell? ⟨gb175, 1, none⟩ = some (.int .i64 (wrap64 (((rd_T43 l1 x13_2).f1) + (wrap64 ((wrap64 (((rd_T43 l0 t159).f1) + 1)) - ((rd_T43 l1 0).f1)))))) := (blk_cell hq_ 1).trans rfl; have hq2_ : ((((w23.setCell ⟨gb175, 0, none⟩ (.int .i64 ((rd_T43 l1 x13_2).f0))).setCell ⟨gb175, 1, none⟩ (.int .i64 ((rd_T43 l1 x13_2).f1))).setCell ⟨gb175, 2, none⟩ (.string ((rd_T43 l1 x13_2).f2))).setCell ⟨gb175, 1, none⟩ (.int .i64 (wrap64 (((rd_T43 l1 x13_2).f1) + (wrap64 ((wrap64 (((rd_T43 l0 t159).f1) + 1)) - ((rd_T43 l1 0).f1))))))).cell? ⟨gb175, 2, none⟩ = some (.string ((rd_T43 l1 x13_2).f2)) := (blk_cell hq_ 2).trans rfl; clear hq_) | ((with_reducible refine gate_builtin (b := .append) (xs := #[.tmp 58, .tmp 60]) rfl ?_); at_builtin; refine Kd.R_append k43 (w0 := w) w.heap.size rfl (.tmp 58) (.tmp 60) 27 43 (.agg #[(.int .i64 0), (.int .i64 0), (.string ⟨#[]⟩)]) 32 rfl Tryd.underlying27 info43 rfl (by decide) (by omega) u12 x12_2 (⟨(rd_T43 l1 x13_2).f0, wrap64 (((rd_T43 l1 x13_2).f1) + (wrap64 ((wrap64 (((rd_T43 l0 t159).f1) + 1)) - ((rd_T43 l1 0).f1)))), (rd_T43 l1 x13_2).f2⟩ : S43) [.int .i64 ((rd_T43 l1 x13_2).f0), .int .i64 (wrap64 (((rd_T43 l1 x13_2).f1) + (wrap64 ((wrap64 (((rd_T43 l0 t159).f1) + 1)) - ((rd_T43 l1 0).f1))))), .string ((rd_T43 l1 x13_2).f2)] (fun k_ => k_ ≠ gb175) (fun _ => False) rfl (by first | (go_simp; done) | (go_simp; rfl)) ?aP (fun _ hk => hk.elim) ?aF ?aO ?aB ?aS ?aL ?_; (case aP => exact k43_mkM _ _ _ (⟨(rd_T43 l1 x13_2).f0, wrap64 (((rd_T43 l1 x13_2).f1) + (wrap64 ((wrap64 (((rd_T43 l0 t159).f1) + 1)) - ((rd_T43 l1 0).f1)))), (rd_T43 l1 x13_2).f2⟩ : S43)); (case aB => exact (bel_)); (case aF => exact (fun k_ hk => Kd.freshB (g := gb175) (o := .cells #[.int .i64 ((rd_T43 l1 x13_2).f0), .int .i64 (wrap64 (((rd_T43 l1 x13_2).f1) + (wrap64 ((wrap64 (((rd_T43 l0 t159).f1) + 1)) - ((rd_T43 l1 0).f1))))), .string ((rd_T43 l1 x13_2).f2)] 43 (0, 0)) (by (with_reducible repeat (first | refine blk_drewN ?_ _ | refine blk_drew ?_ | refine blk_alloc ?_ _)); refine blk_put (cs := #[.int .i64 ((rd_T43 l1 x13_2).f0), .int .i64 ((rd_T43 l1 x13_2).f1), .string ((rd_T43 l1 x13_2).f2)]) ?_ 1 _ rfl; (with_reducible repeat (first | refine blk_drewN ?_ _ | refine blk_drew ?_ | refine blk_alloc ?_ _)); refine blk_put (cs := #[.int .i64 ((rd_T43 l1 x13_2).f0), .int .i64 ((rd_T43 l1 x13_2).f1), .string (⟨#[]⟩ : ByteArray)]) ?_ 2 _ rfl; (with_reducible repeat (first | refine blk_drewN ?_ _ | refine blk_drew ?_ | refine blk_alloc ?_ _)); refine blk_put (cs := #[.int .i64 ((rd_T43 l1 x13_2).f0), .int .i64 0, .string (⟨#[]⟩ : ByteArray)]) ?_ 1 _ rfl; (with_reducible repeat (first | refine blk_drewN ?_ _ | refine blk_drew ?_ | refine blk_alloc ?_ _)); refine blk_put (cs := #[.int .i64 0, .int .i64 0, .string (⟨#[]⟩ : ByteArray)]) ?_ 0 _ rfl; (with_reducible repeat (first | refine blk_drewN ?_ _ | refine blk_drew ?_ | refine blk_alloc ?_ _)); exact BK175.out) k_ hk)); (case aO => exact (by (with_reducible repeat (first | apply Kd.R_alloc | apply Kd.R_drewN | apply Kd.R_drew)); exact Kd.R_mono (Kd.R_far (p := ⟨gb175, 1, none⟩) (Kd.R_far (p := ⟨gb175, 2, none⟩) (Kd.R_far (p := ⟨gb175, 1, none⟩) (Kd.R_far (p := ⟨gb175, 0, none⟩) (Kd.R_mono HO_12.out (fun k_ hk => (⟨hk, hk.2⟩ : _ ∧ k_ ≠ gb175))) (fun _ hk => hk.2) (.int .i64 ((rd_T43 l1 x13_2).f0))) (fun _ hk => hk.2) (.int .i64 ((rd_T43 l1 x13_2).f1))) (fun _ hk => hk.2) (.string ((rd_T43 l1 x13_2).f2))) (fun _ hk => hk.2) (.int .i64 (wrap64 (((rd_T43 l1 x13_2).f1) + (wrap64 ((wrap64 (((rd_T43 l0 t159).f1) + 1)) - ((rd_T43 l1 0).f1))))))) (fun _ hk => hk.1.2))); (case aS => exact (below_size (bel_))); (case aL => have := LMc22.out; omega); intro v177 w25 ho hb hg hat; rw [← Ny176.out] at ho; have n0_ := Aside0.mk (blk_grown (g := gb175) (o := .cells #[.int .i64 ((rd_T43 l1 x13_2).f0), .int .i64 (wrap64 (((rd_T43 l1 x13_2).f1) + (wrap64 ((wrap64 (((rd_T43 l0 t159).f1) + 1)) - ((rd_T43 l1 0).f1))))), .string ((rd_T43 l1 x13_2).f2)] 43 (0, 0)) (by (with_reducible repeat (first | refine blk_drewN ?_ _ | refine blk_drew ?_ | refine blk_alloc ?_ _)); refine blk_put (cs := #[.int .i64 ((rd_T43 l1 x13_2).f0), .int .i64 ((rd_T43 l1 x13_2).f1), .string ((rd_T43 l1 x13_2).f2)]) ?_ 1 _ rfl; (with_reducible repeat (first | refine blk_drewN ?_ _ | refine blk_drew ?_ | refine blk_alloc ?_ _)); refine blk_put (cs := #[.int .i64 ((rd_T43 l1 x13_2).f0), .int .i64 ((rd_T43 l1 x13_2).f1), .string (⟨#[]⟩ : ByteArray)]) ?_ 2 _ rfl; (with_reducible repeat (first | refine blk_drewN ?_ _ | refine blk_drew ?_ | refine blk_alloc ?_ _)); refine blk_put (cs := #[.int .i64 ((rd_T43 l1 x13_2).f0), .int .i64 0, .string (⟨#[]⟩ : ByteArray)]) ?_ 1 _ rfl; (with_reducible repeat (first | refine blk_drewN ?_ _ | refine blk_drew ?_ | refine blk_alloc ?_ _)); refine blk_put (cs := #[.int .i64 0, .int .i64 0, .string (⟨#[]⟩ : ByteArray)]) ?_ 0 _ rfl; (with_reducible repeat (first | refine blk_drewN ?_ _ | refine blk_drew ?_ | refine blk_alloc ?_ _)); exact BK175.out) hg (Kd.R_away HO_12.out (fun _ hk => hk.2))); have n1_ := Aside0.mk (hb); have n2_ := Aside0.mk (ho); clear BK175; clear HB; clear HO_12; have BK175 := n0_; have HB := n1_; have HO178 := n2_; clear n0_ n1_ n2_; clear ho hb hg hat))
              repeat (go_quiet (first | ((with_reducible refine gate_dst (N := 14) rfl ?_); refine bx_ 14 (#[.int .i64 0, .int .i64 0, .string (⟨#[]⟩ : ByteArray)]) 43 ?_; intro gb175 hg w23 hbox hb; have n0_ := Aside0.mk (Kd.R_below (Kd.R_elderB (rp_ HO_12.out) gb175 (Nat.le_of_eq hg.symm)) hb); have n1_ := Aside0.mk (below_step (bel_) hb); have n2_ := Aside0.mk (hbox); have n3_ := Aside0.mk ((by rw [hg]; exact (below_size (bel_)) : w.heap.size ≤ gb175)); have n4_ := Aside0.mk ((by rw [hg]; exact (below_size (bel_)) : w.heap.size ≤ gb175)); clear HO_12; clear HB; have HO_12 := n0_; have HB := n1_; have BK175 := n2_; have GW175 := n3_; have GE175 := n4_; clear n0_ n1_ n2_ n3_ n4_; clear hb hbox hg; have hcz24_0 := cz_ BK175.out 0 (.int .i64 0); have hcz24_1 := cz_ BK175.out 1 (.int .i64 0); have hcz24_2 := cz_ BK175.out 2 (.string (⟨#[]⟩ : ByteArray)); have hfz24_0 := blk_frozen BK175.out 0; have hfz24_1 := blk_frozen BK175.out 1; have hfz24_2 := blk_frozen BK175.out 2; have hq_ : ((((w23.setCell ⟨gb175, 0, none⟩ (.int .i64 ((rd_T43 l1 x13_2).f0))).setCell ⟨gb175, 1, none⟩ (.int .i64 ((rd_T43 l1 x13_2).f1))).setCell ⟨gb175, 2, none⟩ (.string ((rd_T43 l1 x13_2).f2))).setCell ⟨gb175, 1, none⟩ (.int .i64 (wrap64 (((rd_T43 l1 x13_2).f1) + (wrap64 ((wrap64 (((rd_T43 l0 t159).f1) + 1)) - ((rd_T43 l1 0).f1))))))).heap[gb175]? = some (.cells #[.int .i64 ((rd_T43 l1 x13_2).f0), .int .i64 (wrap64 (((rd_T43 l1 x13_2).f1) + (wrap64 ((wrap64 (((rd_T43 l0 t159).f1) + 1)) - ((rd_T43 l1 0).f1))))), .string ((rd_T43 l1 x13_2).f2)] 43 (0, 0)) := (blk_set (blk_set (blk_set (blk_set BK175.out 0 _) 1 _) 2 _) 1 _).trans rfl; have hq0_ : ((((w23.setCell ⟨gb175, 0, none⟩ (.int .i64 ((rd_T43 l1 x13_2).f0))).setCell ⟨gb175, 1, none⟩ (.int .i64 ((rd_T43 l1 x13_2).f1))).setCell ⟨gb175, 2, none⟩ (.string ((rd_T43 l1 x13_2).f2))).setCell ⟨gb175, 1, none⟩ (.int .i64 (wrap64 (((rd_T43 l1 x13_2).f1) + (wrap64 ((wrap64 (((rd_T43 l0 t159).f1) + 1)) - ((rd_T43 l1 0).f1))))))).cell? ⟨gb175, 0, none⟩ = some (.int .i64 ((rd_T43 l1 x13_2).f0)) := (blk_cell hq_ 0).trans rfl; have hq1_ : ((((w23.setCell ⟨gb175, 0, none⟩ (.int .i64 ((rd_T43 l1 x13_2).f0))).setCell ⟨gb175, 1, none⟩ (.int .i64 ((rd_T43 l1 x13_2).f1))).setCell ⟨gb175, 2, none⟩ (.string ((rd_T43 l1 x13_2).f2))).setCell ⟨gb175, 1, none⟩ (.int .i64 (wrap64 (((rd_T43 l1 x13_2).f1) + (wrap64 ((wrap64 (((rd_T43 l0 t159).f1) + 1)) - ((rd_T43 l1 0).f1))))))).cell? ⟨gb175, 1, none⟩ = some (.int .i64 (wrap64 (((rd_T43 l1 x13_2).f1) + (wrap64 ((wrap64 (((rd_T43 l0 t159).f1) + 1)) - ((rd_T43 l1 0).f1)))))) := (blk_cell hq_ 1).trans rfl; have hq2_ : ((((w23.setCell ⟨gb175, 0, none⟩ (.int .i64 ((rd_T43 l1 x13_2).f0))).setCell ⟨gb175, 1, none⟩ (.int .i64 ((rd_T43 l1 x13_2).f1))).setCell ⟨gb175, 2, none⟩ (.string ((rd_T43 l1 x13_2).f2))).setCell ⟨gb175, 1, none⟩ (.int .i64 (wrap64 (((rd_T43 l1 x13_2).f1) + (wrap64 ((wrap64 (((rd_T43 l0 t159).f1) + 1)) - ((rd_T43 l1 0).f1))))))).cell? ⟨gb175, 2, none⟩ = some (.string ((rd_T43 l1 x13_2).f2)) := (blk_cell hq_ 2).trans rfl; clear hq_) | ((with_reducible refine gate_builtin (b := .append) (xs := #[.tmp 58, .tmp 60]) rfl ?_); at_builtin; refine Kd.R_append k43 (w0 := w) w.heap.size rfl (.tmp 58) (.tmp 60) 27 43 (.agg #[(.int .i64 0), (.int .i64 0), (.string ⟨#[]⟩)]) 32 rfl Tryd.underlying27 info43 rfl (by decide) (by omega) u12 x12_2 (⟨(rd_T43 l1 x13_2).f0, wrap64 (((rd_T43 l1 x13_2).f1) + (wrap64 ((wrap64 (((rd_T43 l0 t159).f1) + 1)) - ((rd_T43 l1 0).f1)))), (rd_T43 l1 x13_2).f2⟩ : S43) [.int .i64 ((rd_T43 l1 x13_2).f0), .int .i64 (wrap64 (((rd_T43 l1 x13_2).f1) + (wrap64 ((wrap64 (((rd_T43 l0 t159).f1) + 1)) - ((rd_T43 l1 0).f1))))), .string ((rd_T43 l1 x13_2).f2)] (fun k_ => k_ ≠ gb175) (fun _ => False) rfl (by first | (go_simp; done) | (go_simp; rfl)) ?aP (fun _ hk => hk.elim) ?aF ?aO ?aB ?aS ?aL ?_; (case aP => exact k43_mkM _ _ _ (⟨(rd_T43 l1 x13_2).f0, wrap64 (((rd_T43 l1 x13_2).f1) + (wrap64 ((wrap64 (((rd_T43 l0 t159).f1) + 1)) - ((rd_T43 l1 0).f1)))), (rd_T43 l1 x13_2).f2⟩ : S43)); (case aB => exact (bel_)); (case aF => exact (fun k_ hk => Kd.freshB (g := gb175) (o := .cells #[.int .i64 ((rd_T43 l1 x13_2).f0), .int .i64 (wrap64 (((rd_T43 l1 x13_2).f1) + (wrap64 ((wrap64 (((rd_T43 l0 t159).f1) + 1)) - ((rd_T43 l1 0).f1))))), .string ((rd_T43 l1 x13_2).f2)] 43 (0, 0)) (by (with_reducible repeat (first | refine blk_drewN ?_ _ | refine blk_drew ?_ | refine blk_alloc ?_ _)); refine blk_put (cs := #[.int .i64 ((rd_T43 l1 x13_2).f0), .int .i64 ((rd_T43 l1 x13_2).f1), .string ((rd_T43 l1 x13_2).f2)]) ?_ 1 _ rfl; (with_reducible repeat (first | refine blk_drewN ?_ _ | refine blk_drew ?_ | refine blk_alloc ?_ _)); refine blk_put (cs := #[.int .i64 ((rd_T43 l1 x13_2).f0), .int .i64 ((rd_T43 l1 x13_2).f1), .string (⟨#[]⟩ : ByteArray)]) ?_ 2 _ rfl; (with_reducible repeat (first | refine blk_drewN ?_ _ | refine blk_drew ?_ | refine blk_alloc ?_ _)); refine blk_put (cs := #[.int .i64 ((rd_T43 l1 x13_2).f0), .int .i64 0, .string (⟨#[]⟩ : ByteArray)]) ?_ 1 _ rfl; (with_reducible repeat (first | refine blk_drewN ?_ _ | refine blk_drew ?_ | refine blk_alloc ?_ _)); refine blk_put (cs := #[.int .i64 0, .int .i64 0, .string (⟨#[]⟩ : ByteArray)]) ?_ 0 _ rfl; (with_reducible repeat (first | refine blk_drewN ?_ _ | refine blk_drew ?_ | refine blk_alloc ?_ _)); exact BK175.out) k_ hk)); (case aO => exact (by (with_reducible repeat (first | apply Kd.R_alloc | apply Kd.R_drewN | apply Kd.R_drew)); exact Kd.R_mono (Kd.R_far (p := ⟨gb175, 1, none⟩) (Kd.R_far (p := ⟨gb175, 2, none⟩) (Kd.R_far (p := ⟨gb175, 1, none⟩) (Kd.R_far (p := ⟨gb175, 0, none⟩) (Kd.R_mono HO_12.out (fun k_ hk => (⟨hk, hk.2⟩ : _ ∧ k_ ≠ gb175))) (fun _ hk => hk.2) (.int .i64 ((rd_T43 l1 x13_2).f0))) (fun _ hk => hk.2) (.int .i64 ((rd_T43 l1 x13_2).f1))) (fun _ hk => hk.2) (.string ((rd_T43 l1 x13_2).f2))) (fun _ hk => hk.2) (.int .i64 (wrap64 (((rd_T43 l1 x13_2).f1) + (wrap64 ((wrap64 (((rd_T43 l0 t159).f1) + 1)) - ((rd_T43 l1 0).f1))))))) (fun _ hk => hk.1.2))); (case aS => exact (below_size (bel_))); (case aL => have := LMc22.out; omega); intro v177 w25 ho hb hg hat; rw [← Ny176.out] at ho; have n0_ := Aside0.mk (blk_grown (g := gb175) (o := .cells #[.int .i64 ((rd_T43 l1 x13_2).f0), .int .i64 (wrap64 (((rd_T43 l1 x13_2).f1) + (wrap64 ((wrap64 (((rd_T43 l0 t159).f1) + 1)) - ((rd_T43 l1 0).f1))))), .string ((rd_T43 l1 x13_2).f2)] 43 (0, 0)) (by (with_reducible repeat (first | refine blk_drewN ?_ _ | refine blk_drew ?_ | refine blk_alloc ?_ _)); refine blk_put (cs := #[.int .i64 ((rd_T43 l1 x13_2).f0), .int .i64 ((rd_T43 l1 x13_2).f1), .string ((rd_T43 l1 x13_2).f2)]) ?_ 1 _ rfl; (with_reducible repeat (first | refine blk_drewN ?_ _ | refine blk_drew ?_ | refine blk_alloc ?_ _)); refine blk_put (cs := #[.int .i64 ((rd_T43 l1 x13_2).f0), .int .i64 ((rd_T43 l1 x13_2).f1), .string (⟨#[]⟩ : ByteArray)]) ?_ 2 _ rfl; (with_reducible repeat (first | refine blk_drewN ?_ _ | refine blk_drew ?_ | refine blk_alloc ?_ _)); refine blk_put (cs := #[.int .i64 ((rd_T43 l1 x13_2).f0), .int .i64 0, .string (⟨#[]⟩ : ByteArray)]) ?_ 1 _ rfl; (with_reducible repeat (first | refine blk_drewN ?_ _ | refine blk_drew ?_ | refine blk_alloc ?_ _)); refine blk_put (cs := #[.int .i64 0, .int .i64 0, .string (⟨#[]⟩ : ByteArray)]) ?_ 0 _ rfl; (with_reducible repeat (first | refine blk_drewN ?_ _ | refine blk_drew ?_ | refine blk_alloc ?_ _)); exact BK175.out) hg (Kd.R_away HO_12.out (fun _ hk => hk.2))); have n1_ := Aside0.mk (hb); have n2_ := Aside0.mk (ho); clear BK175; clear HB; clear HO_12; have BK175 := n0_; have HB := n1_; have HO178 := n2_; clear n0_ n1_ n2_; clear ho hb hg hat)); try go_wp2_with (first | ((with_reducible refine gate_dst (N := 14) rfl ?_); refine bx_ 14 (#[.int .i64 0, .int .i64 0, .string (⟨#[]⟩ : ByteArray)]) 43 ?_; intro gb175 hg w23 hbox hb; have n0_ := Aside0.mk (Kd.R_below (Kd.R_elderB (rp_ HO_12.out) gb175 (Nat.le_of_eq hg.symm)) hb); have n1_ := Aside0.mk (below_step (bel_) hb); have n2_ := Aside0.mk (hbox); have n3_ := Aside0.mk ((by rw [hg]; exact (below_size (bel_)) : w.heap.size ≤ gb175)); have n4_ := Aside0.mk ((by rw [hg]; exact (below_size (bel_)) : w.heap.size ≤ gb175)); clear HO_12; clear HB; have HO_12 := n0_; have HB := n1_; have BK175 := n2_; have GW175 := n3_; have GE175 := n4_; clear n0_ n1_ n2_ n3_ n4_; clear hb hbox hg; have hcz24_0 := cz_ BK175.out 0 (.int .i64 0); have hcz24_1 := cz_ BK175.out 1 (.int .i64 0); have hcz24_2 := cz_ BK175.out 2 (.string (⟨#[]⟩ : ByteArray)); have hfz24_0 := blk_frozen BK175.out 0; have hfz24_1 := blk_frozen BK175.out 1; have hfz24_2 := blk_frozen BK175.out 2) | ((with_reducible refine gate_builtin (b := .append) (xs := #[.tmp 58, .tmp 60]) rfl ?_); at_builtin; refine Kd.R_append k43 (w0 := w) w.heap.size rfl (.tmp 58) (.tmp 60) 27 43 (.agg #[(.int .i64 0), (.int .i64 0), (.string ⟨#[]⟩)]) 32 rfl Tryd.underlying27 info43 rfl (by decide) (by omega) u12 x12_2 (⟨(rd_T43 l1 x13_2).f0, wrap64 (((rd_T43 l1 x13_2).f1) + (wrap64 ((wrap64 (((rd_T43 l0 t159).f1) + 1)) - ((rd_T43 l1 0).f1)))), (rd_T43 l1 x13_2).f2⟩ : S43) [.int .i64 ((rd_T43 l1 x13_2).f0), .int .i64 (wrap64 (((rd_T43 l1 x13_2).f1) + (wrap64 ((wrap64 (((rd_T43 l0 t159).f1) + 1)) - ((rd_T43 l1 0).f1))))), .string ((rd_T43 l1 x13_2).f2)] (fun k_ => k_ ≠ gb175) (fun _ => False) rfl (by first | (go_simp; done) | (go_simp; rfl)) ?aP (fun _ hk => hk.elim) ?aF ?aO ?aB ?aS ?aL ?_; (case aP => exact k43_mkM _ _ _ (⟨(rd_T43 l1 x13_2).f0, wrap64 (((rd_T43 l1 x13_2).f1) + (wrap64 ((wrap64 (((rd_T43 l0 t159).f1) + 1)) - ((rd_T43 l1 0).f1)))), (rd_T43 l1 x13_2).f2⟩ : S43)); (case aB => exact (bel_)); (case aF => exact (fun k_ hk => Kd.freshB (g := gb175) (o := .cells #[.int .i64 ((rd_T43 l1 x13_2).f0), .int .i64 (wrap64 (((rd_T43 l1 x13_2).f1) + (wrap64 ((wrap64 (((rd_T43 l0 t159).f1) + 1)) - ((rd_T43 l1 0).f1))))), .string ((rd_T43 l1 x13_2).f2)] 43 (0, 0)) (by (with_reducible repeat (first | refine blk_drewN ?_ _ | refine blk_drew ?_ | refine blk_alloc ?_ _)); refine blk_put (cs := #[.int .i64 ((rd_T43 l1 x13_2).f0), .int .i64 ((rd_T43 l1 x13_2).f1), .string ((rd_T43 l1 x13_2).f2)]) ?_ 1 _ rfl; (with_reducible repeat (first | refine blk_drewN ?_ _ | refine blk_drew ?_ | refine blk_alloc ?_ _)); refine blk_put (cs := #[.int .i64 ((rd_T43 l1 x13_2).f0), .int .i64 ((rd_T43 l1 x13_2).f1), .string (⟨#[]⟩ : ByteArray)]) ?_ 2 _ rfl; (with_reducible repeat (first | refine blk_drewN ?_ _ | refine blk_drew ?_ | refine blk_alloc ?_ _)); refine blk_put (cs := #[.int .i64 ((rd_T43 l1 x13_2).f0), .int .i64 0, .string (⟨#[]⟩ : ByteArray)]) ?_ 1 _ rfl; (with_reducible repeat (first | refine blk_drewN ?_ _ | refine blk_drew ?_ | refine blk_alloc ?_ _)); refine blk_put (cs := #[.int .i64 0, .int .i64 0, .string (⟨#[]⟩ : ByteArray)]) ?_ 0 _ rfl; (with_reducible repeat (first | refine blk_drewN ?_ _ | refine blk_drew ?_ | refine blk_alloc ?_ _)); exact BK175.out) k_ hk)); (case aO => exact (by (with_reducible repeat (first | apply Kd.R_alloc | apply Kd.R_drewN | apply Kd.R_drew)); exact Kd.R_mono (Kd.R_far (p := ⟨gb175, 1, none⟩) (Kd.R_far (p := ⟨gb175, 2, none⟩) (Kd.R_far (p := ⟨gb175, 1, none⟩) (Kd.R_far (p := ⟨gb175, 0, none⟩) (Kd.R_mono HO_12.out (fun k_ hk => (⟨hk, hk.2⟩ : _ ∧ k_ ≠ gb175))) (fun _ hk => hk.2) (.int .i64 ((rd_T43 l1 x13_2).f0))) (fun _ hk => hk.2) (.int .i64 ((rd_T43 l1 x13_2).f1))) (fun _ hk => hk.2) (.string ((rd_T43 l1 x13_2).f2))) (fun _ hk => hk.2) (.int .i64 (wrap64 (((rd_T43 l1 x13_2).f1) + (wrap64 ((wrap64 (((rd_T43 l0 t159).f1) + 1)) - ((rd_T43 l1 0).f1))))))) (fun _ hk => hk.1.2))); (case aS => exact (below_size (bel_))); (case aL => have := LMc22.out; omega); intro v177 w25 ho hb hg hat; rw [← Ny176.out] at ho; have n0_ := Aside0.mk (blk_grown (g := gb175) (o := .cells #[.int .i64 ((rd_T43 l1 x13_2).f0), .int .i64 (wrap64 (((rd_T43 l1 x13_2).f1) + (wrap64 ((wrap64 (((rd_T43 l0 t159).f1) + 1)) - ((rd_T43 l1 0).f1))))), .string ((rd_T43 l1 x13_2).f2)] 43 (0, 0)) (by (with_reducible repeat (first | refine blk_drewN ?_ _ | refine blk_drew ?_ | refine blk_alloc ?_ _)); refine blk_put (cs := #[.int .i64 ((rd_T43 l1 x13_2).f0), .int .i64 ((rd_T43 l1 x13_2).f1), .string ((rd_T43 l1 x13_2).f2)]) ?_ 1 _ rfl; (with_reducible repeat (first | refine blk_drewN ?_ _ | refine blk_drew ?_ | refine blk_alloc ?_ _)); refine blk_put (cs := #[.int .i64 ((rd_T43 l1 x13_2).f0), .int .i64 ((rd_T43 l1 x13_2).f1), .string (⟨#[]⟩ : ByteArray)]) ?_ 2 _ rfl; (with_reducible repeat (first | refine blk_drewN ?_ _ | refine blk_drew ?_ | refine blk_alloc ?_ _)); refine blk_put (cs := #[.int .i64 ((rd_T43 l1 x13_2).f0), .int .i64 0, .string (⟨#[]⟩ : ByteArray)]) ?_ 1 _ rfl; (with_reducible repeat (first | refine blk_drewN ?_ _ | refine blk_drew ?_ | refine blk_alloc ?_ _)); refine blk_put (cs := #[.int .i64 0, .int .i64 0, .string (⟨#[]⟩ : ByteArray)]) ?_ 0 _ rfl; (with_reducible repeat (first | refine blk_drewN ?_ _ | refine blk_drew ?_ | refine blk_alloc ?_ _)); exact BK175.out) hg (Kd.R_away HO_12.out (fun _ hk => hk.2))); have n1_ := Aside0.mk (hb); have n2_ := Aside0.mk (ho); clear BK175; clear HB; clear HO_12; have BK175 := n0_; have HB := n1_; have HO178 := n2_; clear n0_ n1_ n2_; clear ho hb hg hat)))
              go_roundg k2
              case measure => have := HJ8.out; have := HK2.out; omega
              case rel => exact ⟨(y176), (wrap64 (x13_2 + 1)), (si_), H', ⟨by have := HJ8.out; have := HK2.out; omega⟩, ⟨by (with_reducible repeat (first | apply Kd.R_alloc | apply Kd.R_drewN | apply Kd.R_drew)); exact Kd.R_mono HO178.out (fun _ hk => trivial)⟩, ⟨bel_⟩⟩
             ·rw [if_neg c22] at H
              exact absurd H (by simp)
            ·rw [if_neg c21] at H
             exact absurd H (by simp)
           ·rw [if_neg c20] at H
            have c20b0 : decide (x13_2 < (l1.length : Int)) = false := decide_eq_false c20
            clear c20
            by_cases c26 : 0 ≤ x11_8
            ·rw [if_pos c26] at H
             have c26b0 := eq_true c26
             have c26b1 : decide (0 ≤ x11_8) = true := decide_eq_true c26
             clear c26
             by_cases c27 : x11_8 ≤ (l0.length : Int)
             ·rw [if_pos c27] at H
              have c27b0 := eq_true c27
              have c27b1 : decide (x11_8 ≤ (l0.length : Int)) = true := decide_eq_true c27
              clear c27
              obtain ⟨y179, hy179⟩ : ∃ y_ : List (S43), y_ = (l0.drop (x11_8 : Int).toNat) := ⟨_, rfl⟩
              replace H : (if x12_2.length + y179.length < 4398046511104 then (some (x12_2 ++ y179)) else (none)) = some r := by first | (rw [hy179]; with_reducible exact H) | (have H2_ := (Option.bind_some _ _).symm.trans H; rw [hy179]; with_reducible exact H2_) | (have H2_ := (Option.bind_some _ _).symm.trans H; with_reducible exact H2_) | with_reducible exact H | (rw [hy179]; exact H) | exact H
              have Ny179 := Aside0.mk hy179
              clear hy179
              by_cases c28 : x12_2.length + y179.length < 4398046511104
              ·rw [if_pos c28] at H
               have LMc28 := Aside0.mk c28
               clear c28
               obtain ⟨y183, hy183⟩ : ∃ y_ : List (S43), y_ = (x12_2 ++ y179) := ⟨_, rfl⟩
               replace H : (some y183) = some r := by first | (rw [hy183]; with_reducible exact H) | (have H2_ := (Option.bind_some _ _).symm.trans H; rw [hy183]; with_reducible exact H2_) | (have H2_ := (Option.bind_some _ _).symm.trans H; with_reducible exact H2_) | with_reducible exact H | (rw [hy183]; exact H) | exact H
               have Ny183 := Aside0.mk hy183
               clear hy183
               obtain rfl := Option.some.inj H
               have q29 : (x11_8 : Int) ≤ ((l0.length : Int) : Int) := od_
               obtain ⟨i029, hi029, _, hsz29, _⟩ := info_parts info43
               have hroom29 : l0.length ≤ c0 := HC0.out
               have hC29 : Kd.C k43 _ (some ad160) l0.length l0 := HR0.out
               have q029 : (0 : Int) ≤ (x11_8 : Int) := od_
               have hcut29 := cut_from (P := Tryd.prog) 27 43 .i64 Tryd.underlying27 hi029 3 hsz29 (some ad160) l0.length c0 x11_8 q029 q29
               have hr29 := Kd.C_drop (m := (x11_8 : Int).toNat) (c := c0) hC29 (by omega) hroom29
               obtain ⟨A29, hA29⟩ : ∃ A1, A1 = (if c0 = (x11_8 : Int).toNat then (some ad160) else ((some ad160) : Option Addr).map (·.add ((x11_8 : Int).toNat * 3))) := ⟨_, rfl⟩
               obtain ⟨c29, hc29⟩ : ∃ c1, c1 = c0 - (x11_8 : Int).toNat := ⟨_, rfl⟩
               have hy29 : y179.length = l0.length - (x11_8 : Int).toNat := (by rw [Ny179.out, List.length_drop] <;> omega)
               rw [show (l0).drop (x11_8 : Int).toNat = y179 from Ny179.out.symm] at hr29
               replace hr29 : Kd.C k43 _ A29 y179.length y179 := (by rw [hA29]; exact hr29)
               rw [← hy29, ← hA29, ← hc29] at hcut29
               have HR182 := Aside0.mk hr29
               have HC182 := Aside0.mk (show y179.length ≤ c29 from by rw [hy29, hc29]; exact Nat.sub_le_sub_right hroom29 _)
               clear hr29 hC29 hroom29 hi029 hsz29 hc29
               have KY29 := Aside0.mk hy29
               have KA29 := Aside0.mk hA29
               clear hy29 hA29
               replace q29 := eq_true q29
               go_wp2_with (first | ((with_reducible refine gate_builtin (b := .append) (xs := #[.tmp 62, .tmp 65]) rfl ?_); at_builtin; refine Kd.R_append_rows k43 (w0 := w) w.heap.size rfl (.tmp 62) (.tmp 65) 27 43 (.agg #[(.int .i64 0), (.int .i64 0), (.string ⟨#[]⟩)]) 32 rfl Tryd.underlying27 info43 rfl (by decide) (by omega) u12 x12_2 y179 _ _ _ (fun _ => True) (fun _ => False) rfl rfl ?aO ?aR (fun _ _ h => h) (fun _ h => h.elim) ?aF ?aB ?aS ?aL ?_; (case aR => exact cx_ (Kd.C_below HR182.out HB.out)); (case aB => exact (bel_)); (case aF => exact (fun _ _ => trivial)); (case aO => exact (rp_ HO_12.out)); (case aS => exact (below_size (bel_))); (case aL => have := LMc28.out; omega); intro v184 w30 ho hb hg hat; rw [← Ny183.out] at ho; replace HB := Aside0.mk (hb); have HO185 := Aside0.mk (ho); clear HO_12; clear ho hb hg hat))
               repeat (go_quiet (first | ((with_reducible refine gate_builtin (b := .append) (xs := #[.tmp 62, .tmp 65]) rfl ?_); at_builtin; refine Kd.R_append_rows k43 (w0 := w) w.heap.size rfl (.tmp 62) (.tmp 65) 27 43 (.agg #[(.int .i64 0), (.int .i64 0), (.string ⟨#[]⟩)]) 32 rfl Tryd.underlying27 info43 rfl (by decide) (by omega) u12 x12_2 y179 _ _ _ (fun _ => True) (fun _ => False) rfl rfl ?aO ?aR (fun _ _ h => h) (fun _ h => h.elim) ?aF ?aB ?aS ?aL ?_; (case aR => exact cx_ (Kd.C_below HR182.out HB.out)); (case aB => exact (bel_)); (case aF => exact (fun _ _ => trivial)); (case aO => exact (rp_ HO_12.out)); (case aS => exact (below_size (bel_))); (case aL => have := LMc28.out; omega); intro v184 w30 ho hb hg hat; rw [← Ny183.out] at ho; replace HB := Aside0.mk (hb); have HO185 := Aside0.mk (ho); clear HO_12; clear ho hb hg hat)); try go_wp2_with (first | ((with_reducible refine gate_builtin (b := .append) (xs := #[.tmp 62, .tmp 65]) rfl ?_); at_builtin; refine Kd.R_append_rows k43 (w0 := w) w.heap.size rfl (.tmp 62) (.tmp 65) 27 43 (.agg #[(.int .i64 0), (.int .i64 0), (.string ⟨#[]⟩)]) 32 rfl Tryd.underlying27 info43 rfl (by decide) (by omega) u12 x12_2 y179 _ _ _ (fun _ => True) (fun _ => False) rfl rfl ?aO ?aR (fun _ _ h => h) (fun _ h => h.elim) ?aF ?aB ?aS ?aL ?_; (case aR => exact cx_ (Kd.C_below HR182.out HB.out)); (case aB => exact (bel_)); (case aF => exact (fun _ _ => trivial)); (case aO => exact (rp_ HO_12.out)); (case aS => exact (below_size (bel_))); (case aL => have := LMc28.out; omega); intro v184 w30 ho hb hg hat; rw [← Ny183.out] at ho; replace HB := Aside0.mk (hb); have HO185 := Aside0.mk (ho); clear HO_12; clear ho hb hg hat)))
               go_ret
               exact ⟨_, fi_, by (with_reducible repeat (first | apply Kd.R_alloc | apply Kd.R_drewN | apply Kd.R_drew)); exact HO185.out, bel_⟩
              ·rw [if_neg c28] at H
               exact absurd H (by simp)
             ·rw [if_neg c27] at H
              exact absurd H (by simp)
            ·rw [if_neg c26] at H
             exact absurd H (by simp)
        ·rw [if_neg c15] at H
         exact absurd H (by simp)
       ·rw [if_neg c14] at H
        exact absurd H (by simp)
      ·rw [if_neg c13] at H
       exact absurd H (by simp)
   ·rw [if_neg c8] at H
    exact absurd H (by simp)
  ·rw [if_neg c7] at H
   exact absurd H (by simp)
 ·rw [if_neg c6] at H
  exact absurd H (by simp)

def spec_l3Do.f (k : Nat) (l0 : List (S43)) (a1_0 : Int) (a1_1 : Int) (a1_2 : Int) (a1_3 : Int) (a1_4 : ByteArray) : Option ((List (S43))) := (spec_l2At.f k l0 a1_1).bind fun t187 => (if a1_0 = 2 then ((some (([] : List (S43)) : List (S43))).bind fun y188 => (if y188.length + l0.length < 4398046511104 then ((some (y188 ++ l0 : List (S43))).bind fun y191 => (if t187 ≥ 0 then (if 0 ≤ t187 then (if t187 < (y191.length : Int) then (some (y191.set (t187 : Int).toNat (⟨(rd_T43 y191 t187).f0, (rd_T43 y191 t187).f1, a1_4⟩ : S43))) else (none)) else (none)) else (some y191))) else (none))) else ((spec_l3Where.f k l0 a1_0 a1_1 a1_2 a1_3 a1_4).bind fun bt195 => (if bt195.2.2 = true then (if a1_0 = 1 then ((spec_l3Put.f k l0 (([(⟨a1_1, 0, a1_4⟩ : S43)] : List (S43))) bt195.1 bt195.2.1).bind fun t207 => (some t207)) else ((spec_l2End.f k l0 t187).bind fun t210 => ((some (([] : List (S43)) : List (S43))).bind fun y211 => (if 0 ≤ t187 then (if t187 ≤ t210 then (if t210 ≤ (l0.length : Int) then ((some ((l0.take (t210 : Int).toNat).drop (t187 : Int).toNat : List (S43))).bind fun y214 => (if y211.length + y214.length < 4398046511104 then ((some (([] : List (S43)) : List (S43))).bind fun y221 => (if t187 ≤ (l0.length : Int) then ((some (l0.take (t187 : Int).toNat : List (S43))).bind fun y224 => (if y221.length + y224.length < 4398046511104 then ((some (y221 ++ y224 : List (S43))).bind fun y228 => (if 0 ≤ t210 then ((some (l0.drop (t210 : Int).toNat : List (S43))).bind fun y231 => (if y228.length + y231.length < 4398046511104 then ((spec_l3Put.f k (y228 ++ y231) (y211 ++ y214) bt195.1 bt195.2.1).bind fun t238 => (some t238)) else (none))) else (none))) else (none))) else (none))) else (none))) else (none)) else (none)) else (none))))) else ((some (([] : List (S43)) : List (S43))).bind fun y198 => (if y198.length + l0.length < 4398046511104 then (some (y198 ++ l0)) else (none))))))
theorem spec_l3Do.mono : ∀ a0 a1 a2 a3 a4 a5 k, LeO (spec_l3Do.f k a0 a1 a2 a3 a4 a5) (spec_l3Do.f (k + 1) a0 a1 a2 a3 a4 a5) := by
 intro a0 a1 a2 a3 a4 a5 k
 unfold spec_l3Do.f
 repeat' first
   | (with_reducible exact spec_l2At.mono _ _ _)
   | (with_reducible exact spec_l2End.mono _ _ _)
   | (with_reducible exact spec_l3Put.mono _ _ _ _ _)
   | (with_reducible exact spec_l3Where.mono _ _ _ _ _ _ _)
   | (with_reducible exact LeO.refl _)
   | (with_reducible exact LeO.none _)
   | (with_reducible refine LeO.ite ?_ ?_)
   | (with_reducible refine LeO.bind ?_ (fun _ => ?_))
   | exact spec_l2At.mono _ _ _
   | exact spec_l2End.mono _ _ _
   | exact spec_l3Put.mono _ _ _ _ _
   | exact spec_l3Where.mono _ _ _ _ _ _ _
   | exact LeO.none _
   | refine LeO.ite ?_ ?_
   | refine LeO.bind ?_ (fun _ => ?_)
def spec_l3Do.T14 : Bool × List (List Nat × List Nat) := (true, [([], []), ([], []), ([], []), ([1, 2], [1, 2]), ([0, 3], [0, 3]), ([], []), ([], []), ([5, 6], [5, 6]), ([4, 7, 4], [4, 7]), ([8, 8, 0, 1, 2, 3, 4, 5, 6, 7, 8], [8])])
def spec_l3Do.B14 : List Nat := [0, 0, 0, 6, 15, 0, 0, 96, 255, 511]
theorem spec_l3Do.tab14 : rtab .any (opsOf Tryd.f38 14) = spec_l3Do.T14 := by kernel_rfl
theorem spec_l3Do.bits14 : waitsOk spec_l3Do.T14.2 spec_l3Do.B14 = true := by kernel_rfl
set_option maxHeartbeats 8000000 in
set_option maxRecDepth 100000 in
theorem spec_l3Do.calls (k : Nat) (A0 : Option Addr) (c0 : Nat) (l0 : List (S43)) (a1_0 : Int) (a1_1 : Int) (a1_2 : Int) (a1_3 : Int) (a1_4 : ByteArray) (r : List (S43)) (w : World) (hr0 : Kd.C k43 w A0 l0.length l0) (hc0 : l0.length ≤ c0) (h : spec_l3Do.f k l0 a1_0 a1_1 a1_2 a1_3 a1_4 = some r) :
  Calls Tryd.prog 38 #[.slice A0 l0.length c0, .agg #[.int .i64 a1_0, .int .i64 a1_1, .int .i64 a1_2, .int .i64 a1_3, .string a1_4]] w fun e w' => ∃ v0_ : Value, e = .returned (v0_) ∧ Kd.R k43 43 w' w.heap.size (fun _ => True) v0_ r ∧ Below w.heap.size w w' := by
 have hu30 := Tryd.underlying30
 have hu43 := Tryd.underlying43
 have HR0 := Aside0.mk hr0
 have HC0 := Aside0.mk hc0
 clear hr0 hc0
 have HB := Aside0.mk (Below.refl w.heap.size w)
 unfold spec_l3Do.f at h
 have H := h
 clear h
 replace H := Option.bind_eq_some_iff.mp H
 obtain ⟨t187, A30, H⟩ := H
 try dsimp only at H
 have A3 := Aside0.mk A30
 clear A30
 by_cases c4 : a1_0 = 2
 ·rw [if_pos c4] at H
  have c4b0 : (a1_0 == 2) = true := beq_iff_eq.mpr c4
  have c4b1 : (a1_0 != 2) = false := bne_eq_false_iff_eq.mpr c4
  clear c4
  obtain ⟨y188, hy188⟩ : ∃ y_ : List (S43), y_ = (([] : List (S43))) := ⟨_, rfl⟩
  replace H : (if y188.length + l0.length < 4398046511104 then ((some (y188 ++ l0 : List (S43))).bind fun y191 => (if t187 ≥ 0 then (if 0 ≤ t187 then (if t187 < (y191.length : Int) then (some (y191.set (t187 : Int).toNat (⟨(rd_T43 y191 t187).f0, (rd_T43 y191 t187).f1, a1_4⟩ : S43))) else (none)) else (none)) else (some y191))) else (none)) = some r := by first | (rw [hy188]; with_reducible exact H) | (have H2_ := (Option.bind_some _ _).symm.trans H; rw [hy188]; with_reducible exact H2_) | (have H2_ := (Option.bind_some _ _).symm.trans H; with_reducible exact H2_) | with_reducible exact H | (rw [hy188]; exact H) | exact H
  have Ny188 := Aside0.mk hy188
  clear hy188
  by_cases c5 : y188.length + l0.length < 4398046511104
  ·rw [if_pos c5] at H
   have LMc5 := Aside0.mk c5
   clear c5
   obtain ⟨y191, hy191⟩ : ∃ y_ : List (S43), y_ = (y188 ++ l0) := ⟨_, rfl⟩
   replace H : (if t187 ≥ 0 then (if 0 ≤ t187 then (if t187 < (y191.length : Int) then (some (y191.set (t187 : Int).toNat (⟨(rd_T43 y191 t187).f0, (rd_T43 y191 t187).f1, a1_4⟩ : S43))) else (none)) else (none)) else (some y191)) = some r := by first | (rw [hy191]; with_reducible exact H) | (have H2_ := (Option.bind_some _ _).symm.trans H; rw [hy191]; with_reducible exact H2_) | (have H2_ := (Option.bind_some _ _).symm.trans H; with_reducible exact H2_) | with_reducible exact H | (rw [hy191]; exact H) | exact H
   have Ny191 := Aside0.mk hy191
   clear hy191
   by_cases c6 : t187 ≥ 0
   ·rw [if_pos c6] at H
    have c6b0 : decide (0 ≤ t187) = true := decide_eq_true c6
    clear c6
    by_cases c7 : 0 ≤ t187
    ·rw [if_pos c7] at H
     have c7b0 : decide (0 ≤ t187) = true := decide_eq_true c7
     clear c7
     by_cases c8 : t187 < (y191.length : Int)
     ·rw [if_pos c8] at H
      have c8b0 : decide (t187 < (y191.length : Int)) = true := decide_eq_true c8
      clear c8
      obtain ⟨y194, hy194⟩ : ∃ y_ : List (S43), y_ = (y191.set (t187 : Int).toNat (⟨(rd_T43 y191 t187).f0, (rd_T43 y191 t187).f1, a1_4⟩ : S43)) := ⟨_, rfl⟩
      replace H : (some y194) = some r := by first | (rw [hy194]; with_reducible exact H) | (have H2_ := (Option.bind_some _ _).symm.trans H; rw [hy194]; with_reducible exact H2_) | (have H2_ := (Option.bind_some _ _).symm.trans H; with_reducible exact H2_) | with_reducible exact H | (rw [hy194]; exact H) | exact H
      have Ny194 := Aside0.mk hy194
      clear hy194
      obtain rfl := Option.some.inj H
      go_enter Tryd.func38, Tryd.ntmps38
      go_wp2_with (first | ((with_reducible refine gate_dst (N := 3) rfl ?_); refine bx_ 3 (#[.int .i64 a1_0, .int .i64 a1_1, .int .i64 a1_2, .int .i64 a1_3, .string a1_4]) 30 ?_; intro gb186 hg w10 hbox hb; have n0_ := Aside0.mk (below_step (bel_) hb); have n1_ := Aside0.mk (hbox); have n2_ := Aside0.mk ((by rw [hg]; exact (below_size (bel_)) : w.heap.size ≤ gb186)); have n3_ := Aside0.mk ((by rw [hg]; exact (below_size (bel_)) : w.heap.size ≤ gb186)); clear HB; have HB := n0_; have BK186 := n1_; have GW186 := n2_; have GE186 := n3_; clear n0_ n1_ n2_ n3_; clear hb hbox hg; have hcz11_0 := cz_ BK186.out 0 (.int .i64 a1_0); have hcz11_1 := cz_ BK186.out 1 (.int .i64 a1_1); have hcz11_2 := cz_ BK186.out 2 (.int .i64 a1_2); have hcz11_3 := cz_ BK186.out 3 (.int .i64 a1_3); have hcz11_4 := cz_ BK186.out 4 (.string a1_4); have hfz11_0 := blk_frozen BK186.out 0; have hfz11_1 := blk_frozen BK186.out 1; have hfz11_2 := blk_frozen BK186.out 2; have hfz11_3 := blk_frozen BK186.out 3; have hfz11_4 := blk_frozen BK186.out 4) | ((with_reducible refine gate_callee (f := 60) rfl ?_); refine gl_ 16 Tryd.func60 #[.slice A0 l0.length c0, .int .i64 a1_1] ?_; (with_reducible refine (spec_l2At.calls k _ _ l0 a1_1 t187 _ ?side1 ?side2 A3.out).mono ?_); (case side1 => exact cp_ HR0.out); (case side2 => exact HC0.out); rintro e w' ⟨rfl, ⟨nd, rfl⟩⟩; refine ⟨_, rfl, ?_⟩; (try (rw [drewN_self w10]; generalize hq_ : World.drewN w10 _ = w10; have n0_ : Aside0 (w10.heap[gb186]? = some (.cells #[.int .i64 a1_0, .int .i64 a1_1, .int .i64 a1_2, .int .i64 a1_3, .string a1_4] 30 (0, 0))) := ⟨by rw [← hq_]; exact (bp_ BK186.out)⟩; have n1_ : Aside0 (Below w.heap.size w w10) := ⟨by rw [← hq_]; exact (bel_)⟩; clear BK186 HB hq_; have BK186 := n0_; have HB := n1_; clear n0_ n1_; have hcy_gb186_0 : w10.cell? ⟨gb186, 0, none⟩ = some (.int .i64 a1_0) := (blk_cell BK186.out 0).trans rfl; have hfy_gb186_0 := blk_frozen BK186.out 0; have hcy_gb186_1 : w10.cell? ⟨gb186, 1, none⟩ = some (.int .i64 a1_1) := (blk_cell BK186.out 1).trans rfl; have hfy_gb186_1 := blk_frozen BK186.out 1; have hcy_gb186_2 : w10.cell? ⟨gb186, 2, none⟩ = some (.int .i64 a1_2) := (blk_cell BK186.out 2).trans rfl; have hfy_gb186_2 := blk_frozen BK186.out 2; have hcy_gb186_3 : w10.cell? ⟨gb186, 3, none⟩ = some (.int .i64 a1_3) := (blk_cell BK186.out 3).trans rfl; have hfy_gb186_3 := blk_frozen BK186.out 3; have hcy_gb186_4 : w10.cell? ⟨gb186, 4, none⟩ = some (.string a1_4) := (blk_cell BK186.out 4).trans rfl; have hfy_gb186_4 := blk_frozen BK186.out 4))) | ((with_reducible refine gate_dst (N := 20) rfl ?_); refine Kd.R_lit k43 _ 43 ?hg (N := 20) ?hd (xs := ([] : List (S43))) (inner := []) (ok := fun _ => True) (okp := fun _ => True) ?hr ?hp (fun _ hk => hk) trivial (Below.refl _ _) (Nat.le_refl _) (by simp) ?_; (case hd => rfl); (case hg => rfl); (case hr => first | (go_simp; done) | (go_simp; rfl)); (case hp => exact (Reps.none _ _)); intro v189 w12 ho13 hb hg_ hnew_; clear hg_ hnew_; (first | rw [← Ny188.out] at ho13 | (simp only [Int.reduceToNat] at ho13; rw [← Ny188.out] at ho13)); have HO190 := Aside0.mk (Kd.R_lower ho13 (below_size (bel_))); replace HB := Aside0.mk (below_step (bel_) hb); replace BK186 := Aside0.mk (bb_ BK186.out hb); clear hb ho13) | ((with_reducible refine gate_builtin (b := .append) (xs := #[.tmp 20, .tmp 21]) rfl ?_); at_builtin; refine Kd.R_append_rows k43 (w0 := w) w.heap.size rfl (.tmp 20) (.tmp 21) 27 43 (.agg #[(.int .i64 0), (.int .i64 0), (.string ⟨#[]⟩)]) 32 rfl Tryd.underlying27 info43 rfl (by decide) (by omega) v189 y188 l0 _ _ _ (fun _ => True) (fun _ => False) rfl rfl ?aO ?aR (fun _ _ h => h) (fun _ h => h.elim) ?aF ?aB ?aS ?aL ?_; (case aR => exact cx_ (Kd.C_below HR0.out HB.out)); (case aB => exact (bel_)); (case aF => exact (fun _ _ => trivial)); (case aO => exact (rp_ HO190.out)); (case aS => exact (below_size (bel_))); (case aL => have := LMc5.out; omega); intro v192 w14 ho hb hg hat; rw [← Ny191.out] at ho; replace BK186 := Aside0.mk (blk_grown (g := gb186) (o := .cells #[.int .i64 a1_0, .int .i64 a1_1, .int .i64 a1_2, .int .i64 a1_3, .string a1_4] 30 (0, 0)) (bp_ BK186.out) hg (Kd.R_ne HO190.out BK186.out (by decide))); replace HB := Aside0.mk (hb); have HO193 := Aside0.mk (ho); clear HO190; clear ho hb hg hat; have hcz15_0 := cz_ BK186.out 0 (.int .i64 a1_0); have hcz15_1 := cz_ BK186.out 1 (.int .i64 a1_1); have hcz15_2 := cz_ BK186.out 2 (.int .i64 a1_2); have hcz15_3 := cz_ BK186.out 3 (.int .i64 a1_3); have hcz15_4 := cz_ BK186.out 4 (.string a1_4); have hfz15_0 := blk_frozen BK186.out 0; have hfz15_1 := blk_frozen BK186.out 1; have hfz15_2 := blk_frozen BK186.out 2; have hfz15_3 := blk_frozen BK186.out 3; have hfz15_4 := blk_frozen BK186.out 4; have p9 : 0 ≤ (t187 : Int) := od_; have q9 : (t187 : Int) < ((y191.length : Int) : Int) := od_; obtain ⟨go9, co9, eo9, gb9, gl9, cl9, HG9⟩ := Kd.R_form HO193.out (by omega); (first | cases eo9 | (injection eo9 with ea_ en_ ec_; (first | subst ea_ | (injection ea_ with ea_; subst ea_)); subst ec_; clear en_)); have GB9 := Aside0.mk gb9; have GG9 := Aside0.mk HG9; clear gb9 gl9 HG9; obtain ⟨ce9, hcl9, hM9, hcc9, hfr9⟩ := Kd.R_elem HO193.out z43 (t187 : Int) p9 q9; obtain rfl := k43_openM hM9; have hx9_0 : w14.cell? ⟨go9, (t187 : Int).toNat * 3, none⟩ = some (.int .i64 ((rd_T43 y191 t187).f0)) := hcc9 0 _ rfl; have hx9_1 : w14.cell? ⟨go9, (t187 : Int).toNat * 3 + 1, none⟩ = some (.int .i64 ((rd_T43 y191 t187).f1)) := hcc9 1 _ rfl; have hx9_2 : w14.cell? ⟨go9, (t187 : Int).toNat * 3 + 2, none⟩ = some (.string ((rd_T43 y191 t187).f2)) := hcc9 2 _ rfl; have hf9_0 : w14.frozen? ⟨go9, (t187 : Int).toNat * 3, none⟩ = false := hfr9 0; have hf9_1 : w14.frozen? ⟨go9, (t187 : Int).toNat * 3 + 1, none⟩ = false := hfr9 1; have hf9_2 : w14.frozen? ⟨go9, (t187 : Int).toNat * 3 + 2, none⟩ = false := hfr9 2; clear hcl9 hcc9 hfr9 hM9; replace p9 := eq_true p9; replace q9 := eq_true q9; have HX16 := Aside0.mk (show Kd.R k43 43 w14 w.heap.size (fun _ => True) (.slice (some ⟨go9, 0, none⟩) y191.length co9) y191 from (rp_ HO193.out)); obtain ⟨ce16, hcl16, hM16, hcc16, hfr16⟩ := Kd.R_elem HX16.out z43 (t187 : Int) (od_) (by have h_ : (t187 : Int) < ((y191.length : Int) : Int) := od_; first | exact h_ | (have e_ := (Kd.R_reads' HO193.out).1; omega) | simpa using h_); obtain rfl := k43_openM hM16; have HP16 := Kd.R_seg HX16.out (t187 : Int) (od_) (by have h_ : (t187 : Int) < ((y191.length : Int) : Int) := od_; first | exact h_ | (have e_ := (Kd.R_reads' HO193.out).1; omega) | simpa using h_) (seg := [.string a1_4]) (j := 2) hcl16 hcc16 (show 3 ≤ 3 from by decide) (x' := (⟨(rd_T43 y191 t187).f0, (rd_T43 y191 t187).f1, a1_4⟩ : S43)) (k43_mkM _ _ _ (⟨(rd_T43 y191 t187).f0, (rd_T43 y191 t187).f1, a1_4⟩ : S43) ) (fun _ hk => hk); have hx16_2 := hcc16 2 _ rfl; (try simp only [show (k43).sz = 3 from rfl, Nat.mul_one, Nat.add_zero] at hx16_2); have hf16_2 := hfr16 2; (try simp only [show (k43).sz = 3 from rfl, Nat.mul_one, Nat.add_zero] at hf16_2); clear hcl16 hcc16 hfr16 hM16) | ((with_reducible refine gate_store (t := 9) (p := 30) rfl ?_); refine store_event (t := 9) (p := 30) (v := ?vo_w17) (w1 := (w14.setCell ⟨go9, (t187 : Int).toNat * 3 + 2, none⟩ (.string a1_4))) ?hg ?ho ?hn ?hr ?_; (case ho => rfl); (case hg => rfl); (case hn => rfl); (case hr => first | (go_simp; done) | (go_simp; rfl)); intro w17 hw; have hg : w14.grownBy w17 (some go9) := (by rw [hw]; exact HP16.2); have hp_ : Kd.R k43 43 w17 w.heap.size (fun _ => True) (.slice (some ⟨go9, 0, none⟩) y191.length co9) y194 := (by rw [hw, Ny194.out]; exact HP16.1); clear HP16; have n0_ := Aside0.mk (blk_grown (g := gb186) (o := .cells #[.int .i64 a1_0, .int .i64 a1_1, .int .i64 a1_2, .int .i64 a1_3, .string a1_4] 30 (0, 0)) (bp_ BK186.out) hg (Kd.R_ne HO193.out BK186.out (by decide))); have n1_ := Aside0.mk (hp_); have n2_ := Aside0.mk ((by rw [hw]; exact below_set (HB.out) GB9.out : Below w.heap.size w w17)); clear BK186; clear HO193; clear HB; have BK186 := n0_; have HO193 := n1_; have HB := n2_; clear n0_ n1_ n2_; clear hg hw hp_))
      go_ret
      exact ⟨_, fi_, by (with_reducible repeat (first | apply Kd.R_alloc | apply Kd.R_drewN | apply Kd.R_drew)); exact HO193.out, bel_⟩
     ·rw [if_neg c8] at H
      exact absurd H (by simp)
    ·rw [if_neg c7] at H
     exact absurd H (by simp)
   ·rw [if_neg c6] at H
    have c6b0 : decide (0 ≤ t187) = false := decide_eq_false c6
    clear c6
    obtain rfl := Option.some.inj H
    go_enter Tryd.func38, Tryd.ntmps38
    go_wp2_with (first | ((with_reducible refine gate_dst (N := 3) rfl ?_); refine bx_ 3 (#[.int .i64 a1_0, .int .i64 a1_1, .int .i64 a1_2, .int .i64 a1_3, .string a1_4]) 30 ?_; intro gb186 hg w18 hbox hb; have n0_ := Aside0.mk (below_step (bel_) hb); have n1_ := Aside0.mk (hbox); have n2_ := Aside0.mk ((by rw [hg]; exact (below_size (bel_)) : w.heap.size ≤ gb186)); have n3_ := Aside0.mk ((by rw [hg]; exact (below_size (bel_)) : w.heap.size ≤ gb186)); clear HB; have HB := n0_; have BK186 := n1_; have GW186 := n2_; have GE186 := n3_; clear n0_ n1_ n2_ n3_; clear hb hbox hg; have hcz19_0 := cz_ BK186.out 0 (.int .i64 a1_0); have hcz19_1 := cz_ BK186.out 1 (.int .i64 a1_1); have hcz19_2 := cz_ BK186.out 2 (.int .i64 a1_2); have hcz19_3 := cz_ BK186.out 3 (.int .i64 a1_3); have hcz19_4 := cz_ BK186.out 4 (.string a1_4); have hfz19_0 := blk_frozen BK186.out 0; have hfz19_1 := blk_frozen BK186.out 1; have hfz19_2 := blk_frozen BK186.out 2; have hfz19_3 := blk_frozen BK186.out 3; have hfz19_4 := blk_frozen BK186.out 4) | ((with_reducible refine gate_callee (f := 60) rfl ?_); refine gl_ 16 Tryd.func60 #[.slice A0 l0.length c0, .int .i64 a1_1] ?_; (with_reducible refine (spec_l2At.calls k _ _ l0 a1_1 t187 _ ?side1 ?side2 A3.out).mono ?_); (case side1 => exact cp_ HR0.out); (case side2 => exact HC0.out); rintro e w' ⟨rfl, ⟨nd, rfl⟩⟩; refine ⟨_, rfl, ?_⟩) | ((with_reducible refine gate_dst (N := 20) rfl ?_); refine Kd.R_lit k43 _ 43 ?hg (N := 20) ?hd (xs := ([] : List (S43))) (inner := []) (ok := fun _ => True) (okp := fun _ => True) ?hr ?hp (fun _ hk => hk) trivial (Below.refl _ _) (Nat.le_refl _) (by simp) ?_; (case hd => rfl); (case hg => rfl); (case hr => first | (go_simp; done) | (go_simp; rfl)); (case hp => exact (Reps.none _ _)); intro v189 w20 ho21 hb hg_ hnew_; clear hg_ hnew_; (first | rw [← Ny188.out] at ho21 | (simp only [Int.reduceToNat] at ho21; rw [← Ny188.out] at ho21)); have HO190 := Aside0.mk (Kd.R_lower ho21 (below_size (bel_))); replace HB := Aside0.mk (below_step (bel_) hb); replace BK186 := Aside0.mk (bb_ BK186.out hb); clear hb ho21) | ((with_reducible refine gate_builtin (b := .append) (xs := #[.tmp 20, .tmp 21]) rfl ?_); at_builtin; refine Kd.R_append_rows k43 (w0 := w) w.heap.size rfl (.tmp 20) (.tmp 21) 27 43 (.agg #[(.int .i64 0), (.int .i64 0), (.string ⟨#[]⟩)]) 32 rfl Tryd.underlying27 info43 rfl (by decide) (by omega) v189 y188 l0 _ _ _ (fun _ => True) (fun _ => False) rfl rfl ?aO ?aR (fun _ _ h => h) (fun _ h => h.elim) ?aF ?aB ?aS ?aL ?_; (case aR => exact cx_ (Kd.C_below HR0.out HB.out)); (case aB => exact (bel_)); (case aF => exact (fun _ _ => trivial)); (case aO => exact (rp_ HO190.out)); (case aS => exact (below_size (bel_))); (case aL => have := LMc5.out; omega); intro v192 w22 ho hb hg hat; rw [← Ny191.out] at ho; replace BK186 := Aside0.mk (blk_grown (g := gb186) (o := .cells #[.int .i64 a1_0, .int .i64 a1_1, .int .i64 a1_2, .int .i64 a1_3, .string a1_4] 30 (0, 0)) (bp_ BK186.out) hg (Kd.R_ne HO190.out BK186.out (by decide))); replace HB := Aside0.mk (hb); have HO193 := Aside0.mk (ho); clear HO190; clear ho hb hg hat))
    go_ret
    exact ⟨_, fi_, by (with_reducible repeat (first | apply Kd.R_alloc | apply Kd.R_drewN | apply Kd.R_drew)); exact HO193.out, bel_⟩
  ·rw [if_neg c5] at H
   exact absurd H (by simp)
 ·rw [if_neg c4] at H
  have c4b0 : (a1_0 == 2) = false := beq_eq_false_iff_ne.mpr c4
  have c4b1 : (a1_0 != 2) = true := bne_iff_ne.mpr c4
  replace H := Option.bind_eq_some_iff.mp H
  obtain ⟨⟨t195, t196, t197⟩, A230, H⟩ := H
  try dsimp only at H
  have A23 := Aside0.mk A230
  clear A230
  by_cases c24 : t197 = true
  ·subst c24
   have H1 : (if a1_0 = 1 then ((spec_l3Put.f k l0 (([(⟨a1_1, 0, a1_4⟩ : S43)] : List (S43))) t195 t196).bind fun t207 => (some t207)) else ((spec_l2End.f k l0 t187).bind fun t210 => ((some (([] : List (S43)) : List (S43))).bind fun y211 => (if 0 ≤ t187 then (if t187 ≤ t210 then (if t210 ≤ (l0.length : Int) then ((some ((l0.take (t210 : Int).toNat).drop (t187 : Int).toNat : List (S43))).bind fun y214 => (if y211.length + y214.length < 4398046511104 then ((some (([] : List (S43)) : List (S43))).bind fun y221 => (if t187 ≤ (l0.length : Int) then ((some (l0.take (t187 : Int).toNat : List (S43))).bind fun y224 => (if y221.length + y224.length < 4398046511104 then ((some (y221 ++ y224 : List (S43))).bind fun y228 => (if 0 ≤ t210 then ((some (l0.drop (t210 : Int).toNat : List (S43))).bind fun y231 => (if y228.length + y231.length < 4398046511104 then ((spec_l3Put.f k (y228 ++ y231) (y211 ++ y214) t195 t196).bind fun t238 => (some t238)) else (none))) else (none))) else (none))) else (none))) else (none))) else (none)) else (none)) else (none))))) = some r := by rw [if_pos rfl] at H; exact H
   clear H
   have H := H1
   clear H1
   by_cases c25 : a1_0 = 1
   ·rw [if_pos c25] at H
    have c25b0 : (a1_0 == 1) = true := beq_iff_eq.mpr c25
    have c25b1 : (a1_0 != 1) = false := bne_eq_false_iff_eq.mpr c25
    clear c25
    obtain ⟨y204, hy204⟩ : ∃ y_ : List (S43), y_ = (([(⟨a1_1, 0, a1_4⟩ : S43)] : List (S43))) := ⟨_, rfl⟩
    replace H : ((spec_l3Put.f k l0 y204 t195 t196).bind fun t207 => (some t207)) = some r := by first | (rw [hy204]; with_reducible exact H) | (have H2_ := (Option.bind_some _ _).symm.trans H; rw [hy204]; with_reducible exact H2_) | (have H2_ := (Option.bind_some _ _).symm.trans H; with_reducible exact H2_) | with_reducible exact H | (rw [hy204]; exact H) | exact H
    have Ny204 := Aside0.mk hy204
    clear hy204
    replace H := Option.bind_eq_some_iff.mp H
    obtain ⟨t207, A260, H⟩ := H
    try dsimp only at H
    have A26 := Aside0.mk A260
    clear A260
    obtain rfl := Option.some.inj H
    go_enter Tryd.func38, Tryd.ntmps38
    go_wp2_with (first | ((with_reducible refine gate_dst (N := 3) rfl ?_); refine bx_ 3 (#[.int .i64 a1_0, .int .i64 a1_1, .int .i64 a1_2, .int .i64 a1_3, .string a1_4]) 30 ?_; intro gb186 hg w27 hbox hb; have n0_ := Aside0.mk (below_step (bel_) hb); have n1_ := Aside0.mk (hbox); have n2_ := Aside0.mk ((by rw [hg]; exact (below_size (bel_)) : w.heap.size ≤ gb186)); have n3_ := Aside0.mk ((by rw [hg]; exact (below_size (bel_)) : w.heap.size ≤ gb186)); clear HB; have HB := n0_; have BK186 := n1_; have GW186 := n2_; have GE186 := n3_; clear n0_ n1_ n2_ n3_; clear hb hbox hg; have hcz28_0 := cz_ BK186.out 0 (.int .i64 a1_0); have hcz28_1 := cz_ BK186.out 1 (.int .i64 a1_1); have hcz28_2 := cz_ BK186.out 2 (.int .i64 a1_2); have hcz28_3 := cz_ BK186.out 3 (.int .i64 a1_3); have hcz28_4 := cz_ BK186.out 4 (.string a1_4); have hfz28_0 := blk_frozen BK186.out 0; have hfz28_1 := blk_frozen BK186.out 1; have hfz28_2 := blk_frozen BK186.out 2; have hfz28_3 := blk_frozen BK186.out 3; have hfz28_4 := blk_frozen BK186.out 4) | ((with_reducible refine gate_callee (f := 60) rfl ?_); refine gl_ 16 Tryd.func60 #[.slice A0 l0.length c0, .int .i64 a1_1] ?_; (with_reducible refine (spec_l2At.calls k _ _ l0 a1_1 t187 _ ?side1 ?side2 A3.out).mono ?_); (case side1 => exact cp_ HR0.out); (case side2 => exact HC0.out); rintro e w' ⟨rfl, ⟨nd, rfl⟩⟩; refine ⟨_, rfl, ?_⟩) | ((with_reducible refine gate_callee (f := 61) rfl ?_); refine gl_ 35 Tryd.func61 #[.slice A0 l0.length c0, .agg #[.int .i64 a1_0, .int .i64 a1_1, .int .i64 a1_2, .int .i64 a1_3, .string a1_4]] ?_; (with_reducible refine (spec_l3Where.calls k _ _ l0 a1_0 a1_1 a1_2 a1_3 a1_4 t195 t196 true _ ?side1 ?side2 A23.out).mono ?_); (case side1 => repeat (first | exact (Kd.C_below HR0.out (bel_)) | (with_reducible refine Kd.C_alloc ?_ _) | (with_reducible refine Kd.C_drewN ?_ _) | (with_reducible refine Kd.C_drew ?_))); (case side2 => exact HC0.out); rintro e w29 ⟨rfl, hb⟩; refine ⟨_, rfl, ?_⟩; replace HB := Aside0.mk (below_step (bel_) hb); replace BK186 := Aside0.mk (bb_ BK186.out hb); (try clear hb); have hcz30_0 := cz_ BK186.out 0 (.int .i64 a1_0); have hcz30_1 := cz_ BK186.out 1 (.int .i64 a1_1); have hcz30_2 := cz_ BK186.out 2 (.int .i64 a1_2); have hcz30_3 := cz_ BK186.out 3 (.int .i64 a1_3); have hcz30_4 := cz_ BK186.out 4 (.string a1_4); have hfz30_0 := blk_frozen BK186.out 0; have hfz30_1 := blk_frozen BK186.out 1; have hfz30_2 := blk_frozen BK186.out 2; have hfz30_3 := blk_frozen BK186.out 3; have hfz30_4 := blk_frozen BK186.out 4) | ((with_reducible refine gate_dst (N := 53) rfl ?_); refine Kd.R_lit k43 _ 43 ?hg (N := 53) ?hd (xs := ([(⟨a1_1, 0, a1_4⟩ : S43)] : List (S43))) (inner := [.int .i64 a1_1, .int .i64 0, .string a1_4]) (ok := fun _ => True) (okp := fun _ => True) ?hr ?hp (fun _ hk => hk) trivial (Below.refl _ _) (Nat.le_refl _) (by simp) ?_; (case hd => rfl); (case hg => rfl); (case hr => first | (go_simp; done) | (go_simp; rfl)); (case hp => exact (Reps.c3 (show Kd.M k43 _ _ _ (⟨a1_1, 0, a1_4⟩ : S43) [.int .i64 a1_1, .int .i64 0, .string a1_4] from (k43_mkM _ _ _ (⟨a1_1, 0, a1_4⟩ : S43) )) (Reps.none _ _))); intro v205 w31 ho32 hb hg_ hnew_; clear hg_ hnew_; (first | rw [← Ny204.out] at ho32 | (simp only [Int.reduceToNat] at ho32; rw [← Ny204.out] at ho32)); have HO206 := Aside0.mk (Kd.R_lower ho32 (below_size (bel_))); replace HB := Aside0.mk (below_step (bel_) hb); replace BK186 := Aside0.mk (bb_ BK186.out hb); clear hb ho32; obtain ⟨Ao33, co33, eo33⟩ := Kd.R_slice HO206.out; subst eo33) | ((with_reducible refine gate_callee (f := 62) rfl ?_); refine gl_ 56 Tryd.func62 #[.slice A0 l0.length c0, .slice Ao33 y204.length co33, .int .i64 t195, .int .i64 t196] ?_; (with_reducible refine (spec_l3Put.calls k _ _ l0 _ _ y204 t195 t196 t207 _ ?side1 ?side2 ?side3 ?side4 A26.out).mono ?_); (case side1 => exact cp_ HR0.out); (case side2 => exact HC0.out); (case side3 => exact cx_ (Kd.R_reads' HO206.out).2.2); (case side4 => exact (Kd.R_reads' HO206.out).2.1); rintro e w34 ⟨v208, rfl, ho0, hb⟩; refine ⟨_, rfl, ?_⟩; have HO209 := Aside0.mk (Kd.R_lower (Kd.R_new' ho0 (Kd.R_lt (rp_ HO206.out))) (below_size (bel_))); replace HO206 := Aside0.mk (Kd.R_elder' (rp_ HO206.out) (Kd.R_base ho0) hb); replace HB := Aside0.mk (below_step (bel_) hb); replace BK186 := Aside0.mk (bb_ BK186.out hb); (try clear hb ho0)))
    go_ret
    exact ⟨_, fi_, by (with_reducible repeat (first | apply Kd.R_alloc | apply Kd.R_drewN | apply Kd.R_drew)); exact Kd.R_mono HO209.out (fun _ hk => trivial), bel_⟩
   ·rw [if_neg c25] at H
    have c25b0 : (a1_0 == 1) = false := beq_eq_false_iff_ne.mpr c25
    have c25b1 : (a1_0 != 1) = true := bne_iff_ne.mpr c25
    replace H := Option.bind_eq_some_iff.mp H
    obtain ⟨t210, A350, H⟩ := H
    try dsimp only at H
    have A35 := Aside0.mk A350
    clear A350
    obtain ⟨y211, hy211⟩ : ∃ y_ : List (S43), y_ = (([] : List (S43))) := ⟨_, rfl⟩
    replace H : (if 0 ≤ t187 then (if t187 ≤ t210 then (if t210 ≤ (l0.length : Int) then ((some ((l0.take (t210 : Int).toNat).drop (t187 : Int).toNat : List (S43))).bind fun y214 => (if y211.length + y214.length < 4398046511104 then ((some (([] : List (S43)) : List (S43))).bind fun y221 => (if t187 ≤ (l0.length : Int) then ((some (l0.take (t187 : Int).toNat : List (S43))).bind fun y224 => (if y221.length + y224.length < 4398046511104 then ((some (y221 ++ y224 : List (S43))).bind fun y228 => (if 0 ≤ t210 then ((some (l0.drop (t210 : Int).toNat : List (S43))).bind fun y231 => (if y228.length + y231.length < 4398046511104 then ((spec_l3Put.f k (y228 ++ y231) (y211 ++ y214) t195 t196).bind fun t238 => (some t238)) else (none))) else (none))) else (none))) else (none))) else (none))) else (none)) else (none)) else (none)) = some r := by first | (rw [hy211]; with_reducible exact H) | (have H2_ := (Option.bind_some _ _).symm.trans H; rw [hy211]; with_reducible exact H2_) | (have H2_ := (Option.bind_some _ _).symm.trans H; with_reducible exact H2_) | with_reducible exact H | (rw [hy211]; exact H) | exact H
    have Ny211 := Aside0.mk hy211
    clear hy211
    by_cases c36 : 0 ≤ t187
    ·rw [if_pos c36] at H
     have c36b0 := eq_true c36
     have c36b1 : decide (0 ≤ t187) = true := decide_eq_true c36
     clear c36
     by_cases c37 : t187 ≤ t210
     ·rw [if_pos c37] at H
      have c37b0 := eq_true c37
      have c37b1 : decide (t187 ≤ t210) = true := decide_eq_true c37
      clear c37
      by_cases c38 : t210 ≤ (l0.length : Int)
      ·rw [if_pos c38] at H
       have c38b0 := eq_true c38
       have c38b1 : decide (t210 ≤ (l0.length : Int)) = true := decide_eq_true c38
       clear c38
       obtain ⟨y214, hy214⟩ : ∃ y_ : List (S43), y_ = ((l0.take (t210 : Int).toNat).drop (t187 : Int).toNat) := ⟨_, rfl⟩
       replace H : (if y211.length + y214.length < 4398046511104 then ((some (([] : List (S43)) : List (S43))).bind fun y221 => (if t187 ≤ (l0.length : Int) then ((some (l0.take (t187 : Int).toNat : List (S43))).bind fun y224 => (if y221.length + y224.length < 4398046511104 then ((some (y221 ++ y224 : List (S43))).bind fun y228 => (if 0 ≤ t210 then ((some (l0.drop (t210 : Int).toNat : List (S43))).bind fun y231 => (if y228.length + y231.length < 4398046511104 then ((spec_l3Put.f k (y228 ++ y231) (y211 ++ y214) t195 t196).bind fun t238 => (some t238)) else (none))) else (none))) else (none))) else (none))) else (none)) = some r := by first | (rw [hy214]; with_reducible exact H) | (have H2_ := (Option.bind_some _ _).symm.trans H; rw [hy214]; with_reducible exact H2_) | (have H2_ := (Option.bind_some _ _).symm.trans H; with_reducible exact H2_) | with_reducible exact H | (rw [hy214]; exact H) | exact H
       have Ny214 := Aside0.mk hy214
       clear hy214
       by_cases c39 : y211.length + y214.length < 4398046511104
       ·rw [if_pos c39] at H
        have LMc39 := Aside0.mk c39
        clear c39
        obtain ⟨y218, hy218⟩ : ∃ y_ : List (S43), y_ = (y211 ++ y214) := ⟨_, rfl⟩
        replace H : ((some (([] : List (S43)) : List (S43))).bind fun y221 => (if t187 ≤ (l0.length : Int) then ((some (l0.take (t187 : Int).toNat : List (S43))).bind fun y224 => (if y221.length + y224.length < 4398046511104 then ((some (y221 ++ y224 : List (S43))).bind fun y228 => (if 0 ≤ t210 then ((some (l0.drop (t210 : Int).toNat : List (S43))).bind fun y231 => (if y228.length + y231.length < 4398046511104 then ((spec_l3Put.f k (y228 ++ y231) y218 t195 t196).bind fun t238 => (some t238)) else (none))) else (none))) else (none))) else (none))) = some r := by first | (rw [hy218]; with_reducible exact H) | (have H2_ := (Option.bind_some _ _).symm.trans H; rw [hy218]; with_reducible exact H2_) | (have H2_ := (Option.bind_some _ _).symm.trans H; with_reducible exact H2_) | with_reducible exact H | (rw [hy218]; exact H) | exact H
        have Ny218 := Aside0.mk hy218
        clear hy218
        obtain ⟨y221, hy221⟩ : ∃ y_ : List (S43), y_ = (([] : List (S43))) := ⟨_, rfl⟩
        replace H : (if t187 ≤ (l0.length : Int) then ((some (l0.take (t187 : Int).toNat : List (S43))).bind fun y224 => (if y221.length + y224.length < 4398046511104 then ((some (y221 ++ y224 : List (S43))).bind fun y228 => (if 0 ≤ t210 then ((some (l0.drop (t210 : Int).toNat : List (S43))).bind fun y231 => (if y228.length + y231.length < 4398046511104 then ((spec_l3Put.f k (y228 ++ y231) y218 t195 t196).bind fun t238 => (some t238)) else (none))) else (none))) else (none))) else (none)) = some r := by first | (rw [hy221]; with_reducible exact H) | (have H2_ := (Option.bind_some _ _).symm.trans H; rw [hy221]; with_reducible exact H2_) | (have H2_ := (Option.bind_some _ _).symm.trans H; with_reducible exact H2_) | with_reducible exact H | (rw [hy221]; exact H) | exact H
        have Ny221 := Aside0.mk hy221
        clear hy221
        have c40b0 := eq_true (od_ : 0 ≤ t187)
        by_cases c41 : t187 ≤ (l0.length : Int)
        ·rw [if_pos c41] at H
         have c41b0 := eq_true c41
         have c41b1 : decide (t187 ≤ (l0.length : Int)) = true := decide_eq_true c41
         clear c41
         obtain ⟨y224, hy224⟩ : ∃ y_ : List (S43), y_ = (l0.take (t187 : Int).toNat) := ⟨_, rfl⟩
         replace H : (if y221.length + y224.length < 4398046511104 then ((some (y221 ++ y224 : List (S43))).bind fun y228 => (if 0 ≤ t210 then ((some (l0.drop (t210 : Int).toNat : List (S43))).bind fun y231 => (if y228.length + y231.length < 4398046511104 then ((spec_l3Put.f k (y228 ++ y231) y218 t195 t196).bind fun t238 => (some t238)) else (none))) else (none))) else (none)) = some r := by first | (rw [hy224]; with_reducible exact H) | (have H2_ := (Option.bind_some _ _).symm.trans H; rw [hy224]; with_reducible exact H2_) | (have H2_ := (Option.bind_some _ _).symm.trans H; with_reducible exact H2_) | with_reducible exact H | (rw [hy224]; exact H) | exact H
         have Ny224 := Aside0.mk hy224
         clear hy224
         by_cases c42 : y221.length + y224.length < 4398046511104
         ·rw [if_pos c42] at H
          have LMc42 := Aside0.mk c42
          clear c42
          obtain ⟨y228, hy228⟩ : ∃ y_ : List (S43), y_ = (y221 ++ y224) := ⟨_, rfl⟩
          replace H : (if 0 ≤ t210 then ((some (l0.drop (t210 : Int).toNat : List (S43))).bind fun y231 => (if y228.length + y231.length < 4398046511104 then ((spec_l3Put.f k (y228 ++ y231) y218 t195 t196).bind fun t238 => (some t238)) else (none))) else (none)) = some r := by first | (rw [hy228]; with_reducible exact H) | (have H2_ := (Option.bind_some _ _).symm.trans H; rw [hy228]; with_reducible exact H2_) | (have H2_ := (Option.bind_some _ _).symm.trans H; with_reducible exact H2_) | with_reducible exact H | (rw [hy228]; exact H) | exact H
          have Ny228 := Aside0.mk hy228
          clear hy228
          by_cases c43 : 0 ≤ t210
          ·rw [if_pos c43] at H
           have c43b0 := eq_true c43
           have c43b1 : decide (0 ≤ t210) = true := decide_eq_true c43
           clear c43
           have c44b0 := eq_true (od_ : t210 ≤ (l0.length : Int))
           obtain ⟨y231, hy231⟩ : ∃ y_ : List (S43), y_ = (l0.drop (t210 : Int).toNat) := ⟨_, rfl⟩
           replace H : (if y228.length + y231.length < 4398046511104 then ((spec_l3Put.f k (y228 ++ y231) y218 t195 t196).bind fun t238 => (some t238)) else (none)) = some r := by first | (rw [hy231]; with_reducible exact H) | (have H2_ := (Option.bind_some _ _).symm.trans H; rw [hy231]; with_reducible exact H2_) | (have H2_ := (Option.bind_some _ _).symm.trans H; with_reducible exact H2_) | with_reducible exact H | (rw [hy231]; exact H) | exact H
           have Ny231 := Aside0.mk hy231
           clear hy231
           by_cases c45 : y228.length + y231.length < 4398046511104
           ·rw [if_pos c45] at H
            have LMc45 := Aside0.mk c45
            clear c45
            obtain ⟨y235, hy235⟩ : ∃ y_ : List (S43), y_ = (y228 ++ y231) := ⟨_, rfl⟩
            replace H : ((spec_l3Put.f k y235 y218 t195 t196).bind fun t238 => (some t238)) = some r := by first | (rw [hy235]; with_reducible exact H) | (have H2_ := (Option.bind_some _ _).symm.trans H; rw [hy235]; with_reducible exact H2_) | (have H2_ := (Option.bind_some _ _).symm.trans H; with_reducible exact H2_) | with_reducible exact H | (rw [hy235]; exact H) | exact H
            have Ny235 := Aside0.mk hy235
            clear hy235
            replace H := Option.bind_eq_some_iff.mp H
            obtain ⟨t238, A460, H⟩ := H
            try dsimp only at H
            have A46 := Aside0.mk A460
            clear A460
            obtain rfl := Option.some.inj H
            go_enter Tryd.func38, Tryd.ntmps38
            try go_wp2_with (first | ((with_reducible refine gate_dst (N := 3) rfl ?_); refine bx_ 3 (#[.int .i64 a1_0, .int .i64 a1_1, .int .i64 a1_2, .int .i64 a1_3, .string a1_4]) 30 ?_; intro gb186 hg w47 hbox hb; have n0_ := Aside0.mk (below_step (bel_) hb); have n1_ := Aside0.mk (hbox); have n2_ := Aside0.mk ((by rw [hg]; exact (below_size (bel_)) : w.heap.size ≤ gb186)); have n3_ := Aside0.mk ((by rw [hg]; exact (below_size (bel_)) : w.heap.size ≤ gb186)); clear HB; have HB := n0_; have BK186 := n1_; have GW186 := n2_; have GE186 := n3_; clear n0_ n1_ n2_ n3_; clear hb hbox hg; have hcz48_0 := cz_ BK186.out 0 (.int .i64 a1_0); have hcz48_1 := cz_ BK186.out 1 (.int .i64 a1_1); have hcz48_2 := cz_ BK186.out 2 (.int .i64 a1_2); have hcz48_3 := cz_ BK186.out 3 (.int .i64 a1_3); have hcz48_4 := cz_ BK186.out 4 (.string a1_4); have hfz48_0 := blk_frozen BK186.out 0; have hfz48_1 := blk_frozen BK186.out 1; have hfz48_2 := blk_frozen BK186.out 2; have hfz48_3 := blk_frozen BK186.out 3; have hfz48_4 := blk_frozen BK186.out 4) | ((with_reducible refine gate_callee (f := 60) rfl ?_); refine gl_ 16 Tryd.func60 #[.slice A0 l0.length c0, .int .i64 a1_1] ?_; (with_reducible refine (spec_l2At.calls k _ _ l0 a1_1 t187 _ ?side1 ?side2 A3.out).mono ?_); (case side1 => exact cp_ HR0.out); (case side2 => exact HC0.out); rintro e w' ⟨rfl, ⟨nd, rfl⟩⟩; refine ⟨_, rfl, ?_⟩) | ((with_reducible refine gate_callee (f := 61) rfl ?_); refine gl_ 35 Tryd.func61 #[.slice A0 l0.length c0, .agg #[.int .i64 a1_0, .int .i64 a1_1, .int .i64 a1_2, .int .i64 a1_3, .string a1_4]] ?_; (with_reducible refine (spec_l3Where.calls k _ _ l0 a1_0 a1_1 a1_2 a1_3 a1_4 t195 t196 true _ ?side1 ?side2 A23.out).mono ?_); (case side1 => repeat (first | exact (Kd.C_below HR0.out (bel_)) | (with_reducible refine Kd.C_alloc ?_ _) | (with_reducible refine Kd.C_drewN ?_ _) | (with_reducible refine Kd.C_drew ?_))); (case side2 => exact HC0.out); rintro e w49 ⟨rfl, hb⟩; refine ⟨_, rfl, ?_⟩; replace HB := Aside0.mk (below_step (bel_) hb); replace BK186 := Aside0.mk (bb_ BK186.out hb); (try clear hb); have hcz50_0 := cz_ BK186.out 0 (.int .i64 a1_0); have hcz50_1 := cz_ BK186.out 1 (.int .i64 a1_1); have hcz50_2 := cz_ BK186.out 2 (.int .i64 a1_2); have hcz50_3 := cz_ BK186.out 3 (.int .i64 a1_3); have hcz50_4 := cz_ BK186.out 4 (.string a1_4); have hfz50_0 := blk_frozen BK186.out 0; have hfz50_1 := blk_frozen BK186.out 1; have hfz50_2 := blk_frozen BK186.out 2; have hfz50_3 := blk_frozen BK186.out 3; have hfz50_4 := blk_frozen BK186.out 4) | ((with_reducible refine gate_callee (f := 63) rfl ?_); refine gl_ 59 Tryd.func63 #[.slice A0 l0.length c0, .int .i64 t187] ?_; (with_reducible refine (spec_l2End.calls k _ _ l0 t187 t210 _ ?side1 ?side2 A35.out).mono ?_); (case side1 => exact cp_ HR0.out); (case side2 => exact HC0.out); rintro e w' ⟨rfl, ⟨nd, rfl⟩⟩; refine ⟨_, rfl, ?_⟩) | ((with_reducible refine gate_dst (N := 60) rfl ?_); refine Kd.R_lit k43 _ 43 ?hg (N := 60) ?hd (xs := ([] : List (S43))) (inner := []) (ok := fun _ => True) (okp := fun _ => True) ?hr ?hp (fun _ hk => hk) trivial (Below.refl _ _) (Nat.le_refl _) (by simp) ?_; (case hd => rfl); (case hg => rfl); (case hr => first | (go_simp; done) | (go_simp; rfl)); (case hp => exact (Reps.none _ _)); intro v212 w51 ho52 hb hg_ hnew_; clear hg_ hnew_; (first | rw [← Ny211.out] at ho52 | (simp only [Int.reduceToNat] at ho52; rw [← Ny211.out] at ho52)); have HO213 := Aside0.mk (Kd.R_lower ho52 (below_size (bel_))); replace HB := Aside0.mk (below_step (bel_) hb); replace BK186 := Aside0.mk (bb_ BK186.out hb); clear hb ho52; have q53 : (t210 : Int) ≤ ((l0.length : Int) : Int) := od_; obtain ⟨i053, hi053, _, hsz53, _⟩ := info_parts info43; have hroom53 : l0.length ≤ c0 := HC0.out; have hC53 : Kd.C k43 _ A0 l0.length l0 := HR0.out; have ql53 : (t187 : Int) ≤ (t210 : Int) := od_; have q053 : (0 : Int) ≤ (t187 : Int) := od_; have hcut53 := cut_mid (P := Tryd.prog) 27 43 .i64 .i64 Tryd.underlying27 hi053 3 hsz53 A0 l0.length c0 t187 t210 q053 ql53 q53 hroom53; have hr53 := Kd.C_mid (lo := (t187 : Int).toNat) (hi := (t210 : Int).toNat) (c := c0) hC53 (by omega) (by omega) hroom53; obtain ⟨A53, hA53⟩ : ∃ A1, A1 = (if c0 = (t187 : Int).toNat then A0 else (A0 : Option Addr).map (·.add ((t187 : Int).toNat * 3))) := ⟨_, rfl⟩; obtain ⟨c53, hc53⟩ : ∃ c1, c1 = c0 - (t187 : Int).toNat := ⟨_, rfl⟩; have hy53 : y214.length = (t210 : Int).toNat - (t187 : Int).toNat := (by rw [Ny214.out, List.length_drop, List.length_take] <;> omega); rw [show ((l0).take (t210 : Int).toNat).drop (t187 : Int).toNat = y214 from Ny214.out.symm] at hr53; replace hr53 : Kd.C k43 _ A53 y214.length y214 := (by rw [hA53]; exact hr53); rw [← hy53, ← hA53, ← hc53] at hcut53; have HR217 := Aside0.mk hr53; have HC217 := Aside0.mk (show y214.length ≤ c53 from by rw [hy53, hc53]; exact Nat.sub_le_sub_right (Nat.le_trans (by omega) hroom53) _); clear hr53 hC53 hroom53 hi053 hsz53 hc53; have KY53 := Aside0.mk hy53; have KA53 := Aside0.mk hA53; clear hy53 hA53; replace q53 := eq_true q53) | ((with_reducible refine gate_builtin (b := .append) (xs := #[.tmp 60, .tmp 64]) rfl ?_); at_builtin; refine Kd.R_append_rows k43 (w0 := w) w.heap.size rfl (.tmp 60) (.tmp 64) 27 43 (.agg #[(.int .i64 0), (.int .i64 0), (.string ⟨#[]⟩)]) 32 rfl Tryd.underlying27 info43 rfl (by decide) (by omega) v212 y211 y214 _ _ _ (fun _ => True) (fun _ => False) rfl rfl ?aO ?aR (fun _ _ h => h) (fun _ h => h.elim) ?aF ?aB ?aS ?aL ?_; (case aR => exact cx_ (Kd.C_below HR217.out HB.out)); (case aB => exact (bel_)); (case aF => exact (fun _ _ => trivial)); (case aO => exact (rp_ HO213.out)); (case aS => exact (below_size (bel_))); (case aL => have := LMc39.out; omega); intro v219 w54 ho hb hg hat; rw [← Ny218.out] at ho; replace BK186 := Aside0.mk (blk_grown (g := gb186) (o := .cells #[.int .i64 a1_0, .int .i64 a1_1, .int .i64 a1_2, .int .i64 a1_3, .string a1_4] 30 (0, 0)) (bp_ BK186.out) hg (Kd.R_ne HO213.out BK186.out (by decide))); replace HB := Aside0.mk (hb); have HO220 := Aside0.mk (ho); clear HO213; clear ho hb hg hat))
            have n0_ := Aside0.mk (Kd.R_drew HO220.out)
            have n1_ := Aside0.mk (blk_drew BK186.out)
            have n2_ := Aside0.mk (below_drew1 HB.out)
            clear HO220
            clear BK186
            clear HB
            have HO220 := n0_
            have BK186 := n1_
            have HB := n2_
            clear n0_ n1_ n2_
            have q56 : (t187 : Int) ≤ ((l0.length : Int) : Int) := od_
            obtain ⟨i056, hi056, _, hsz56, _⟩ := info_parts info43
            have hroom56 : l0.length ≤ c0 := HC0.out
            have hC56 : Kd.C k43 _ A0 l0.length l0 := HR0.out
            have hcut56 := cut_to (P := Tryd.prog) 27 43 .i64 Tryd.underlying27 hi056 A0 l0.length c0 t187 (od_) q56 hroom56
            have hr56 := Kd.C_take (m := (t187 : Int).toNat) hC56 (by omega)
            have hy56 : y224.length = (t187 : Int).toNat := (by rw [Ny224.out, List.length_take]; omega)
            rw [← Ny224.out] at hr56
            rw [← hy56] at hcut56
            have HR227 := Aside0.mk hr56
            have HC227 := Aside0.mk (show y224.length ≤ c0 from by omega)
            clear hr56 hC56 hroom56 hi056 hsz56
            have KY56 := Aside0.mk hy56
            clear hy56
            replace q56 := eq_true q56
            have q57 : (t210 : Int) ≤ ((l0.length : Int) : Int) := od_
            obtain ⟨i057, hi057, _, hsz57, _⟩ := info_parts info43
            have hroom57 : l0.length ≤ c0 := HC0.out
            have hC57 : Kd.C k43 _ A0 l0.length l0 := HR0.out
            have q057 : (0 : Int) ≤ (t210 : Int) := od_
            have hcut57 := cut_from (P := Tryd.prog) 27 43 .i64 Tryd.underlying27 hi057 3 hsz57 A0 l0.length c0 t210 q057 q57
            have hr57 := Kd.C_drop (m := (t210 : Int).toNat) (c := c0) hC57 (by omega) hroom57
            obtain ⟨A57, hA57⟩ : ∃ A1, A1 = (if c0 = (t210 : Int).toNat then A0 else (A0 : Option Addr).map (·.add ((t210 : Int).toNat * 3))) := ⟨_, rfl⟩
            obtain ⟨c57, hc57⟩ : ∃ c1, c1 = c0 - (t210 : Int).toNat := ⟨_, rfl⟩
            have hy57 : y231.length = l0.length - (t210 : Int).toNat := (by rw [Ny231.out, List.length_drop] <;> omega)
            rw [show (l0).drop (t210 : Int).toNat = y231 from Ny231.out.symm] at hr57
            replace hr57 : Kd.C k43 _ A57 y231.length y231 := (by rw [hA57]; exact hr57)
            rw [← hy57, ← hA57, ← hc57] at hcut57
            have HR234 := Aside0.mk hr57
            have HC234 := Aside0.mk (show y231.length ≤ c57 from by rw [hy57, hc57]; exact Nat.sub_le_sub_right hroom57 _)
            clear hr57 hC57 hroom57 hi057 hsz57 hc57
            have KY57 := Aside0.mk hy57
            have KA57 := Aside0.mk hA57
            clear hy57 hA57
            replace q57 := eq_true q57
            refine start_ (n := 10) (S := fun w' => True) (ds := []) #[false, false, false, false, false, false, false, false, false, false] (by kernel_rfl) rfl rfl trivial (fun hHeld => ?_); refine with_tabW spec_l3Do.tab14 spec_l3Do.bits14 (fun HT_ HW_ => ?_)
            generalize w54.drew = w55 at HO220 BK186 HB HR227 HR234 hHeld ⊢
            refine pa_ 1 67 ?_
            refine pa_ 2 68 ?_
            refine pa_ 3 69 ?_
            refine pa_ 5 71 ?_
            refine pa_ 6 72 ?_
            refine pa_ 7 73 ?_
            refine on_ 0 66 (fun K hK => ?_)
            refine Kd.R_lit_step k43 _ 43 ?hg (N := 66) ?hd (xs := ([] : List (S43))) (inner := []) (ok := fun _ => True) (okp := fun _ => True) ?hr ?hp (fun _ hk => hk) trivial (Below.refl _ _) (Nat.le_refl _) (by simp) ?_; (case hd => rfl); (case hg => rfl); (case hr => first | (go_simp; done) | (go_simp; rfl)); (case hp => exact (Reps.none _ _))
            intro v222 w58 ho59 hb hg_ hnew_
            clear hg_ hnew_
            (first | rw [← Ny221.out] at ho59 | (simp only [Int.reduceToNat] at ho59; rw [← Ny221.out] at ho59))
            have n0_ := Aside0.mk (Kd.R_elder' (rp_ HO220.out) (Kd.R_base ho59) hb)
            have n1_ := Aside0.mk (Kd.R_lower (Kd.R_new' ho59 (Kd.R_lt (rp_ HO220.out))) (below_size (bel_)))
            have n2_ := Aside0.mk (bb_ BK186.out hb)
            have n3_ := Aside0.mk (below_step (bel_) hb)
            clear HO220
            clear BK186
            clear HB
            have HO220 := n0_
            have HO223 := n1_
            have BK186 := n2_
            have HB := n3_
            clear n0_ n1_ n2_ n3_
            clear hb ho59
            refine hK.out _ _ trivial (fun hHeld => ?_)
            clear hK K
            refine no_ 66 ?_
            refine on_ 4 70 (fun K hK => ?_)
            refine Kd.R_append_rows_step k43 (w0 := w) w.heap.size (by rfl) (.tmp 66) (.tmp 69) 27 43 (.agg #[(.int .i64 0), (.int .i64 0), (.string ⟨#[]⟩)]) 32 rfl Tryd.underlying27 info43 rfl (by decide) (by omega) v222 y221 y224 _ _ _ (fun k_ => some k_ ≠ (v219 : Value).ownBlock) (fun _ => False) rfl rfl ?aO ?aR (fun _ _ h => h) (fun _ h => h.elim) ?aF ?aB ?aS ?aL ?_
            (case aR => exact cx_ (Kd.C_below HR227.out HB.out))
            (case aB => exact (bel_))
            (case aF => exact (fun k_ hk => Kd.fresh' (Kd.R_lt (rp_ HO220.out)) k_ hk))
            (case aO => exact (by (with_reducible repeat (first | apply Kd.R_alloc | apply Kd.R_drewN | apply Kd.R_drew)); exact Kd.R_mono HO223.out (fun _ hk => hk.2)))
            (case aS => exact (below_size (bel_)))
            (case aL => have := LMc42.out; omega)
            intro v229 w60 ho hb hg hat
            rw [← Ny228.out] at ho
            have n0_ := Aside0.mk (blk_grown (g := gb186) (o := .cells #[.int .i64 a1_0, .int .i64 a1_1, .int .i64 a1_2, .int .i64 a1_3, .string a1_4] 30 (0, 0)) (bp_ BK186.out) hg (Kd.R_ne HO223.out BK186.out (by decide)))
            have n1_ := Aside0.mk (Kd.R_after (ok := (fun _ => True)) (rp_ HO220.out) hg hat)
            have n2_ := Aside0.mk (hb)
            have n3_ := Aside0.mk (ho)
            clear BK186
            clear HO220
            clear HB
            clear HO223
            have BK186 := n0_
            have HO220 := n1_
            have HB := n2_
            have HO230 := n3_
            clear n0_ n1_ n2_ n3_
            clear ho hb hg hat
            refine hK.out _ _ trivial (fun hHeld => ?_)
            clear hK K
            refine no_ 70 ?_
            refine on_ 8 74 (fun K hK => ?_)
            refine Kd.R_append_rows_step k43 (w0 := w) w.heap.size (by rfl) (.tmp 70) (.tmp 73) 27 43 (.agg #[(.int .i64 0), (.int .i64 0), (.string ⟨#[]⟩)]) 32 rfl Tryd.underlying27 info43 rfl (by decide) (by omega) v229 y228 y231 _ _ _ (fun k_ => some k_ ≠ (v219 : Value).ownBlock) (fun _ => False) rfl rfl ?aO ?aR (fun _ _ h => h) (fun _ h => h.elim) ?aF ?aB ?aS ?aL ?_
            (case aR => exact cx_ (Kd.C_below HR234.out HB.out))
            (case aB => exact (bel_))
            (case aF => exact (fun k_ hk => Kd.fresh' (Kd.R_lt (rp_ HO220.out)) k_ hk))
            (case aO => exact (rp_ HO230.out))
            (case aS => exact (below_size (bel_)))
            (case aL => have := LMc45.out; omega)
            intro v236 w61 ho hb hg hat
            rw [← Ny235.out] at ho
            have n0_ := Aside0.mk (blk_grown (g := gb186) (o := .cells #[.int .i64 a1_0, .int .i64 a1_1, .int .i64 a1_2, .int .i64 a1_3, .string a1_4] 30 (0, 0)) (bp_ BK186.out) hg (Kd.R_ne HO230.out BK186.out (by decide)))
            have n1_ := Aside0.mk (Kd.R_after (ok := (fun _ => True)) (rp_ HO220.out) hg hat)
            have n2_ := Aside0.mk (hb)
            have n3_ := Aside0.mk (ho)
            clear BK186
            clear HO220
            clear HB
            clear HO230
            have BK186 := n0_
            have HO220 := n1_
            have HB := n2_
            have HO237 := n3_
            clear n0_ n1_ n2_ n3_
            clear ho hb hg hat
            refine hK.out _ _ trivial (fun hHeld => ?_)
            clear hK K
            refine no_ 74 ?_
            refine pa_ 9 12 ?_
            refine done_ (done_of HT_.out (by kernel_rfl)) ?_
            obtain ⟨Ao62, co62, eo62⟩ := Kd.R_slice HO237.out
            subst eo62
            obtain ⟨Ao63, co63, eo63⟩ := Kd.R_slice HO220.out
            subst eo63
            try go_wp2_with (first | ((with_reducible refine gate_callee (f := 62) rfl ?_); refine gl_ 79 Tryd.func62 #[.slice Ao62 y235.length co62, .slice Ao63 y218.length co63, .int .i64 t195, .int .i64 t196] ?_; (with_reducible refine (spec_l3Put.calls k _ _ y235 _ _ y218 t195 t196 t238 _ ?side1 ?side2 ?side3 ?side4 A46.out).mono ?_); (case side1 => exact cx_ (Kd.R_reads' HO237.out).2.2); (case side2 => exact (Kd.R_reads' HO237.out).2.1); (case side3 => exact cx_ (Kd.R_reads' HO220.out).2.2); (case side4 => exact (Kd.R_reads' HO220.out).2.1); rintro e w64 ⟨v239, rfl, ho0, hb⟩; refine ⟨_, rfl, ?_⟩; have HO240 := Aside0.mk (Kd.R_lower (Kd.R_new' (Kd.R_new' ho0 (Kd.R_lt (rp_ HO220.out))) (Kd.R_lt (rp_ HO237.out))) (below_size (bel_))); replace HO220 := Aside0.mk (Kd.R_elder' (rp_ HO220.out) (Kd.R_base ho0) hb); replace HO237 := Aside0.mk (Kd.R_elder' (rp_ HO237.out) (Kd.R_base ho0) hb); replace HB := Aside0.mk (below_step (bel_) hb); replace BK186 := Aside0.mk (bb_ BK186.out hb); (try clear hb ho0)))
            go_ret
            exact ⟨_, fi_, by (with_reducible repeat (first | apply Kd.R_alloc | apply Kd.R_drewN | apply Kd.R_drew)); exact Kd.R_mono HO240.out (fun _ hk => trivial), bel_⟩
           ·rw [if_neg c45] at H
            exact absurd H (by simp)
          ·rw [if_neg c43] at H
           exact absurd H (by simp)
         ·rw [if_neg c42] at H
          exact absurd H (by simp)
        ·rw [if_neg c41] at H
         exact absurd H (by simp)
       ·rw [if_neg c39] at H
        exact absurd H (by simp)
      ·rw [if_neg c38] at H
       exact absurd H (by simp)
     ·rw [if_neg c37] at H
      exact absurd H (by simp)
    ·rw [if_neg c36] at H
     exact absurd H (by simp)
  ·replace c24 := Bool.eq_false_iff.mpr c24
   subst c24
   have H1 : ((some (([] : List (S43)) : List (S43))).bind fun y198 => (if y198.length + l0.length < 4398046511104 then (some (y198 ++ l0)) else (none))) = some r := by rw [if_neg (show ¬ (false = true) by decide)] at H; exact H
   clear H
   have H := H1
   clear H1
   obtain ⟨y198, hy198⟩ : ∃ y_ : List (S43), y_ = (([] : List (S43))) := ⟨_, rfl⟩
   replace H : (if y198.length + l0.length < 4398046511104 then (some (y198 ++ l0)) else (none)) = some r := by first | (rw [hy198]; with_reducible exact H) | (have H2_ := (Option.bind_some _ _).symm.trans H; rw [hy198]; with_reducible exact H2_) | (have H2_ := (Option.bind_some _ _).symm.trans H; with_reducible exact H2_) | with_reducible exact H | (rw [hy198]; exact H) | exact H
   have Ny198 := Aside0.mk hy198
   clear hy198
   by_cases c65 : y198.length + l0.length < 4398046511104
   ·rw [if_pos c65] at H
    have LMc65 := Aside0.mk c65
    clear c65
    obtain ⟨y201, hy201⟩ : ∃ y_ : List (S43), y_ = (y198 ++ l0) := ⟨_, rfl⟩
    replace H : (some y201) = some r := by first | (rw [hy201]; with_reducible exact H) | (have H2_ := (Option.bind_some _ _).symm.trans H; rw [hy201]; with_reducible exact H2_) | (have H2_ := (Option.bind_some _ _).symm.trans H; with_reducible exact H2_) | with_reducible exact H | (rw [hy201]; exact H) | exact H
    have Ny201 := Aside0.mk hy201
    clear hy201
    obtain rfl := Option.some.inj H
    go_enter Tryd.func38, Tryd.ntmps38
    go_wp2_with (first | ((with_reducible refine gate_dst (N := 3) rfl ?_); refine bx_ 3 (#[.int .i64 a1_0, .int .i64 a1_1, .int .i64 a1_2, .int .i64 a1_3, .string a1_4]) 30 ?_; intro gb186 hg w66 hbox hb; have n0_ := Aside0.mk (below_step (bel_) hb); have n1_ := Aside0.mk (hbox); have n2_ := Aside0.mk ((by rw [hg]; exact (below_size (bel_)) : w.heap.size ≤ gb186)); have n3_ := Aside0.mk ((by rw [hg]; exact (below_size (bel_)) : w.heap.size ≤ gb186)); clear HB; have HB := n0_; have BK186 := n1_; have GW186 := n2_; have GE186 := n3_; clear n0_ n1_ n2_ n3_; clear hb hbox hg; have hcz67_0 := cz_ BK186.out 0 (.int .i64 a1_0); have hcz67_1 := cz_ BK186.out 1 (.int .i64 a1_1); have hcz67_2 := cz_ BK186.out 2 (.int .i64 a1_2); have hcz67_3 := cz_ BK186.out 3 (.int .i64 a1_3); have hcz67_4 := cz_ BK186.out 4 (.string a1_4); have hfz67_0 := blk_frozen BK186.out 0; have hfz67_1 := blk_frozen BK186.out 1; have hfz67_2 := blk_frozen BK186.out 2; have hfz67_3 := blk_frozen BK186.out 3; have hfz67_4 := blk_frozen BK186.out 4) | ((with_reducible refine gate_callee (f := 60) rfl ?_); refine gl_ 16 Tryd.func60 #[.slice A0 l0.length c0, .int .i64 a1_1] ?_; (with_reducible refine (spec_l2At.calls k _ _ l0 a1_1 t187 _ ?side1 ?side2 A3.out).mono ?_); (case side1 => exact cp_ HR0.out); (case side2 => exact HC0.out); rintro e w' ⟨rfl, ⟨nd, rfl⟩⟩; refine ⟨_, rfl, ?_⟩) | ((with_reducible refine gate_callee (f := 61) rfl ?_); refine gl_ 35 Tryd.func61 #[.slice A0 l0.length c0, .agg #[.int .i64 a1_0, .int .i64 a1_1, .int .i64 a1_2, .int .i64 a1_3, .string a1_4]] ?_; (with_reducible refine (spec_l3Where.calls k _ _ l0 a1_0 a1_1 a1_2 a1_3 a1_4 t195 t196 false _ ?side1 ?side2 A23.out).mono ?_); (case side1 => repeat (first | exact (Kd.C_below HR0.out (bel_)) | (with_reducible refine Kd.C_alloc ?_ _) | (with_reducible refine Kd.C_drewN ?_ _) | (with_reducible refine Kd.C_drew ?_))); (case side2 => exact HC0.out); rintro e w68 ⟨rfl, hb⟩; refine ⟨_, rfl, ?_⟩; replace HB := Aside0.mk (below_step (bel_) hb); replace BK186 := Aside0.mk (bb_ BK186.out hb); (try clear hb)) | ((with_reducible refine gate_dst (N := 41) rfl ?_); refine Kd.R_lit k43 _ 43 ?hg (N := 41) ?hd (xs := ([] : List (S43))) (inner := []) (ok := fun _ => True) (okp := fun _ => True) ?hr ?hp (fun _ hk => hk) trivial (Below.refl _ _) (Nat.le_refl _) (by simp) ?_; (case hd => rfl); (case hg => rfl); (case hr => first | (go_simp; done) | (go_simp; rfl)); (case hp => exact (Reps.none _ _)); intro v199 w69 ho70 hb hg_ hnew_; clear hg_ hnew_; (first | rw [← Ny198.out] at ho70 | (simp only [Int.reduceToNat] at ho70; rw [← Ny198.out] at ho70)); have HO200 := Aside0.mk (Kd.R_lower ho70 (below_size (bel_))); replace HB := Aside0.mk (below_step (bel_) hb); replace BK186 := Aside0.mk (bb_ BK186.out hb); clear hb ho70) | ((with_reducible refine gate_builtin (b := .append) (xs := #[.tmp 41, .tmp 42]) rfl ?_); at_builtin; refine Kd.R_append_rows k43 (w0 := w) w.heap.size rfl (.tmp 41) (.tmp 42) 27 43 (.agg #[(.int .i64 0), (.int .i64 0), (.string ⟨#[]⟩)]) 32 rfl Tryd.underlying27 info43 rfl (by decide) (by omega) v199 y198 l0 _ _ _ (fun _ => True) (fun _ => False) rfl rfl ?aO ?aR (fun _ _ h => h) (fun _ h => h.elim) ?aF ?aB ?aS ?aL ?_; (case aR => exact cx_ (Kd.C_below HR0.out HB.out)); (case aB => exact (bel_)); (case aF => exact (fun _ _ => trivial)); (case aO => exact (rp_ HO200.out)); (case aS => exact (below_size (bel_))); (case aL => have := LMc65.out; omega); intro v202 w71 ho hb hg hat; rw [← Ny201.out] at ho; replace BK186 := Aside0.mk (blk_grown (g := gb186) (o := .cells #[.int .i64 a1_0, .int .i64 a1_1, .int .i64 a1_2, .int .i64 a1_3, .string a1_4] 30 (0, 0)) (bp_ BK186.out) hg (Kd.R_ne HO200.out BK186.out (by decide))); replace HB := Aside0.mk (hb); have HO203 := Aside0.mk (ho); clear HO200; clear ho hb hg hat))
    go_ret
    exact ⟨_, fi_, by (with_reducible repeat (first | apply Kd.R_alloc | apply Kd.R_drewN | apply Kd.R_drew)); exact HO203.out, bel_⟩
   ·rw [if_neg c65] at H
    exact absurd H (by simp)

def spec_OpDo.f (k : Nat) (l0 : List (S43)) (a1_0 : Int) (a1_1 : Int) (a1_2 : Int) (a1_3 : Int) (a1_4 : ByteArray) : Option ((List (S43))) := (spec_TreeOk.f k l0).bind fun t242 => (if t242 = true then ((spec_OpOk.f k a1_0 a1_1 a1_2 a1_3 a1_4).bind fun t243 => (if t243 = true then ((spec_l3Do.f k l0 a1_0 a1_1 a1_2 a1_3 a1_4).bind fun t244 => (some t244)) else (some (([] : List (S43)))))) else (some (([] : List (S43)))))
theorem spec_OpDo.mono : ∀ a0 a1 a2 a3 a4 a5 k, LeO (spec_OpDo.f k a0 a1 a2 a3 a4 a5) (spec_OpDo.f (k + 1) a0 a1 a2 a3 a4 a5) := by
 intro a0 a1 a2 a3 a4 a5 k
 unfold spec_OpDo.f
 repeat' first
   | (with_reducible exact spec_OpOk.mono _ _ _ _ _ _)
   | (with_reducible exact spec_TreeOk.mono _ _)
   | (with_reducible exact spec_l3Do.mono _ _ _ _ _ _ _)
   | (with_reducible exact LeO.refl _)
   | (with_reducible exact LeO.none _)
   | (with_reducible refine LeO.ite ?_ ?_)
   | (with_reducible refine LeO.bind ?_ (fun _ => ?_))
   | exact spec_OpOk.mono _ _ _ _ _ _
   | exact spec_TreeOk.mono _ _
   | exact spec_l3Do.mono _ _ _ _ _ _ _
   | exact LeO.none _
   | refine LeO.ite ?_ ?_
   | refine LeO.bind ?_ (fun _ => ?_)
set_option maxHeartbeats 8000000 in
set_option maxRecDepth 100000 in
theorem spec_OpDo.calls (k : Nat) (A0 : Option Addr) (c0 : Nat) (l0 : List (S43)) (a1_0 : Int) (a1_1 : Int) (a1_2 : Int) (a1_3 : Int) (a1_4 : ByteArray) (r : List (S43)) (w : World) (hr0 : Kd.C k43 w A0 l0.length l0) (hc0 : l0.length ≤ c0) (h : spec_OpDo.f k l0 a1_0 a1_1 a1_2 a1_3 a1_4 = some r) :
  Calls Tryd.prog 17 #[.slice A0 l0.length c0, .agg #[.int .i64 a1_0, .int .i64 a1_1, .int .i64 a1_2, .int .i64 a1_3, .string a1_4]] w fun e w' => ∃ v0_ : Value, e = .returned (v0_) ∧ Kd.R k43 43 w' w.heap.size (fun _ => True) v0_ r ∧ Below w.heap.size w w' := by
 have hu30 := Tryd.underlying30
 have HR0 := Aside0.mk hr0
 have HC0 := Aside0.mk hc0
 clear hr0 hc0
 have HB := Aside0.mk (Below.refl w.heap.size w)
 unfold spec_OpDo.f at h
 have H := h
 clear h
 replace H := Option.bind_eq_some_iff.mp H
 obtain ⟨t242, A30, H⟩ := H
 try dsimp only at H
 have A3 := Aside0.mk A30
 clear A30
 by_cases c4 : t242 = true
 ·subst c4
  have H1 : ((spec_OpOk.f k a1_0 a1_1 a1_2 a1_3 a1_4).bind fun t243 => (if t243 = true then ((spec_l3Do.f k l0 a1_0 a1_1 a1_2 a1_3 a1_4).bind fun t244 => (some t244)) else (some (([] : List (S43)))))) = some r := by rw [if_pos rfl] at H; exact H
  clear H
  have H := H1
  clear H1
  replace H := Option.bind_eq_some_iff.mp H
  obtain ⟨t243, A50, H⟩ := H
  try dsimp only at H
  have A5 := Aside0.mk A50
  clear A50
  by_cases c6 : t243 = true
  ·subst c6
   have H1 : ((spec_l3Do.f k l0 a1_0 a1_1 a1_2 a1_3 a1_4).bind fun t244 => (some t244)) = some r := by rw [if_pos rfl] at H; exact H
   clear H
   have H := H1
   clear H1
   replace H := Option.bind_eq_some_iff.mp H
   obtain ⟨t244, A70, H⟩ := H
   try dsimp only at H
   have A7 := Aside0.mk A70
   clear A70
   obtain rfl := Option.some.inj H
   go_enter Tryd.func17, Tryd.ntmps17
   go_wp2_with (first | ((with_reducible refine gate_dst (N := 3) rfl ?_); refine bx_ 3 (#[.int .i64 a1_0, .int .i64 a1_1, .int .i64 a1_2, .int .i64 a1_3, .string a1_4]) 30 ?_; intro gb241 hg w8 hbox hb; have n0_ := Aside0.mk (below_step (bel_) hb); have n1_ := Aside0.mk (hbox); have n2_ := Aside0.mk ((by rw [hg]; exact (below_size (bel_)) : w.heap.size ≤ gb241)); have n3_ := Aside0.mk ((by rw [hg]; exact (below_size (bel_)) : w.heap.size ≤ gb241)); clear HB; have HB := n0_; have BK241 := n1_; have GW241 := n2_; have GE241 := n3_; clear n0_ n1_ n2_ n3_; clear hb hbox hg) | ((with_reducible refine gate_callee (f := 26) rfl ?_); refine gl_ 6 Tryd.func26 #[.slice A0 l0.length c0] ?_; (with_reducible refine (spec_TreeOk.calls k _ _ l0 true _ ?side1 ?side2 A3.out).mono ?_); (case side1 => exact cp_ HR0.out); (case side2 => exact HC0.out); rintro e w9 ⟨rfl, hb⟩; refine ⟨_, rfl, ?_⟩; replace HB := Aside0.mk (below_step (bel_) hb); replace BK241 := Aside0.mk (bb_ BK241.out hb); (try clear hb); have hcz10_0 := cz_ BK241.out 0 (.int .i64 a1_0); have hcz10_1 := cz_ BK241.out 1 (.int .i64 a1_1); have hcz10_2 := cz_ BK241.out 2 (.int .i64 a1_2); have hcz10_3 := cz_ BK241.out 3 (.int .i64 a1_3); have hcz10_4 := cz_ BK241.out 4 (.string a1_4); have hfz10_0 := blk_frozen BK241.out 0; have hfz10_1 := blk_frozen BK241.out 1; have hfz10_2 := blk_frozen BK241.out 2; have hfz10_3 := blk_frozen BK241.out 3; have hfz10_4 := blk_frozen BK241.out 4) | (go_at_call 27; (with_reducible refine (spec_OpOk.calls k a1_0 a1_1 a1_2 a1_3 a1_4 true _ A5.out).mono ?_); rintro e w11 ⟨rfl, hb⟩; replace HB := Aside0.mk (below_step (bel_) hb); replace BK241 := Aside0.mk (bb_ BK241.out hb); (try clear hb); have hcz12_0 := cz_ BK241.out 0 (.int .i64 a1_0); have hcz12_1 := cz_ BK241.out 1 (.int .i64 a1_1); have hcz12_2 := cz_ BK241.out 2 (.int .i64 a1_2); have hcz12_3 := cz_ BK241.out 3 (.int .i64 a1_3); have hcz12_4 := cz_ BK241.out 4 (.string a1_4); have hfz12_0 := blk_frozen BK241.out 0; have hfz12_1 := blk_frozen BK241.out 1; have hfz12_2 := blk_frozen BK241.out 2; have hfz12_3 := blk_frozen BK241.out 3; have hfz12_4 := blk_frozen BK241.out 4) | ((with_reducible refine gate_callee (f := 38) rfl ?_); refine gl_ 16 Tryd.func38 #[.slice A0 l0.length c0, .agg #[.int .i64 a1_0, .int .i64 a1_1, .int .i64 a1_2, .int .i64 a1_3, .string a1_4]] ?_; (with_reducible refine (spec_l3Do.calls k _ _ l0 a1_0 a1_1 a1_2 a1_3 a1_4 t244 _ ?side1 ?side2 A7.out).mono ?_); (case side1 => exact cp_ HR0.out); (case side2 => exact HC0.out); rintro e w13 ⟨v245, rfl, ho0, hb⟩; refine ⟨_, rfl, ?_⟩; have HO246 := Aside0.mk (Kd.R_lower ho0 (below_size (bel_))); replace HB := Aside0.mk (below_step (bel_) hb); replace BK241 := Aside0.mk (bb_ BK241.out hb); (try clear hb ho0)))
   go_ret
   exact ⟨_, fi_, by (with_reducible repeat (first | apply Kd.R_alloc | apply Kd.R_drewN | apply Kd.R_drew)); exact HO246.out, bel_⟩
  ·replace c6 := Bool.eq_false_iff.mpr c6
   subst c6
   have H1 : (some (([] : List (S43)))) = some r := by rw [if_neg (show ¬ (false = true) by decide)] at H; exact H
   clear H
   have H := H1
   clear H1
   obtain ⟨y247, hy247⟩ : ∃ y_ : List (S43), y_ = (([] : List (S43))) := ⟨_, rfl⟩
   replace H : (some y247) = some r := by first | (rw [hy247]; with_reducible exact H) | (have H2_ := (Option.bind_some _ _).symm.trans H; rw [hy247]; with_reducible exact H2_) | (have H2_ := (Option.bind_some _ _).symm.trans H; with_reducible exact H2_) | with_reducible exact H | (rw [hy247]; exact H) | exact H
   have Ny247 := Aside0.mk hy247
   clear hy247
   obtain rfl := Option.some.inj H
   go_enter Tryd.func17, Tryd.ntmps17
   go_wp2_with (first | ((with_reducible refine gate_dst (N := 3) rfl ?_); refine bx_ 3 (#[.int .i64 a1_0, .int .i64 a1_1, .int .i64 a1_2, .int .i64 a1_3, .string a1_4]) 30 ?_; intro gb241 hg w14 hbox hb; have n0_ := Aside0.mk (below_step (bel_) hb); have n1_ := Aside0.mk (hbox); have n2_ := Aside0.mk ((by rw [hg]; exact (below_size (bel_)) : w.heap.size ≤ gb241)); have n3_ := Aside0.mk ((by rw [hg]; exact (below_size (bel_)) : w.heap.size ≤ gb241)); clear HB; have HB := n0_; have BK241 := n1_; have GW241 := n2_; have GE241 := n3_; clear n0_ n1_ n2_ n3_; clear hb hbox hg) | ((with_reducible refine gate_callee (f := 26) rfl ?_); refine gl_ 6 Tryd.func26 #[.slice A0 l0.length c0] ?_; (with_reducible refine (spec_TreeOk.calls k _ _ l0 true _ ?side1 ?side2 A3.out).mono ?_); (case side1 => exact cp_ HR0.out); (case side2 => exact HC0.out); rintro e w15 ⟨rfl, hb⟩; refine ⟨_, rfl, ?_⟩; replace HB := Aside0.mk (below_step (bel_) hb); replace BK241 := Aside0.mk (bb_ BK241.out hb); (try clear hb); have hcz16_0 := cz_ BK241.out 0 (.int .i64 a1_0); have hcz16_1 := cz_ BK241.out 1 (.int .i64 a1_1); have hcz16_2 := cz_ BK241.out 2 (.int .i64 a1_2); have hcz16_3 := cz_ BK241.out 3 (.int .i64 a1_3); have hcz16_4 := cz_ BK241.out 4 (.string a1_4); have hfz16_0 := blk_frozen BK241.out 0; have hfz16_1 := blk_frozen BK241.out 1; have hfz16_2 := blk_frozen BK241.out 2; have hfz16_3 := blk_frozen BK241.out 3; have hfz16_4 := blk_frozen BK241.out 4) | (go_at_call 27; (with_reducible refine (spec_OpOk.calls k a1_0 a1_1 a1_2 a1_3 a1_4 false _ A5.out).mono ?_); rintro e w17 ⟨rfl, hb⟩; replace HB := Aside0.mk (below_step (bel_) hb); replace BK241 := Aside0.mk (bb_ BK241.out hb); (try clear hb)) | ((with_reducible refine gate_dst (N := 13) rfl ?_); refine Kd.R_lit k43 _ 43 ?hg (N := 13) ?hd (xs := ([] : List (S43))) (inner := []) (ok := fun _ => True) (okp := fun _ => True) ?hr ?hp (fun _ hk => hk) trivial (Below.refl _ _) (Nat.le_refl _) (by simp) ?_; (case hd => rfl); (case hg => rfl); (case hr => first | (go_simp; done) | (go_simp; rfl)); (case hp => exact (Reps.none _ _)); intro v248 w18 ho19 hb hg_ hnew_; clear hg_ hnew_; (first | rw [← Ny247.out] at ho19 | (simp only [Int.reduceToNat] at ho19; rw [← Ny247.out] at ho19)); have HO249 := Aside0.mk (Kd.R_lower ho19 (below_size (bel_))); replace HB := Aside0.mk (below_step (bel_) hb); replace BK241 := Aside0.mk (bb_ BK241.out hb); clear hb ho19))
   go_ret
   exact ⟨_, fi_, by (with_reducible repeat (first | apply Kd.R_alloc | apply Kd.R_drewN | apply Kd.R_drew)); exact HO249.out, bel_⟩
 ·replace c4 := Bool.eq_false_iff.mpr c4
  subst c4
  have H1 : (some (([] : List (S43)))) = some r := by rw [if_neg (show ¬ (false = true) by decide)] at H; exact H
  clear H
  have H := H1
  clear H1
  obtain ⟨y250, hy250⟩ : ∃ y_ : List (S43), y_ = (([] : List (S43))) := ⟨_, rfl⟩
  replace H : (some y250) = some r := by first | (rw [hy250]; with_reducible exact H) | (have H2_ := (Option.bind_some _ _).symm.trans H; rw [hy250]; with_reducible exact H2_) | (have H2_ := (Option.bind_some _ _).symm.trans H; with_reducible exact H2_) | with_reducible exact H | (rw [hy250]; exact H) | exact H
  have Ny250 := Aside0.mk hy250
  clear hy250
  obtain rfl := Option.some.inj H
  go_enter Tryd.func17, Tryd.ntmps17
  go_wp2_with (first | ((with_reducible refine gate_dst (N := 3) rfl ?_); refine bx_ 3 (#[.int .i64 a1_0, .int .i64 a1_1, .int .i64 a1_2, .int .i64 a1_3, .string a1_4]) 30 ?_; intro gb241 hg w20 hbox hb; have n0_ := Aside0.mk (below_step (bel_) hb); have n1_ := Aside0.mk (hbox); have n2_ := Aside0.mk ((by rw [hg]; exact (below_size (bel_)) : w.heap.size ≤ gb241)); have n3_ := Aside0.mk ((by rw [hg]; exact (below_size (bel_)) : w.heap.size ≤ gb241)); clear HB; have HB := n0_; have BK241 := n1_; have GW241 := n2_; have GE241 := n3_; clear n0_ n1_ n2_ n3_; clear hb hbox hg) | ((with_reducible refine gate_callee (f := 26) rfl ?_); refine gl_ 6 Tryd.func26 #[.slice A0 l0.length c0] ?_; (with_reducible refine (spec_TreeOk.calls k _ _ l0 false _ ?side1 ?side2 A3.out).mono ?_); (case side1 => exact cp_ HR0.out); (case side2 => exact HC0.out); rintro e w21 ⟨rfl, hb⟩; refine ⟨_, rfl, ?_⟩; replace HB := Aside0.mk (below_step (bel_) hb); replace BK241 := Aside0.mk (bb_ BK241.out hb); (try clear hb)) | ((with_reducible refine gate_dst (N := 13) rfl ?_); refine Kd.R_lit k43 _ 43 ?hg (N := 13) ?hd (xs := ([] : List (S43))) (inner := []) (ok := fun _ => True) (okp := fun _ => True) ?hr ?hp (fun _ hk => hk) trivial (Below.refl _ _) (Nat.le_refl _) (by simp) ?_; (case hd => rfl); (case hg => rfl); (case hr => first | (go_simp; done) | (go_simp; rfl)); (case hp => exact (Reps.none _ _)); intro v251 w22 ho23 hb hg_ hnew_; clear hg_ hnew_; (first | rw [← Ny250.out] at ho23 | (simp only [Int.reduceToNat] at ho23; rw [← Ny250.out] at ho23)); have HO252 := Aside0.mk (Kd.R_lower ho23 (below_size (bel_))); replace HB := Aside0.mk (below_step (bel_) hb); replace BK241 := Aside0.mk (bb_ BK241.out hb); clear hb ho23))
  go_ret
  exact ⟨_, fi_, by (with_reducible repeat (first | apply Kd.R_alloc | apply Kd.R_drewN | apply Kd.R_drew)); exact HO252.out, bel_⟩

theorem eqA43 (d : Nat) (w : World) (x0 y0 : Int) (x1 y1 : Int) (x2 y2 : ByteArray) :
  (Op.equalIn (d + 2) 43 (.agg #[.int .i64 x0, .int .i64 x1, .string x2]) (.agg #[.int .i64 y0, .int .i64 y1, .string y2])).run Tryd.prog w = .ok (x0 == y0 && (x1 == y1 && (x2.toList == y2.toList))) w := by
 refine eqA_of Tryd.underlying43 (by kernel_rfl) ?_
 refine eqf_cons (by rfl) (by go_simp; rfl) (by go_simp; rfl) (by go_simp) ?_
 refine eqf_cons (by rfl) (by go_simp; rfl) (by go_simp; rfl) (by go_simp) ?_
 exact eqf_last (by rfl) (by go_simp; rfl) (by go_simp; rfl) (by go_simp)
end Go.Proofs.YtkopimbbgckcnaaDoor.P
namespace Go.Proofs.YtkopimbbgckcnaaDoor.P
open Go.RowKit
def owners : List Int := [0, 1, 1, 1, 0, 0, 0, 0, 0, 0, 0, 2, 2, 2, 2, 2, 2, 0, 0, 0, 0, 3, 3, 3, 3, 3, 3, 0, 0, 0, 0, 4, 4, 4, 4, 4, 4]
def Glob (w : World) : Prop := Lib.TabIs Tryd.prog w "loop.example/plashet/impl.rowOwners" .i64 owners
theorem gOwners : Tryd.prog.globalNamed "loop.example/plashet/impl.rowOwners" = some 0 := by kernel_rfl
theorem Glob.var {w : World} (h : Glob w) : w.var? Tryd.prog "loop.example/plashet/impl.rowOwners" = some (owners.map fun z => Value.int .i64 z).toArray := h
theorem Glob.lt {w : World} (h : Glob w) : 0 < w.heap.size := by
 have h := h.var
 unfold World.var? at h
 simp only [gOwners, Option.bind_some] at h
 rcases Nat.lt_or_ge 0 w.heap.size with hl | hl
 ·exact hl
 ·rw [Array.getElem?_eq_none hl] at h
  cases h
theorem Glob.below {w w' : World} (h : Glob w) (hb : Below w.heap.size w w') : Glob w' := by
 have hl := h.lt
 have h := h.var
 unfold Glob Lib.TabIs World.var? at *
 simp only [gOwners, Option.bind_some] at h ⊢
 rw [hb.block _ hl]
 exact h
theorem Glob.drew {w : World} (h : Glob w) : Glob w.drew := by
 have h := h.var
 unfold Glob Lib.TabIs World.var? at *
 exact h
theorem Glob.drewN {w : World} (h : Glob w) (n : Nat) : Glob (w.drewN n) := by
 induction n generalizing w with
 | zero => exact h
 | succ n ih => rw [← World.drew_drewN]; exact ih h.drew
theorem Glob.cell {w : World} (h : Glob w) (i : Nat) (hi : i < 37) : w.cell? ⟨0, i, none⟩ = some (.int .i64 (owners.getD i 0)) := by
 have hc := World.var?_cell gOwners h.var i
 rw [hc]
 have hl : i < owners.length := hi
 simp [List.getD_eq_getElem?_getD, List.getElem?_eq_getElem hl]
def ownI (id : Int) : Int := if 0 ≤ id ∧ id < 37 then owners.getD id.toNat 0 else 0
theorem Glob.at_ {w : World} (h : Glob w) (i : Int) (h0 : 0 ≤ i) (h1 : i < 37) : w.cell? ⟨0, i.toNat, none⟩ = some (.int .i64 (ownI i)) := by
 have := h.cell i.toNat (by omega)
 rw [ownI, if_pos ⟨h0, h1⟩]
 exact this
theorem owners_range : ∀ z ∈ owners, 0 ≤ z ∧ z ≤ 4 := by decide
theorem ownI_range (i : Int) : 0 ≤ ownI i ∧ ownI i ≤ 4 := by
 unfold ownI
 split
 ·rename_i h
  have hl : i.toNat < owners.length := by have : owners.length = 37 := rfl; omega
  rw [List.getD_eq_getElem?_getD, List.getElem?_eq_getElem hl]
  exact owners_range _ (List.getElem_mem hl)
 ·omega
end Go.Proofs.YtkopimbbgckcnaaDoor.P
namespace Go.Proofs.YtkopimbbgckcnaaDoor.FP
open Go.Proofs.YtkopimbbgckcnaaDoor.P
inductive Fo where
 | nil
 | nd (i : Nat) (t : ByteArray) (k n : Fo)
structure Nd where
 t : ByteArray
 up : Nat
 first : Nat
 next : Nat
def Fo.hd : Fo → Nat
 | .nil => 0
 | .nd i _ _ _ => i
def Fo.ids : Fo → List Nat
 | .nil => []
 | .nd i _ k n => i :: (k.ids ++ n.ids)
def Fo.tops : Fo → List Nat
 | .nil => []
 | .nd i _ _ n => i :: n.tops
def Fo.fl (d : Nat) : Fo → List S43
 | .nil => []
 | .nd i t k n => ⟨(i : Int), (d : Int), t⟩ :: (k.fl (d + 1) ++ n.fl d)
def Rep (h : Nat → Nd) (up : Nat) : Fo → Prop
 | .nil => True
 | .nd i t k n => i ≠ 0 ∧ h i = ⟨t, up, k.hd, n.hd⟩ ∧ Rep h i k ∧ Rep h up n
def insAfter (a i : Nat) (t : ByteArray) (s : Fo) : Fo → Fo
 | .nil => .nil
 | .nd j u k n => if j = a then .nd j u k (.nd i t s n) else .nd j u (insAfter a i t s k) (insAfter a i t s n)
def insFirst (p i : Nat) (t : ByteArray) (s : Fo) : Fo → Fo
 | .nil => .nil
 | .nd j u k n => if j = p then .nd j u (.nd i t s k) n else .nd j u (insFirst p i t s k) (insFirst p i t s n)
def del (x : Nat) : Fo → Fo
 | .nil => .nil
 | .nd j u k n => if j = x then n else .nd j u (del x k) (del x n)
def sub (x : Nat) : Fo → Fo
 | .nil => .nil
 | .nd j u k n => if j = x then k else if x ∈ k.ids then sub x k else sub x n
def attachH (h : Nat → Nd) (i up a : Nat) : Nat → Nd := fun j =>
 if a = 0 then
  if j = up then ⟨(h up).t, (h up).up, i, (h up).next⟩ else if j = i then ⟨(h i).t, up, (h i).first, (h up).first⟩ else h j
 else
  if j = a then ⟨(h a).t, (h a).up, (h a).first, i⟩ else if j = i then ⟨(h i).t, up, (h i).first, (h a).next⟩ else h j
def detachH (h : Nat → Nd) (x a : Nat) : Nat → Nd := fun j =>
 if j = x then ⟨(h x).t, 0, (h x).first, 0⟩
 else if a = 0 then (if j = (h x).up then ⟨(h j).t, (h j).up, (h x).next, (h j).next⟩ else h j)
 else (if j = a then ⟨(h j).t, (h j).up, (h j).first, (h x).next⟩ else h j)
theorem Rep.ext {h h' : Nat → Nd} {up : Nat} : ∀ {F : Fo}, Rep h up F → (∀ i ∈ F.ids, h' i = h i) → Rep h' up F
 | .nil, _, _ => trivial
 | .nd i t k n, ⟨h1, h2, h3, h4⟩, e => ⟨h1, (e i (by simp [Fo.ids])).trans h2, Rep.ext h3 fun j hj => e j (by simp [Fo.ids, hj]), Rep.ext h4 fun j hj => e j (by simp [Fo.ids, hj])⟩
theorem Rep.ne0 {h : Nat → Nd} {up : Nat} : ∀ {F : Fo}, Rep h up F → ∀ i ∈ F.ids, i ≠ 0
 | .nil, _, i, hi => by simp [Fo.ids] at hi
 | .nd j t k n, ⟨h1, h2, h3, h4⟩, i, hi => by
  simp only [Fo.ids, List.mem_cons, List.mem_append] at hi
  rcases hi with rfl | hi | hi
  ·exact h1
  ·exact Rep.ne0 h3 i hi
  ·exact Rep.ne0 h4 i hi
theorem attachH_zero (h : Nat → Nd) (i up : Nat) (j : Nat) : attachH h i up 0 j = if j = up then ⟨(h up).t, (h up).up, i, (h up).next⟩ else if j = i then ⟨(h i).t, up, (h i).first, (h up).first⟩ else h j := rfl
theorem attachH_pos (h : Nat → Nd) (i up a : Nat) (ha : a ≠ 0) (j : Nat) : attachH h i up a j = if j = a then ⟨(h a).t, (h a).up, (h a).first, i⟩ else if j = i then ⟨(h i).t, up, (h i).first, (h a).next⟩ else h j := if_neg ha
theorem detachH_self (h : Nat → Nd) (x a : Nat) : detachH h x a x = ⟨(h x).t, 0, (h x).first, 0⟩ := if_pos rfl
theorem detachH_zero (h : Nat → Nd) (x : Nat) {j : Nat} (e : j ≠ x) : detachH h x 0 j = if j = (h x).up then ⟨(h j).t, (h j).up, (h x).next, (h j).next⟩ else h j := by unfold detachH; rw [if_neg e, if_pos rfl]
theorem detachH_pos (h : Nat → Nd) (x a : Nat) (ha : a ≠ 0) {j : Nat} (e : j ≠ x) : detachH h x a j = if j = a then ⟨(h j).t, (h j).up, (h j).first, (h x).next⟩ else h j := by unfold detachH; rw [if_neg e, if_neg ha]
structure Free (h : Nat → Nd) (i : Nat) (t : ByteArray) (s : Fo) : Prop where
 ne : i ≠ 0
 t : (h i).t = t
 first : (h i).first = s.hd
 rep : Rep h i s
 out : i ∉ s.ids
theorem insAfter_id (a i : Nat) (t : ByteArray) (s : Fo) : ∀ {F : Fo}, a ∉ F.ids → insAfter a i t s F = F
 | .nil, _ => rfl
 | .nd j u k n, h => by
  simp only [Fo.ids, List.mem_cons, List.mem_append, not_or] at h
  unfold insAfter
  rw [if_neg (fun e => h.1 e.symm), insAfter_id a i t s h.2.1, insAfter_id a i t s h.2.2]
theorem insFirst_id (p i : Nat) (t : ByteArray) (s : Fo) : ∀ {F : Fo}, p ∉ F.ids → insFirst p i t s F = F
 | .nil, _ => rfl
 | .nd j u k n, h => by
  simp only [Fo.ids, List.mem_cons, List.mem_append, not_or] at h
  unfold insFirst
  rw [if_neg (fun e => h.1 e.symm), insFirst_id p i t s h.2.1, insFirst_id p i t s h.2.2]
theorem del_id (x : Nat) : ∀ {F : Fo}, x ∉ F.ids → del x F = F
 | .nil, _ => rfl
 | .nd j u k n, h => by
  simp only [Fo.ids, List.mem_cons, List.mem_append, not_or] at h
  unfold del
  rw [if_neg (fun e => h.1 e.symm), del_id x h.2.1, del_id x h.2.2]
theorem insAfter_hd (a i : Nat) (t : ByteArray) (s : Fo) : ∀ (F : Fo), (insAfter a i t s F).hd = F.hd
 | .nil => rfl
 | .nd j u k n => by unfold insAfter; split <;> rfl
theorem insFirst_hd (p i : Nat) (t : ByteArray) (s : Fo) : ∀ (F : Fo), (insFirst p i t s F).hd = F.hd
 | .nil => rfl
 | .nd j u k n => by unfold insFirst; split <;> rfl
theorem nodup_nd {j : Nat} {u : ByteArray} {k n : Fo} (h : (Fo.nd j u k n).ids.Nodup) : j ∉ k.ids ∧ j ∉ n.ids ∧ k.ids.Nodup ∧ n.ids.Nodup ∧ (∀ x ∈ k.ids, x ∉ n.ids) := by
 simp only [Fo.ids, List.nodup_cons, List.nodup_append, List.mem_append, not_or] at h
 exact ⟨h.1.1, h.1.2, h.2.1, h.2.2.1, fun x hx hn => h.2.2.2 x hx x hn rfl⟩
theorem rep_insAfter {h : Nat → Nd} {a i q : Nat} {t : ByteArray} {s : Fo} (hf : Free h i t s) (ha0 : a ≠ 0) (hq : (h a).up = q) :
  ∀ {F : Fo} {up : Nat}, Rep h up F → F.ids.Nodup → i ∉ F.ids → a ∉ s.ids → a ≠ i → (∀ j ∈ s.ids, j ∉ F.ids) → Rep (attachH h i q a) up (insAfter a i t s F)
 | .nil, up, _, _, _, _, _, _ => trivial
 | .nd j u k n, up, ⟨h1, h2, h3, h4⟩, hn, hi, has, hai, hd => by
  obtain ⟨n1, n2, n3, n4, n5⟩ := nodup_nd hn
  have hat := attachH_pos h i q a ha0
  simp only [Fo.ids, List.mem_cons, List.mem_append, not_or] at hi
  have hs : Rep (attachH h i q a) i s := hf.rep.ext fun x hx => by
   rw [hat x, if_neg (fun (e : x = a) => has (e ▸ hx)), if_neg (fun (e : x = i) => hf.out (e ▸ hx))]
  unfold insAfter
  by_cases hj : j = a
  ·subst hj
   rw [if_pos rfl]
   have hup : q = up := by rw [← hq, h2]
   refine ⟨h1, ?_, ?_, hf.ne, ?_, hs, ?_⟩
   ·rw [hat j, if_pos rfl, h2]; rfl
   ·exact h3.ext fun x hx => by rw [hat x, if_neg (fun (e : x = j) => n1 (e ▸ hx)), if_neg (fun (e : x = i) => hi.2.1 (e ▸ hx))]
   ·rw [hat i, if_neg (fun e => hai e.symm), if_pos rfl, h2, hup]
    show Nd.mk (h i).t up (h i).first n.hd = _
    rw [hf.t, hf.first]
   ·exact h4.ext fun x hx => by rw [hat x, if_neg (fun (e : x = j) => n2 (e ▸ hx)), if_neg (fun (e : x = i) => hi.2.2 (e ▸ hx))]
  ·rw [if_neg hj]
   refine ⟨h1, ?_, ?_, ?_⟩
   ·rw [hat j, if_neg hj, if_neg (fun e => hi.1 e.symm), h2, insAfter_hd, insAfter_hd]
   ·exact rep_insAfter hf ha0 hq h3 n3 hi.2.1 has hai fun x hx hk => hd x hx (by simp [Fo.ids, hk])
   ·exact rep_insAfter hf ha0 hq h4 n4 hi.2.2 has hai fun x hx hk => hd x hx (by simp [Fo.ids, hk])
theorem rep_insFirst {h : Nat → Nd} {p i : Nat} {t : ByteArray} {s : Fo} (hf : Free h i t s) :
  ∀ {F : Fo} {up : Nat}, Rep h up F → F.ids.Nodup → i ∉ F.ids → p ∉ s.ids → p ≠ i → (∀ j ∈ s.ids, j ∉ F.ids) → Rep (attachH h i p 0) up (insFirst p i t s F)
 | .nil, up, _, _, _, _, _, _ => trivial
 | .nd j u k n, up, ⟨h1, h2, h3, h4⟩, hn, hi, has, hai, hd => by
  obtain ⟨n1, n2, n3, n4, n5⟩ := nodup_nd hn
  have hat := attachH_zero h i p
  simp only [Fo.ids, List.mem_cons, List.mem_append, not_or] at hi
  have hs : Rep (attachH h i p 0) i s := hf.rep.ext fun x hx => by
   rw [hat x, if_neg (fun (e : x = p) => has (e ▸ hx)), if_neg (fun (e : x = i) => hf.out (e ▸ hx))]
  unfold insFirst
  by_cases hj : j = p
  ·subst hj
   rw [if_pos rfl]
   refine ⟨h1, ?_, ⟨hf.ne, ?_, hs, ?_⟩, ?_⟩
   ·rw [hat j, if_pos rfl, h2]; rfl
   ·rw [hat i, if_neg (fun e => hai e.symm), if_pos rfl, h2]
    show Nd.mk (h i).t j (h i).first k.hd = _
    rw [hf.t, hf.first]
   ·exact h3.ext fun x hx => by rw [hat x, if_neg (fun (e : x = j) => n1 (e ▸ hx)), if_neg (fun (e : x = i) => hi.2.1 (e ▸ hx))]
   ·exact h4.ext fun x hx => by rw [hat x, if_neg (fun (e : x = j) => n2 (e ▸ hx)), if_neg (fun (e : x = i) => hi.2.2 (e ▸ hx))]
  ·rw [if_neg hj]
   refine ⟨h1, ?_, ?_, ?_⟩
   ·rw [hat j, if_neg hj, if_neg (fun e => hi.1 e.symm), h2, insFirst_hd, insFirst_hd]
   ·exact rep_insFirst hf h3 n3 hi.2.1 has hai fun x hx hk => hd x hx (by simp [Fo.ids, hk])
   ·exact rep_insFirst hf h4 n4 hi.2.2 has hai fun x hx hk => hd x hx (by simp [Fo.ids, hk])
def sib (x : Nat) : Nat → Fo → Nat
 | _, .nil => 0
 | p, .nd j u k n => if j = x then p else if x ∈ k.ids then sib x 0 k else sib x j n
theorem sib_mem (x : Nat) : ∀ (F : Fo) (p : Nat), sib x p F = p ∨ sib x p F = 0 ∨ sib x p F ∈ F.ids
 | .nil, p => Or.inr (Or.inl rfl)
 | .nd j u k n, p => by
  unfold sib
  by_cases h1 : j = x
  ·rw [if_pos h1]; exact Or.inl rfl
  ·rw [if_neg h1]
   by_cases h2 : x ∈ k.ids
   ·rw [if_pos h2]
    rcases sib_mem x k 0 with h | h | h
    ·exact Or.inr (Or.inl h)
    ·exact Or.inr (Or.inl h)
    ·exact Or.inr (Or.inr (by simp [Fo.ids, h]))
   ·rw [if_neg h2]
    rcases sib_mem x n j with h | h | h
    ·rw [h]; exact Or.inr (Or.inr (by simp [Fo.ids]))
    ·exact Or.inr (Or.inl h)
    ·exact Or.inr (Or.inr (by simp [Fo.ids, h]))
theorem rep_up {h : Nat → Nd} {x : Nat} : ∀ {F : Fo} {up : Nat}, Rep h up F → F.ids.Nodup → x ∈ F.ids → (h x).up = up ∨ (h x).up ∈ F.ids
 | .nil, _, _, _, hx => by simp [Fo.ids] at hx
 | .nd j u k n, up, ⟨h1, h2, h3, h4⟩, hn, hx => by
  obtain ⟨n1, n2, n3, n4, n5⟩ := nodup_nd hn
  simp only [Fo.ids, List.mem_cons, List.mem_append] at hx
  rcases hx with rfl | hx | hx
  ·left; rw [h2]
  ·rcases rep_up h3 n3 hx with e | e
   ·right; rw [e]; simp [Fo.ids]
   ·right; simp [Fo.ids, e]
  ·rcases rep_up h4 n4 hx with e | e
   ·exact Or.inl e
   ·right; simp [Fo.ids, e]
theorem sib_zero {h : Nat → Nd} {x : Nat} : ∀ {F : Fo} {up p : Nat}, Rep h up F → F.ids.Nodup → x ∈ F.ids → sib x p F = 0 → (p ≠ 0 ∨ F.hd ≠ x) → (h x).up ∈ F.ids
 | .nil, _, _, _, _, hx, _, _ => by simp [Fo.ids] at hx
 | .nd j u k n, up, p, ⟨h1, h2, h3, h4⟩, hn, hx, hs, hp => by
  obtain ⟨n1, n2, n3, n4, n5⟩ := nodup_nd hn
  unfold sib at hs
  simp only [Fo.ids, List.mem_cons, List.mem_append] at hx
  by_cases e : j = x
  ·rw [if_pos e] at hs
   rcases hp with hp | hp
   ·exact absurd hs hp
   ·exact absurd e hp
  ·rw [if_neg e] at hs
   by_cases hk : x ∈ k.ids
   ·rcases rep_up h3 n3 hk with e | e
    ·rw [e]; simp [Fo.ids]
    ·simp [Fo.ids, e]
   ·rw [if_neg hk] at hs
    have hxn : x ∈ n.ids := by
     rcases hx with e' | e' | e'
     ·exact absurd e'.symm e
     ·exact absurd e' hk
     ·exact e'
    have := sib_zero (p := j) h4 n4 hxn hs (Or.inl h1)
    simp [Fo.ids, this]
theorem del_hd (x : Nat) (F : Fo) (h : F.hd ≠ x) : (del x F).hd = F.hd := by
 cases F with
 | nil => rfl
 | nd j u k n => unfold del; rw [if_neg (show j ≠ x from h)]; rfl
theorem del_hd_self {h : Nat → Nd} {up x : Nat} {F : Fo} (hr : Rep h up F) (e : F.hd = x) (hx : x ≠ 0) : (del x F).hd = (h x).next ∧ (h x).up = up := by
 cases F with
 | nil => exact absurd e.symm hx
 | nd j u k n =>
  obtain rfl : j = x := e
  obtain ⟨h1, h2, h3, h4⟩ := hr
  unfold del
  rw [if_pos rfl, h2]
  exact ⟨rfl, rfl⟩
theorem sib_hd {x p : Nat} {F : Fo} (e : F.hd = x) (hx : x ≠ 0) : sib x p F = p := by
 cases F with
 | nil => exact absurd e.symm hx
 | nd j u k n => unfold sib; exact if_pos e
theorem up_ne {h : Nat → Nd} {x : Nat} : ∀ {F : Fo} {up : Nat}, Rep h up F → F.ids.Nodup → x ∈ F.ids → up ∉ F.ids → (h x).up ≠ x
 | .nil, _, _, _, hx, _ => by simp [Fo.ids] at hx
 | .nd j u k n, up, ⟨h1, h2, h3, h4⟩, hn, hx, hup => by
  obtain ⟨n1, n2, n3, n4, n5⟩ := nodup_nd hn
  simp only [Fo.ids, List.mem_cons, List.mem_append, not_or] at hx hup
  rcases hx with rfl | hx | hx
  ·rw [h2]; exact hup.1
  ·exact up_ne h3 n3 hx n1
  ·exact up_ne h4 n4 hx hup.2.2
theorem sib_ne {x : Nat} (hx0 : x ≠ 0) : ∀ {F : Fo} {p : Nat}, F.ids.Nodup → x ∈ F.ids → p ≠ x → sib x p F ≠ x
 | .nil, _, _, hx, _ => by simp [Fo.ids] at hx
 | .nd j u k n, p, hn, hx, hp => by
  obtain ⟨n1, n2, n3, n4, n5⟩ := nodup_nd hn
  simp only [Fo.ids, List.mem_cons, List.mem_append] at hx
  unfold sib
  by_cases e1 : j = x
  ·rw [if_pos e1]; exact hp
  ·rw [if_neg e1]
   by_cases e2 : x ∈ k.ids
   ·rw [if_pos e2]; exact sib_ne hx0 n3 e2 (fun e => hx0 e.symm)
   ·rw [if_neg e2]
    exact sib_ne hx0 n4 (by rcases hx with g | g | g; exact absurd g.symm e1; exact absurd g e2; exact g) e1
theorem rep_del {h : Nat → Nd} {x : Nat} : ∀ {F : Fo} {up p : Nat}, Rep h up F → F.ids.Nodup → x ∈ F.ids → up ∉ F.ids → p ∉ F.ids → Rep (detachH h x (sib x p F)) up (del x F)
 | .nil, _, _, _, _, hx, _, _ => by simp [Fo.ids] at hx
 | .nd j u k n, up, p, hR, hn, hx, hup, hp => by
  have hx0 : x ≠ 0 := hR.ne0 x hx
  have hxup : (h x).up ≠ x := up_ne hR hn hx hup
  obtain ⟨h1, h2, h3, h4⟩ := hR
  obtain ⟨n1, n2, n3, n4, n5⟩ := nodup_nd hn
  simp only [Fo.ids, List.mem_cons, List.mem_append, not_or] at hx hup hp
  unfold sib del
  by_cases e : j = x
  ·subst e
   rw [if_pos rfl, if_pos rfl]
   refine h4.ext fun y hy => ?_
   have hyj : y ≠ j := fun e => n2 (e ▸ hy)
   by_cases hp0 : p = 0
   ·subst hp0
    rw [detachH_zero h j hyj, h2, if_neg (fun (e : y = up) => hup.2.2 (e ▸ hy))]
   ·rw [detachH_pos h j p hp0 hyj, if_neg (fun (e : y = p) => hp.2.2 (e ▸ hy))]
  ·rw [if_neg e, if_neg e]
   by_cases hk : x ∈ k.ids
   ·rw [if_pos hk]
    have z3 : (0 : Nat) ∉ k.ids := fun h0 => h3.ne0 0 h0 rfl
    have ih := rep_del (p := 0) h3 n3 hk n1 z3
    have hnx : x ∉ n.ids := n5 x hk
    have hsx := sib_ne (p := 0) hx0 n3 hk (fun e => hx0 e.symm)
    have hsm : sib x 0 k ≠ 0 → sib x 0 k ∈ k.ids := fun hs => by
     rcases sib_mem x k 0 with h' | h' | h'
     ·exact absurd h' hs
     ·exact absurd h' hs
     ·exact h'
    rw [del_id x hnx]
    refine ⟨h1, ?_, ih, ?_⟩
    ·by_cases hh : k.hd = x
     ·have hs : sib x 0 k = 0 := sib_hd hh hx0
      obtain ⟨d1, d2⟩ := del_hd_self h3 hh hx0
      rw [hs, detachH_zero h x e, d2, if_pos rfl, d1, h2]
     ·rw [del_hd x k hh]
      by_cases hs : sib x 0 k = 0
      ·have hq := sib_zero (p := 0) h3 n3 hk hs (Or.inr hh)
       rw [hs, detachH_zero h x e, if_neg (fun (e2 : j = (h x).up) => n1 (e2 ▸ hq)), h2]
      ·rw [detachH_pos h x _ hs e, if_neg (fun (e2 : j = sib x 0 k) => n1 (e2 ▸ hsm hs)), h2]
    ·refine h4.ext fun y hy => ?_
     have hyx : y ≠ x := fun e2 => hnx (e2 ▸ hy)
     by_cases hs : sib x 0 k = 0
     ·rw [hs, detachH_zero h x hyx, if_neg]
      intro e2
      rcases rep_up h3 n3 hk with e3 | e3
      ·exact n2 (e3 ▸ e2 ▸ hy)
      ·exact n5 _ e3 (e2 ▸ hy)
     ·rw [detachH_pos h x _ hs hyx, if_neg (fun (e2 : y = sib x 0 k) => n5 _ (hsm hs) (e2 ▸ hy))]
   ·rw [if_neg hk]
    have hxn : x ∈ n.ids := by
     rcases hx with g | g | g
     ·exact absurd g.symm e
     ·exact absurd g hk
     ·exact g
    have ih := rep_del (p := j) h4 n4 hxn hup.2.2 n2
    rw [del_id x hk]
    have hsm : sib x j n ≠ j → sib x j n ≠ 0 → sib x j n ∈ n.ids := fun hj hs => by
     rcases sib_mem x n j with h' | h' | h'
     ·exact absurd h' hj
     ·exact absurd h' hs
     ·exact h'
    refine ⟨h1, ?_, ?_, ih⟩
    ·by_cases hh : n.hd = x
     ·have hs : sib x j n = j := sib_hd hh hx0
      obtain ⟨d1, d2⟩ := del_hd_self h4 hh hx0
      rw [hs, detachH_pos h x j h1 e, if_pos rfl, d1, h2]
     ·rw [del_hd x n hh]
      by_cases hs : sib x j n = 0
      ·have hq := sib_zero (p := j) h4 n4 hxn hs (Or.inl h1)
       rw [hs, detachH_zero h x e, if_neg (fun (e2 : j = (h x).up) => n2 (e2 ▸ hq)), h2]
      ·have hsj : sib x j n ≠ j := by
        cases n with
        | nil => simp [Fo.ids] at hxn
        | nd j2 u2 k2 n2' =>
         have hj2 : j2 ≠ x := hh
         unfold sib
         rw [if_neg hj2]
         obtain ⟨m1, m2, m3, m4, m5⟩ := nodup_nd n4
         simp only [Fo.ids, List.mem_cons, List.mem_append, not_or] at n2
         split
         ·rcases sib_mem x k2 0 with h' | h' | h'
          ·rw [h']; exact fun e => h1 e.symm
          ·rw [h']; exact fun e => h1 e.symm
          ·exact fun e => n2.2.1 (e ▸ h')
         ·rcases sib_mem x n2' j2 with h' | h' | h'
          ·rw [h']; exact fun e => n2.1 e.symm
          ·rw [h']; exact fun e => h1 e.symm
          ·exact fun e => n2.2.2 (e ▸ h')
       rw [detachH_pos h x _ hs e, if_neg (fun (e2 : j = sib x j n) => hsj e2.symm), h2]
    ·refine h3.ext fun y hy => ?_
     have hyx : y ≠ x := fun e2 => hk (e2 ▸ hy)
     by_cases hs : sib x j n = 0
     ·rw [hs, detachH_zero h x hyx, if_neg]
      intro e2
      have hq := sib_zero (p := j) h4 n4 hxn hs (Or.inl h1)
      exact n5 _ hy (e2 ▸ hq)
     ·rw [detachH_pos h x _ hs hyx, if_neg]
      intro e2
      by_cases hsj : sib x j n = j
      ·exact n1 (by rw [← hsj, ← e2]; exact hy)
      ·exact n5 _ hy (e2 ▸ hsm hsj hs)
def RepTop (h : Nat → Nd) : Fo → Prop
 | .nil => True
 | .nd i t k n => i ≠ 0 ∧ h i = ⟨t, 0, k.hd, 0⟩ ∧ Rep h i k ∧ RepTop h n
theorem RepTop.ext {h h' : Nat → Nd} : ∀ {F : Fo}, RepTop h F → (∀ i ∈ F.ids, h' i = h i) → RepTop h' F
 | .nil, _, _ => trivial
 | .nd i t k n, ⟨h1, h2, h3, h4⟩, e => ⟨h1, (e i (by simp [Fo.ids])).trans h2, Rep.ext h3 fun j hj => e j (by simp [Fo.ids, hj]), RepTop.ext h4 fun j hj => e j (by simp [Fo.ids, hj])⟩
theorem RepTop.ne0 {h : Nat → Nd} : ∀ {F : Fo}, RepTop h F → ∀ i ∈ F.ids, i ≠ 0
 | .nil, _, i, hi => by simp [Fo.ids] at hi
 | .nd j t k n, ⟨h1, h2, h3, h4⟩, i, hi => by
  simp only [Fo.ids, List.mem_cons, List.mem_append] at hi
  rcases hi with rfl | hi | hi
  ·exact h1
  ·exact Rep.ne0 h3 i hi
  ·exact RepTop.ne0 h4 i hi
theorem tops_ids : ∀ {F : Fo} {x : Nat}, x ∈ F.tops → x ∈ F.ids
 | .nil, x, h => by cases h
 | .nd j t k n, x, h => by
  simp only [Fo.tops, List.mem_cons] at h
  simp only [Fo.ids, List.mem_cons, List.mem_append]
  rcases h with h | h
  ·exact Or.inl h
  ·exact Or.inr (Or.inr (tops_ids h))
theorem reptop_up {h : Nat → Nd} {x : Nat} : ∀ {F : Fo}, RepTop h F → F.ids.Nodup → x ∈ F.ids → x ∉ F.tops → (h x).up ∈ F.ids ∧ (h x).up ≠ x
 | .nil, _, _, hx, _ => by simp [Fo.ids] at hx
 | .nd j u k n, ⟨h1, h2, h3, h4⟩, hn, hx, ht => by
  obtain ⟨n1, n2, n3, n4, n5⟩ := nodup_nd hn
  simp only [Fo.ids, Fo.tops, List.mem_cons, List.mem_append, not_or] at hx ht ⊢
  rcases hx with e | hx | hx
  ·exact absurd e ht.1
  ·refine ⟨?_, up_ne h3 n3 hx n1⟩
   rcases rep_up h3 n3 hx with e | e
   ·exact Or.inl e
   ·exact Or.inr (Or.inl e)
  ·obtain ⟨g1, g2⟩ := reptop_up h4 n4 hx ht.2
   exact ⟨Or.inr (Or.inr g1), g2⟩
theorem reptop_root {h : Nat → Nd} {x : Nat} : ∀ {F : Fo}, RepTop h F → x ∈ F.tops → (h x).up = 0
 | .nil, _, hx => by cases hx
 | .nd j u k n, ⟨h1, h2, h3, h4⟩, hx => by
  simp only [Fo.tops, List.mem_cons] at hx
  rcases hx with rfl | hx
  ·rw [h2]
  ·exact reptop_root h4 hx
theorem reptop_insAfter {h : Nat → Nd} {a i q : Nat} {t : ByteArray} {s : Fo} (hf : Free h i t s) (ha0 : a ≠ 0) (hq : (h a).up = q) :
  ∀ {F : Fo}, RepTop h F → F.ids.Nodup → i ∉ F.ids → a ∉ F.tops → a ∉ s.ids → a ≠ i → (∀ j ∈ s.ids, j ∉ F.ids) → RepTop (attachH h i q a) (insAfter a i t s F)
 | .nil, _, _, _, _, _, _, _ => trivial
 | .nd j u k n, ⟨h1, h2, h3, h4⟩, hn, hi, hta, has, hai, hd => by
  obtain ⟨n1, n2, n3, n4, n5⟩ := nodup_nd hn
  simp only [Fo.ids, Fo.tops, List.mem_cons, List.mem_append, not_or] at hi hta
  have hj : j ≠ a := fun e => hta.1 e.symm
  unfold insAfter
  rw [if_neg hj]
  refine ⟨h1, ?_, ?_, ?_⟩
  ·rw [attachH_pos h i q a ha0 j, if_neg hj, if_neg (fun e => hi.1 e.symm), h2, insAfter_hd]
  ·exact rep_insAfter hf ha0 hq h3 n3 hi.2.1 has hai fun x hx hk => hd x hx (by simp [Fo.ids, hk])
  ·exact reptop_insAfter hf ha0 hq h4 n4 hi.2.2 hta.2 has hai fun x hx hk => hd x hx (by simp [Fo.ids, hk])
theorem reptop_insFirst {h : Nat → Nd} {p i : Nat} {t : ByteArray} {s : Fo} (hf : Free h i t s) :
  ∀ {F : Fo}, RepTop h F → F.ids.Nodup → i ∉ F.ids → p ∉ s.ids → p ≠ i → (∀ j ∈ s.ids, j ∉ F.ids) → RepTop (attachH h i p 0) (insFirst p i t s F)
 | .nil, _, _, _, _, _, _ => trivial
 | .nd j u k n, ⟨h1, h2, h3, h4⟩, hn, hi, has, hai, hd => by
  obtain ⟨n1, n2, n3, n4, n5⟩ := nodup_nd hn
  have hat := attachH_zero h i p
  simp only [Fo.ids, List.mem_cons, List.mem_append, not_or] at hi
  unfold insFirst
  by_cases hj : j = p
  ·subst hj
   rw [if_pos rfl]
   refine ⟨h1, ?_, ⟨hf.ne, ?_, ?_, ?_⟩, ?_⟩
   ·rw [hat j, if_pos rfl, h2]; rfl
   ·rw [hat i, if_neg (fun e => hai e.symm), if_pos rfl, h2]
    show Nd.mk (h i).t j (h i).first k.hd = _
    rw [hf.t, hf.first]
   ·exact hf.rep.ext fun x hx => by
     rw [hat x, if_neg (fun (e : x = j) => has (e ▸ hx)), if_neg (fun (e : x = i) => hf.out (e ▸ hx))]
   ·exact h3.ext fun x hx => by rw [hat x, if_neg (fun (e : x = j) => n1 (e ▸ hx)), if_neg (fun (e : x = i) => hi.2.1 (e ▸ hx))]
   ·exact h4.ext fun x hx => by rw [hat x, if_neg (fun (e : x = j) => n2 (e ▸ hx)), if_neg (fun (e : x = i) => hi.2.2 (e ▸ hx))]
  ·rw [if_neg hj]
   refine ⟨h1, ?_, ?_, ?_⟩
   ·rw [hat j, if_neg hj, if_neg (fun e => hi.1 e.symm), h2, insFirst_hd]
   ·exact rep_insFirst hf h3 n3 hi.2.1 has hai fun x hx hk => hd x hx (by simp [Fo.ids, hk])
   ·exact reptop_insFirst hf h4 n4 hi.2.2 has hai fun x hx hk => hd x hx (by simp [Fo.ids, hk])
def sibT (x : Nat) : Fo → Nat
 | .nil => 0
 | .nd j u k n => if x ∈ k.ids then sib x 0 k else sibT x n
theorem sibT_mem (x : Nat) : ∀ (F : Fo), sibT x F = 0 ∨ sibT x F ∈ F.ids
 | .nil => Or.inl rfl
 | .nd j u k n => by
  unfold sibT
  split
  ·rcases sib_mem x k 0 with h | h | h
   ·exact Or.inl h
   ·exact Or.inl h
   ·exact Or.inr (by simp [Fo.ids, h])
  ·rcases sibT_mem x n with h | h
   ·exact Or.inl h
   ·exact Or.inr (by simp [Fo.ids, h])
theorem reptop_del {h : Nat → Nd} {x : Nat} : ∀ {F : Fo}, RepTop h F → F.ids.Nodup → x ∈ F.ids → x ∉ F.tops → RepTop (detachH h x (sibT x F)) (del x F)
 | .nil, _, _, hx, _ => by simp [Fo.ids] at hx
 | .nd j u k n, hR, hn, hx, ht => by
  have hx0 : x ≠ 0 := hR.ne0 x hx
  obtain ⟨h1, h2, h3, h4⟩ := hR
  obtain ⟨n1, n2, n3, n4, n5⟩ := nodup_nd hn
  simp only [Fo.ids, Fo.tops, List.mem_cons, List.mem_append, not_or] at hx ht
  have e : j ≠ x := fun e => ht.1 e.symm
  unfold sibT del
  rw [if_neg e]
  by_cases hk : x ∈ k.ids
  ·rw [if_pos hk]
   have z3 : (0 : Nat) ∉ k.ids := fun h0 => h3.ne0 0 h0 rfl
   have hxup : (h x).up ≠ x := up_ne h3 n3 hk n1
   have ih := rep_del (p := 0) h3 n3 hk n1 z3
   have hnx : x ∉ n.ids := n5 x hk
   have hsx := sib_ne (p := 0) hx0 n3 hk (fun e => hx0 e.symm)
   have hsm : sib x 0 k ≠ 0 → sib x 0 k ∈ k.ids := fun hs => by
    rcases sib_mem x k 0 with h' | h' | h'
    ·exact absurd h' hs
    ·exact absurd h' hs
    ·exact h'
   rw [del_id x hnx]
   refine ⟨h1, ?_, ih, ?_⟩
   ·by_cases hh : k.hd = x
    ·have hs : sib x 0 k = 0 := sib_hd hh hx0
     obtain ⟨d1, d2⟩ := del_hd_self h3 hh hx0
     rw [hs, detachH_zero h x e, d2, if_pos rfl, d1, h2]
    ·rw [del_hd x k hh]
     by_cases hs : sib x 0 k = 0
     ·have hq := sib_zero (p := 0) h3 n3 hk hs (Or.inr hh)
      rw [hs, detachH_zero h x e, if_neg (fun (e2 : j = (h x).up) => n1 (e2 ▸ hq)), h2]
     ·rw [detachH_pos h x _ hs e, if_neg (fun (e2 : j = sib x 0 k) => n1 (e2 ▸ hsm hs)), h2]
   ·refine h4.ext fun y hy => ?_
    have hyx : y ≠ x := fun e2 => hnx (e2 ▸ hy)
    by_cases hs : sib x 0 k = 0
    ·rw [hs, detachH_zero h x hyx, if_neg]
     intro e2
     rcases rep_up h3 n3 hk with e3 | e3
     ·exact n2 (e3 ▸ e2 ▸ hy)
     ·exact n5 _ e3 (e2 ▸ hy)
    ·rw [detachH_pos h x _ hs hyx, if_neg (fun (e2 : y = sib x 0 k) => n5 _ (hsm hs) (e2 ▸ hy))]
  ·rw [if_neg hk]
   have hxn : x ∈ n.ids := by
    rcases hx with g | g | g
    ·exact absurd g.symm e
    ·exact absurd g hk
    ·exact g
   have ih := reptop_del h4 n4 hxn ht.2
   obtain ⟨u1, u2⟩ := reptop_up h4 n4 hxn ht.2
   have hsm : sibT x n ≠ 0 → sibT x n ∈ n.ids := fun hs => by
    rcases sibT_mem x n with h' | h'
    ·exact absurd h' hs
    ·exact h'
   rw [del_id x hk]
   refine ⟨h1, ?_, ?_, ih⟩
   ·by_cases hs : sibT x n = 0
    ·rw [hs, detachH_zero h x e, if_neg (fun (e2 : j = (h x).up) => n2 (e2 ▸ u1)), h2]
    ·rw [detachH_pos h x _ hs e, if_neg (fun (e2 : j = sibT x n) => n2 (e2 ▸ hsm hs)), h2]
   ·refine h3.ext fun y hy => ?_
    have hyx : y ≠ x := fun e2 => hk (e2 ▸ hy)
    by_cases hs : sibT x n = 0
    ·rw [hs, detachH_zero h x hyx, if_neg (fun (e2 : y = (h x).up) => n5 _ hy (e2 ▸ u1))]
    ·rw [detachH_pos h x _ hs hyx, if_neg (fun (e2 : y = sibT x n) => n5 _ hy (e2 ▸ hsm hs))]
theorem free_detach {h : Nat → Nd} {x a : Nat} : ∀ {F : Fo} {up : Nat}, Rep h up F → F.ids.Nodup → x ∈ F.ids → a ∉ (sub x F).ids → (h x).up ∉ (sub x F).ids → Free (detachH h x a) x (h x).t (sub x F)
 | .nil, _, _, _, hx, _, _ => by simp [Fo.ids] at hx
 | .nd j u k n, up, ⟨h1, h2, h3, h4⟩, hn, hx, ha, hu => by
  obtain ⟨n1, n2, n3, n4, n5⟩ := nodup_nd hn
  unfold sub at ha hu ⊢
  by_cases e : j = x
  ·subst e
   rw [if_pos rfl] at ha hu ⊢
   refine ⟨h1, by rw [detachH_self], by rw [detachH_self, h2], h3.ext fun y hy => ?_, n1⟩
   have hyj : y ≠ j := fun e => n1 (e ▸ hy)
   by_cases ha0 : a = 0
   ·subst ha0; rw [detachH_zero h j hyj, if_neg (fun (e : y = (h j).up) => hu (e ▸ hy))]
   ·rw [detachH_pos h j a ha0 hyj, if_neg (fun (e : y = a) => ha (e ▸ hy))]
  ·rw [if_neg e] at ha hu ⊢
   by_cases hk : x ∈ k.ids
   ·rw [if_pos hk] at ha hu ⊢
    exact free_detach h3 n3 hk ha hu
   ·rw [if_neg hk] at ha hu ⊢
    simp only [Fo.ids, List.mem_cons, List.mem_append] at hx
    exact free_detach h4 n4 (by rcases hx with g | g | g; exact absurd g.symm e; exact absurd g hk; exact g) ha hu
def dpth : Fo → Nat
 | .nil => 0
 | .nd _ _ k .nil => dpth k + 1
 | .nd _ _ _ (.nd i t k n) => dpth (.nd i t k n)
def sp : Nat → Fo → Nat
 | _, .nil => 0
 | 0, .nd i _ _ .nil => i
 | e + 1, .nd _ _ k .nil => sp e k
 | e, .nd _ _ _ (.nd i t k n) => sp e (.nd i t k n)
def snoc (i : Nat) (t : ByteArray) : Nat → Fo → Fo
 | _, .nil => .nd i t .nil .nil
 | 0, .nd j u k .nil => .nd j u k (.nd i t .nil .nil)
 | e + 1, .nd j u k .nil => .nd j u (snoc i t e k) .nil
 | e, .nd j u k (.nd j2 u2 k2 n2) => .nd j u k (snoc i t e (.nd j2 u2 k2 n2))
theorem snoc_ne (i : Nat) (t : ByteArray) : ∀ (e : Nat) (G : Fo), ∃ j u k n, snoc i t e G = .nd j u k n
 | e, .nil => ⟨_, _, _, _, by unfold snoc; rfl⟩
 | 0, .nd j u k .nil => ⟨_, _, _, _, by unfold snoc; rfl⟩
 | e + 1, .nd j u k .nil => ⟨_, _, _, _, by unfold snoc; rfl⟩
 | e, .nd j u k (.nd j2 u2 k2 n2) => ⟨_, _, _, _, by unfold snoc; rfl⟩
theorem snoc_fl (i : Nat) (t : ByteArray) : ∀ (G : Fo) (e d : Nat), e ≤ dpth G → (snoc i t e G).fl d = G.fl d ++ [⟨(i : Int), ((d + e : Nat) : Int), t⟩]
 | .nil, e, d, h => by
  have : e = 0 := by simpa [dpth] using h
  subst this
  simp [snoc, Fo.fl]
 | .nd j u k .nil, 0, d, h => by simp [snoc, Fo.fl]
 | .nd j u k .nil, e + 1, d, h => by
  have := snoc_fl i t k e (d + 1) (by simp only [dpth] at h; omega)
  simp only [snoc, Fo.fl, this]
  rw [show d + 1 + e = d + (e + 1) by omega]
  simp
 | .nd j u k (.nd j2 u2 k2 n2), e, d, h => by
  have := snoc_fl i t (.nd j2 u2 k2 n2) e d h
  have e1 : snoc i t e (.nd j u k (.nd j2 u2 k2 n2)) = .nd j u k (snoc i t e (.nd j2 u2 k2 n2)) := by cases e <;> rfl
  rw [e1]
  simp only [Fo.fl] at this ⊢
  rw [this]
  simp
theorem snoc_ids (i : Nat) (t : ByteArray) : ∀ (G : Fo) (e : Nat), (snoc i t e G).ids = G.ids ++ [i]
 | .nil, e => by simp [snoc, Fo.ids]
 | .nd j u k .nil, 0 => by simp [snoc, Fo.ids]
 | .nd j u k .nil, e + 1 => by simp [snoc, Fo.ids, snoc_ids i t k e]
 | .nd j u k (.nd j2 u2 k2 n2), e => by
  have e1 : snoc i t e (.nd j u k (.nd j2 u2 k2 n2)) = .nd j u k (snoc i t e (.nd j2 u2 k2 n2)) := by cases e <;> rfl
  rw [e1]
  show j :: (k.ids ++ (snoc i t e (.nd j2 u2 k2 n2)).ids) = _
  rw [snoc_ids i t (.nd j2 u2 k2 n2) e]
  simp [Fo.ids]
theorem snoc_tops (i : Nat) (t : ByteArray) : ∀ (G : Fo) (e : Nat), e ≤ dpth G → (snoc i t e G).tops = if e = 0 then G.tops ++ [i] else G.tops
 | .nil, e, h => by
  have : e = 0 := by simpa [dpth] using h
  subst this
  simp [snoc, Fo.tops]
 | .nd j u k .nil, 0, _ => by simp [snoc, Fo.tops]
 | .nd j u k .nil, e + 1, _ => by simp [snoc, Fo.tops]
 | .nd j u k (.nd j2 u2 k2 n2), e, h => by
  have e1 : snoc i t e (.nd j u k (.nd j2 u2 k2 n2)) = .nd j u k (snoc i t e (.nd j2 u2 k2 n2)) := by cases e <;> rfl
  rw [e1]
  show j :: (snoc i t e (.nd j2 u2 k2 n2)).tops = _
  rw [snoc_tops i t (.nd j2 u2 k2 n2) e h]
  by_cases he : e = 0 <;> simp [he, Fo.tops]
theorem dpth_nd {j : Nat} {u : ByteArray} {k n : Fo} (h : ∃ a b c d, n = .nd a b c d) : dpth (.nd j u k n) = dpth n := by
 obtain ⟨a, b, c, d, rfl⟩ := h
 rfl
theorem sp_nd {e j : Nat} {u : ByteArray} {k n : Fo} (h : ∃ a b c d, n = .nd a b c d) : sp e (.nd j u k n) = sp e n := by
 obtain ⟨a, b, c, d, rfl⟩ := h
 cases e <;> rfl
theorem snoc_dpth (i : Nat) (t : ByteArray) : ∀ (G : Fo) (e : Nat), e ≤ dpth G → dpth (snoc i t e G) = e + 1
 | .nil, e, h => by
  have : e = 0 := by simpa [dpth] using h
  subst this
  rfl
 | .nd j u k .nil, 0, _ => rfl
 | .nd j u k .nil, e + 1, h => by
  show dpth (.nd j u (snoc i t e k) .nil) = _
  show dpth (snoc i t e k) + 1 = _
  rw [snoc_dpth i t k e (by simp only [dpth] at h; omega)]
 | .nd j u k (.nd j2 u2 k2 n2), e, h => by
  have e1 : snoc i t e (.nd j u k (.nd j2 u2 k2 n2)) = .nd j u k (snoc i t e (.nd j2 u2 k2 n2)) := by cases e <;> rfl
  rw [e1, dpth_nd (snoc_ne i t e _)]
  exact snoc_dpth i t (.nd j2 u2 k2 n2) e h
theorem snoc_sp (i : Nat) (t : ByteArray) : ∀ (G : Fo) (e : Nat), e ≤ dpth G → sp e (snoc i t e G) = i ∧ ∀ d, d < e → sp d (snoc i t e G) = sp d G
 | .nil, e, h => by
  have : e = 0 := by simpa [dpth] using h
  subst this
  exact ⟨rfl, fun d hd => by omega⟩
 | .nd j u k .nil, 0, _ => ⟨rfl, fun d hd => by omega⟩
 | .nd j u k .nil, e + 1, h => by
  obtain ⟨h1, h2⟩ := snoc_sp i t k e (by simp only [dpth] at h; omega)
  refine ⟨h1, fun d hd => ?_⟩
  cases d with
  | zero => rfl
  | succ d => exact h2 d (by omega)
 | .nd j u k (.nd j2 u2 k2 n2), e, h => by
  have e1 : snoc i t e (.nd j u k (.nd j2 u2 k2 n2)) = .nd j u k (snoc i t e (.nd j2 u2 k2 n2)) := by cases e <;> rfl
  obtain ⟨h1, h2⟩ := snoc_sp i t (.nd j2 u2 k2 n2) e h
  rw [e1]
  refine ⟨(sp_nd (snoc_ne i t e _)).trans h1, fun d hd => ?_⟩
  rw [sp_nd (snoc_ne i t e _), h2 d hd]
  exact (sp_nd ⟨_, _, _, _, rfl⟩).symm
theorem sp_mem : ∀ (G : Fo) (e : Nat), e < dpth G → sp e G ∈ G.ids
 | .nil, e, h => by simp [dpth] at h
 | .nd j u k .nil, 0, _ => by simp [sp, Fo.ids]
 | .nd j u k .nil, e + 1, h => by
  have := sp_mem k e (by simp only [dpth] at h; omega)
  show sp e k ∈ _
  simp [Fo.ids, this]
 | .nd j u k (.nd j2 u2 k2 n2), e, h => by
  have := sp_mem (.nd j2 u2 k2 n2) e h
  rw [sp_nd ⟨_, _, _, _, rfl⟩]
  show _ ∈ j :: (k.ids ++ (Fo.nd j2 u2 k2 n2).ids)
  simp only [List.mem_cons, List.mem_append]
  exact Or.inr (Or.inr this)
theorem rep_sp {h : Nat → Nd} : ∀ (G : Fo) {up : Nat} (e : Nat), Rep h up G → e < dpth G → (h (sp e G)).up = if e = 0 then up else sp (e - 1) G
 | .nil, up, e, _, hl => by simp [dpth] at hl
 | .nd j u k .nil, up, 0, ⟨h1, h2, h3, h4⟩, _ => by show (h j).up = _; rw [h2]; rfl
 | .nd j u k .nil, up, e + 1, ⟨h1, h2, h3, h4⟩, hl => by
  have := rep_sp k e h3 (by simp only [dpth] at hl; omega)
  show (h (sp e k)).up = _
  rw [this, if_neg (by omega : ¬ e + 1 = 0)]
  cases e with
  | zero => rfl
  | succ e => rfl
 | .nd j u k (.nd j2 u2 k2 n2), up, e, ⟨h1, h2, h3, h4⟩, hl => by
  have := rep_sp (.nd j2 u2 k2 n2) e h4 hl
  rw [sp_nd ⟨_, _, _, _, rfl⟩, sp_nd ⟨_, _, _, _, rfl⟩]
  exact this
theorem reptop_sp {h : Nat → Nd} : ∀ (G : Fo) (e : Nat), RepTop h G → e + 1 < dpth G → (h (sp (e + 1) G)).up = sp e G
 | .nil, e, _, hl => by simp [dpth] at hl
 | .nd j u k .nil, e, ⟨h1, h2, h3, h4⟩, hl => by
  have := rep_sp k e h3 (by simp only [dpth] at hl; omega)
  show (h (sp e k)).up = _
  rw [this]
  cases e with
  | zero => rfl
  | succ e => rfl
 | .nd j u k (.nd j2 u2 k2 n2), e, ⟨h1, h2, h3, h4⟩, hl => by
  have := reptop_sp (.nd j2 u2 k2 n2) e h4 hl
  rw [sp_nd ⟨_, _, _, _, rfl⟩, sp_nd ⟨_, _, _, _, rfl⟩]
  exact this
theorem sp_not_top : ∀ (G : Fo) (e : Nat), G.ids.Nodup → e + 1 < dpth G → sp (e + 1) G ∉ G.tops
 | .nil, e, _, hl => by simp [dpth] at hl
 | .nd j u k .nil, e, hn, hl => by
  obtain ⟨n1, n2, n3, n4, n5⟩ := nodup_nd hn
  have hm := sp_mem k e (by simp only [dpth] at hl; omega)
  show sp e k ∉ [j]
  intro hc
  rw [List.mem_singleton.1 hc] at hm
  exact n1 hm
 | .nd j u k (.nd j2 u2 k2 n2), e, hn, hl => by
  obtain ⟨n1, m2, n3, n4, n5⟩ := nodup_nd hn
  have := sp_not_top (.nd j2 u2 k2 n2) e n4 hl
  have hm := sp_mem (.nd j2 u2 k2 n2) (e + 1) hl
  rw [sp_nd ⟨_, _, _, _, rfl⟩]
  intro hc
  rcases List.mem_cons.1 hc with hc | hc
  ·rw [hc] at hm; exact m2 hm
  ·exact this hc
theorem snoc_after (i : Nat) (t : ByteArray) : ∀ (G : Fo) (e : Nat), G.ids.Nodup → e < dpth G → snoc i t e G = insAfter (sp e G) i t .nil G
 | .nil, e, _, hl => by simp [dpth] at hl
 | .nd j u k .nil, 0, hn, _ => by
  show Fo.nd j u k (.nd i t .nil .nil) = insAfter j i t .nil (.nd j u k .nil)
  unfold insAfter
  rw [if_pos rfl]
 | .nd j u k .nil, e + 1, hn, hl => by
  obtain ⟨n1, n2, n3, n4, n5⟩ := nodup_nd hn
  have hl' : e < dpth k := by simp only [dpth] at hl; omega
  have hm := sp_mem k e hl'
  show Fo.nd j u (snoc i t e k) .nil = insAfter (sp e k) i t .nil (.nd j u k .nil)
  unfold insAfter
  rw [if_neg (fun (e2 : j = sp e k) => n1 (e2 ▸ hm)), snoc_after i t k e n3 hl']
  rfl
 | .nd j u k (.nd j2 u2 k2 n2), e, hn, hl => by
  obtain ⟨n1, n2', n3, n4, n5⟩ := nodup_nd hn
  have e1 : snoc i t e (.nd j u k (.nd j2 u2 k2 n2)) = .nd j u k (snoc i t e (.nd j2 u2 k2 n2)) := by cases e <;> rfl
  have hm := sp_mem (.nd j2 u2 k2 n2) e hl
  have e2 : sp e (.nd j u k (.nd j2 u2 k2 n2)) = sp e (.nd j2 u2 k2 n2) := sp_nd ⟨_, _, _, _, rfl⟩
  rw [e1, e2, snoc_after i t _ e n4 hl]
  have e3 : insAfter (sp e (.nd j2 u2 k2 n2)) i t .nil (.nd j u k (.nd j2 u2 k2 n2)) = .nd j u (insAfter (sp e (.nd j2 u2 k2 n2)) i t .nil k) (insAfter (sp e (.nd j2 u2 k2 n2)) i t .nil (.nd j2 u2 k2 n2)) := by
   conv => lhs; unfold insAfter
   rw [if_neg (fun (e2 : j = sp e (.nd j2 u2 k2 n2)) => n2' (e2 ▸ hm))]
  rw [e3, insAfter_id _ i t .nil (fun hk => n5 _ hk hm)]
theorem snoc_first (i : Nat) (t : ByteArray) : ∀ (G : Fo) (e : Nat), G.ids.Nodup → dpth G = e + 1 → snoc i t (e + 1) G = insFirst (sp e G) i t .nil G
 | .nil, e, _, hl => by simp [dpth] at hl
 | .nd j u k .nil, 0, hn, hl => by
  have : dpth k = 0 := by simp only [dpth] at hl; omega
  have hk : k = .nil := by
   cases k with
   | nil => rfl
   | nd a b c d =>
    exfalso
    have : ∀ (F : Fo), dpth F = 0 → F = .nil := by
     intro F
     induction F with
     | nil => intro _; rfl
     | nd a b c d _ ihd =>
      intro h0
      cases d with
      | nil => simp [dpth] at h0
      | nd a2 b2 c2 d2 =>
       have := ihd (by simpa [dpth] using h0)
       cases this
    have h3 := this _ ‹dpth (Fo.nd a b c d) = 0›
    cases h3
  subst hk
  show Fo.nd j u (.nd i t .nil .nil) .nil = insFirst j i t .nil (.nd j u .nil .nil)
  unfold insFirst
  rw [if_pos rfl]
 | .nd j u k .nil, e + 1, hn, hl => by
  obtain ⟨n1, n2, n3, n4, n5⟩ := nodup_nd hn
  have hl' : dpth k = e + 1 := by simp only [dpth] at hl; omega
  have hm := sp_mem k e (by omega)
  show Fo.nd j u (snoc i t (e + 1) k) .nil = insFirst (sp e k) i t .nil (.nd j u k .nil)
  unfold insFirst
  rw [if_neg (fun (e2 : j = sp e k) => n1 (e2 ▸ hm)), snoc_first i t k e n3 hl']
  rfl
 | .nd j u k (.nd j2 u2 k2 n2), e, hn, hl => by
  obtain ⟨n1, n2', n3, n4, n5⟩ := nodup_nd hn
  have e1 : snoc i t (e + 1) (.nd j u k (.nd j2 u2 k2 n2)) = .nd j u k (snoc i t (e + 1) (.nd j2 u2 k2 n2)) := rfl
  have hl' : dpth (.nd j2 u2 k2 n2) = e + 1 := hl
  have hm := sp_mem (.nd j2 u2 k2 n2) e (by omega)
  have e2 : sp e (.nd j u k (.nd j2 u2 k2 n2)) = sp e (.nd j2 u2 k2 n2) := sp_nd ⟨_, _, _, _, rfl⟩
  rw [e1, e2, snoc_first i t _ e n4 hl']
  have e3 : insFirst (sp e (.nd j2 u2 k2 n2)) i t .nil (.nd j u k (.nd j2 u2 k2 n2)) = .nd j u (insFirst (sp e (.nd j2 u2 k2 n2)) i t .nil k) (insFirst (sp e (.nd j2 u2 k2 n2)) i t .nil (.nd j2 u2 k2 n2)) := by
   conv => lhs; unfold insFirst
   rw [if_neg (fun (e2 : j = sp e (.nd j2 u2 k2 n2)) => n2' (e2 ▸ hm))]
  rw [e3, insFirst_id _ i t .nil (fun hk => n5 _ hk hm)]
theorem reptop_snoc0 {h : Nat → Nd} {i : Nat} {t : ByteArray} (h0 : i ≠ 0) (hi : h i = ⟨t, 0, 0, 0⟩) : ∀ (G : Fo), RepTop h G → RepTop h (snoc i t 0 G)
 | .nil, _ => ⟨h0, hi, trivial, trivial⟩
 | .nd j u k .nil, ⟨h1, h2, h3, h4⟩ => ⟨h1, h2, h3, h0, hi, trivial, trivial⟩
 | .nd j u k (.nd j2 u2 k2 n2), ⟨h1, h2, h3, h4⟩ => ⟨h1, h2, h3, reptop_snoc0 h0 hi _ h4⟩
end Go.Proofs.YtkopimbbgckcnaaDoor.FP
namespace Go.Proofs.YtkopimbbgckcnaaDoor.P
open Go.RowKit Go.Proofs.YtkopimbbgckcnaaDoorW.PrintWords Go.Proofs.YtkopimbbgckcnaaDoorW.PrintLast Go.Proofs.YtkopimbbgckcnaaDoorW.PrintMore Go.Proofs.YtkopimbbgckcnaaDoor.FP
def pa (o : Option Nat) : Option Addr := o.map fun b => ⟨b, 0, none⟩
theorem pa_none : pa none = none := rfl
theorem pa_some (b : Nat) : pa (some b) = some ⟨b, 0, none⟩ := rfl
theorem pa_inj {o o' : Option Nat} (h : pa o = pa o') : o = o' := by
 cases o <;> cases o' <;> simp [pa] at h ⊢
 exact h
def nodeC (A : Nat → Option Nat) (i : Nat) (x : Nd) : Array Value := #[.int .i64 (i : Int), .string x.t, .pointer (pa (A x.up)), .pointer (pa (A x.first)), .pointer (pa (A x.next))]
def tabC (A : Nat → Option Nat) : Array Value := ((List.range 37).map fun i => Value.pointer (pa (A i))).toArray
structure Mem (w : World) (n0 F : Nat) (A : Nat → Option Nat) (h : Nat → Nd) : Prop where
 z : A 0 = none
 rng : ∀ i b, A i = some b → i < 37
 inj : ∀ i j b, A i = some b → A j = some b → i = j
 ne : ∀ i b, A i = some b → b ≠ F
 lo : ∀ i b, A i = some b → n0 ≤ b
 loF : n0 ≤ F
 tab : w.heap[F]? = some (.cells (tabC A) 95 (0, 0))
 nod : ∀ i b, A i = some b → w.heap[b]? = some (.cells (nodeC A i (h i)) 80 (0, 0))
 cu : ∀ i, A i ≠ none → (h i).up = 0 ∨ A (h i).up ≠ none
 cf : ∀ i, A i ≠ none → (h i).first = 0 ∨ A (h i).first ≠ none
 cn : ∀ i, A i ≠ none → (h i).next = 0 ∨ A (h i).next ≠ none
theorem Mem.kept {w w' : World} {n0 F : Nat} {A : Nat → Option Nat} {h : Nat → Nd} (m : Mem w n0 F A h) (hk : ∀ b, b < w.heap.size → w'.heap[b]? = w.heap[b]?) : Mem w' n0 F A h :=
 { m with tab := (hk F (blk_lt m.tab)).trans m.tab, nod := fun i b e => (hk b (blk_lt (m.nod i b e))).trans (m.nod i b e) }
theorem Mem.below {w w' : World} {n0 F : Nat} {A : Nat → Option Nat} {h : Nat → Nd} (m : Mem w n0 F A h) (hb : Below w.heap.size w w') : Mem w' n0 F A h := m.kept fun b hl => hb.block b hl
theorem Mem.alloc {w : World} {n0 F : Nat} {A : Nat → Option Nat} {h : Nat → Nd} (m : Mem w n0 F A h) (o : Obj) : Mem (w.alloc o) n0 F A h := m.kept fun b hl => Below.heap_alloc w o b hl
theorem Mem.drew {w : World} {n0 F : Nat} {A : Nat → Option Nat} {h : Nat → Nd} (m : Mem w n0 F A h) : Mem w.drew n0 F A h := m.kept fun _ _ => rfl
theorem Mem.drewN {w : World} {n0 F : Nat} {A : Nat → Option Nat} {h : Nat → Nd} (m : Mem w n0 F A h) (n : Nat) : Mem (w.drewN n) n0 F A h := m.kept fun _ _ => rfl
theorem Mem.lt {w : World} {n0 F : Nat} {A : Nat → Option Nat} {h : Nat → Nd} (m : Mem w n0 F A h) {i b : Nat} (e : A i = some b) : b < w.heap.size := blk_lt (m.nod i b e)
theorem Mem.ltF {w : World} {n0 F : Nat} {A : Nat → Option Nat} {h : Nat → Nd} (m : Mem w n0 F A h) : F < w.heap.size := blk_lt m.tab
theorem Mem.c0 {w : World} {n0 F : Nat} {A : Nat → Option Nat} {h : Nat → Nd} (m : Mem w n0 F A h) {i b : Nat} (e : A i = some b) : w.cell? ⟨b, 0, none⟩ = some (.int .i64 (i : Int)) := (blk_cell (m.nod i b e) 0).trans rfl
theorem Mem.c1 {w : World} {n0 F : Nat} {A : Nat → Option Nat} {h : Nat → Nd} (m : Mem w n0 F A h) {i b : Nat} (e : A i = some b) : w.cell? ⟨b, 1, none⟩ = some (.string (h i).t) := (blk_cell (m.nod i b e) 1).trans rfl
theorem Mem.c2 {w : World} {n0 F : Nat} {A : Nat → Option Nat} {h : Nat → Nd} (m : Mem w n0 F A h) {i b : Nat} (e : A i = some b) : w.cell? ⟨b, 2, none⟩ = some (.pointer (pa (A (h i).up))) := (blk_cell (m.nod i b e) 2).trans rfl
theorem Mem.c3 {w : World} {n0 F : Nat} {A : Nat → Option Nat} {h : Nat → Nd} (m : Mem w n0 F A h) {i b : Nat} (e : A i = some b) : w.cell? ⟨b, 3, none⟩ = some (.pointer (pa (A (h i).first))) := (blk_cell (m.nod i b e) 3).trans rfl
theorem Mem.c4 {w : World} {n0 F : Nat} {A : Nat → Option Nat} {h : Nat → Nd} (m : Mem w n0 F A h) {i b : Nat} (e : A i = some b) : w.cell? ⟨b, 4, none⟩ = some (.pointer (pa (A (h i).next))) := (blk_cell (m.nod i b e) 4).trans rfl
theorem Mem.fz {w : World} {n0 F : Nat} {A : Nat → Option Nat} {h : Nat → Nd} (m : Mem w n0 F A h) {i b : Nat} (e : A i = some b) (j : Nat) : w.frozen? ⟨b, j, none⟩ = false := blk_frozen (m.nod i b e) j
theorem Mem.fzF {w : World} {n0 F : Nat} {A : Nat → Option Nat} {h : Nat → Nd} (m : Mem w n0 F A h) (j : Nat) : w.frozen? ⟨F, j, none⟩ = false := blk_frozen m.tab j
theorem tabC_get (A : Nat → Option Nat) (i : Nat) (hi : i < 37) : (tabC A)[i]? = some (.pointer (pa (A i))) := by
 simp [tabC, hi]
theorem Mem.cF {w : World} {n0 F : Nat} {A : Nat → Option Nat} {h : Nat → Nd} (m : Mem w n0 F A h) (i : Nat) (hi : i < 37) : w.cell? ⟨F, i, none⟩ = some (.pointer (pa (A i))) := (blk_cell m.tab i).trans (tabC_get A i hi)
theorem Mem.eqv {w : World} {n0 F : Nat} {A : Nat → Option Nat} {h : Nat → Nd} (m : Mem w n0 F A h) {i j : Nat} (hi : i = 0 ∨ A i ≠ none) (hj : j = 0 ∨ A j ≠ none) : pa (A i) = pa (A j) ↔ i = j := by
 constructor
 ·intro e
  have e := pa_inj e
  rcases hi with rfl | hi
  ·rcases hj with rfl | hj
   ·rfl
   ·rw [m.z] at e; exact absurd e.symm hj
  ·obtain ⟨b, hb⟩ := Option.ne_none_iff_exists'.1 hi
   exact m.inj i j b hb (e ▸ hb)
 ·intro e; rw [e]
def upN (h : Nat → Nd) (i : Nat) (x : Nd) : Nat → Nd := fun j => if j = i then x else h j
theorem Mem.set {w : World} {n0 F : Nat} {A : Nat → Option Nat} {h : Nat → Nd} (m : Mem w n0 F A h) {i b : Nat} (e : A i = some b) (k : Nat) (v : Value) (x : Nd) (hx : (nodeC A i (h i)).setIfInBounds k v = nodeC A i x)
  (xu : x.up = 0 ∨ A x.up ≠ none) (xf : x.first = 0 ∨ A x.first ≠ none) (xn : x.next = 0 ∨ A x.next ≠ none) : Mem (w.setCell ⟨b, k, none⟩ v) n0 F A (upN h i x) where
 z := m.z
 rng := m.rng
 inj := m.inj
 ne := m.ne
 lo := m.lo
 loF := m.loF
 tab := blk_far m.tab (fun e2 => m.ne i b e e2.symm) v
 nod := fun j c ec => by
  unfold upN
  by_cases hj : j = i
  ·subst hj
   obtain rfl : c = b := by rw [e] at ec; exact (Option.some.inj ec).symm
   rw [if_pos rfl, ← hx]
   exact blk_set (m.nod j c e) k v
  ·rw [if_neg hj]
   exact blk_far (m.nod j c ec) (fun (e2 : c = b) => hj (m.inj j i c ec (e2 ▸ e))) v
 cu := fun j hj => by unfold upN; split; exact xu; exact m.cu j hj
 cf := fun j hj => by unfold upN; split; exact xf; exact m.cf j hj
 cn := fun j hj => by unfold upN; split; exact xn; exact m.cn j hj
theorem Mem.ext {w : World} {n0 F : Nat} {A : Nat → Option Nat} {h h' : Nat → Nd} (m : Mem w n0 F A h) (e : ∀ j, h j = h' j) : Mem w n0 F A h' := (funext e : h = h') ▸ m
def upA (A : Nat → Option Nat) (i b : Nat) : Nat → Option Nat := fun j => if j = i then some b else A j
theorem tabC_up (A : Nat → Option Nat) (i b : Nat) (hi : i < 37) : (tabC A).setIfInBounds i (.pointer (some ⟨b, 0, none⟩)) = tabC (upA A i b) := by
 unfold tabC
 rw [List.setIfInBounds_toArray]
 congr 1
 apply List.ext_getElem (by simp)
 intro k h1 h2
 simp only [List.getElem_set, List.getElem_map, List.getElem_range, upA]
 by_cases hk : i = k
 ·rw [if_pos hk, if_pos hk.symm]; rfl
 ·rw [if_neg hk, if_neg (fun e => hk e.symm)]
theorem Mem.add {w : World} {n0 F : Nat} {A : Nat → Option Nat} {h : Nat → Nd} (m : Mem w n0 F A h) {i : Nat} (h0 : i ≠ 0) (hi : i < 37) (hA : A i = none) (hne : ∀ j, A j ≠ none → (h j).up ≠ i ∧ (h j).first ≠ i ∧ (h j).next ≠ i) {b : Nat} {t : ByteArray} (hb : ∀ j, A j ≠ some b) (hbF : b ≠ F) (hlo : n0 ≤ b)
  (hnew : w.heap[b]? = some (.cells #[.int .i64 (i : Int), .string t, .pointer none, .pointer none, .pointer none] 80 (0, 0))) :
  Mem (w.setCell ⟨F, i, none⟩ (.pointer (some ⟨b, 0, none⟩))) n0 F (upA A i b) (upN h i ⟨t, 0, 0, 0⟩) where
 z := by unfold upA; rw [if_neg (fun e => h0 e.symm)]; exact m.z
 rng := fun j c e => by
  unfold upA at e
  by_cases hj : j = i
  ·rw [hj]; exact hi
  ·rw [if_neg hj] at e; exact m.rng j c e
 inj := fun j k c ej ek => by
  unfold upA at ej ek
  by_cases hj : j = i
  ·by_cases hk : k = i
   ·rw [hj, hk]
   ·rw [if_pos hj] at ej; rw [if_neg hk] at ek
    exact absurd (ek.trans ej.symm) (hb k)
  ·by_cases hk : k = i
   ·rw [if_neg hj] at ej; rw [if_pos hk] at ek
    exact absurd (ej.trans ek.symm) (hb j)
   ·rw [if_neg hj] at ej; rw [if_neg hk] at ek
    exact m.inj j k c ej ek
 ne := fun j c e => by
  unfold upA at e
  by_cases hj : j = i
  ·rw [if_pos hj] at e; rw [← Option.some.inj e]; exact hbF
  ·rw [if_neg hj] at e; exact m.ne j c e
 lo := fun j c e => by
  unfold upA at e
  by_cases hj : j = i
  ·rw [if_pos hj] at e; rw [← Option.some.inj e]; exact hlo
  ·rw [if_neg hj] at e; exact m.lo j c e
 loF := m.loF
 tab := by
  rw [← tabC_up A i b hi]
  exact blk_set m.tab i _
 nod := fun j c e => by
  have hF : ∀ {c : Nat} {cs : Array Value} {t : TypeId}, c ≠ F → w.heap[c]? = some (.cells cs t (0, 0)) → (w.setCell ⟨F, i, none⟩ (.pointer (some ⟨b, 0, none⟩))).heap[c]? = some (.cells cs t (0, 0)) := fun hc hh => blk_far hh (p := ⟨F, i, none⟩) hc _
  unfold upA at e
  by_cases hj : j = i
  ·rw [if_pos hj] at e
   obtain rfl := Option.some.inj e
   subst hj
   have : nodeC (upA A j b) j (upN h j ⟨t, 0, 0, 0⟩ j) = #[.int .i64 (j : Int), .string t, .pointer none, .pointer none, .pointer none] := by
    have h0' : ¬ (0 = j) := fun e => h0 e.symm
    simp [nodeC, upN, upA, h0', m.z, pa]
   rw [this]
   exact hF hbF hnew
  ·rw [if_neg hj] at e
   have hn := m.nod j c e
   have e2 : nodeC (upA A i b) j (upN h i ⟨t, 0, 0, 0⟩ j) = nodeC A j (h j) := by
    obtain ⟨n1, n2, n3⟩ := hne j (by rw [e]; simp)
    unfold nodeC upN upA
    rw [if_neg hj, if_neg n1, if_neg n2, if_neg n3]
   rw [e2]
   exact hF (m.ne j c e) hn
 cu := fun j hj => by
  unfold upN
  by_cases hji : j = i
  ·rw [if_pos hji]; exact Or.inl rfl
  ·rw [if_neg hji]
   have hj' : A j ≠ none := by unfold upA at hj; rw [if_neg hji] at hj; exact hj
   rcases m.cu j hj' with h1 | h1
   ·exact Or.inl h1
   ·right; unfold upA; split; simp; exact h1
 cf := fun j hj => by
  unfold upN
  by_cases hji : j = i
  ·rw [if_pos hji]; exact Or.inl rfl
  ·rw [if_neg hji]
   have hj' : A j ≠ none := by unfold upA at hj; rw [if_neg hji] at hj; exact hj
   rcases m.cf j hj' with h1 | h1
   ·exact Or.inl h1
   ·right; unfold upA; split; simp; exact h1
 cn := fun j hj => by
  unfold upN
  by_cases hji : j = i
  ·rw [if_pos hji]; exact Or.inl rfl
  ·rw [if_neg hji]
   have hj' : A j ≠ none := by unfold upA at hj; rw [if_neg hji] at hj; exact hj
   rcases m.cn j hj' with h1 | h1
   ·exact Or.inl h1
   ·right; unfold upA; split; simp; exact h1
theorem nodeSize : (Tryd.prog.info? 80).map (·.size) = some 5 := by kernel_rfl
theorem equalS (a : Addr) (w : World) : (Op.equal 74 (.pointer (some a)) (.pointer (some a))).run Tryd.prog w = .ok true w := by
 obtain ⟨j, hj, hjs⟩ := Option.map_eq_some_iff.1 nodeSize
 have h : ∀ d : Nat, (Op.equalIn (d + 1) 74 (.pointer (some a)) (.pointer (some a))).run Tryd.prog w = .ok true w := fun d => by
  simp [Op.equalIn, run_underlying Tryd.underlying74, sizeOf, typeInfo, hj, run_sameAddr_same]
 simp [Op.equal, Op.maxDepth, h 9999]
theorem equalO {a b : Addr} {ca cb : Array Value} {ta tb : TypeId} (w : World) (hne : a ≠ b) (ha : w.heap[a.block]? = some (.cells ca ta (0, 0))) (hb : w.heap[b.block]? = some (.cells cb tb (0, 0))) :
  (Op.equal 74 (.pointer (some a)) (.pointer (some b))).run Tryd.prog w = .ok false w := by
 obtain ⟨j, hj, hjs⟩ := Option.map_eq_some_iff.1 nodeSize
 have hsz : j.size ≠ 0 := by rw [hjs]; decide
 have h : ∀ d : Nat, (Op.equalIn (d + 1) 74 (.pointer (some a)) (.pointer (some b))).run Tryd.prog w = .ok false w := fun d => by
  simp [Op.equalIn, run_underlying Tryd.underlying74, sizeOf, typeInfo, hj, hsz, run_sameAddr_other w hne ha hb]
 simp [Op.equal, Op.maxDepth, h 9999]
theorem eqS (a : Addr) (w : World) : (binOp .eql 74 (.pointer (some a)) (.pointer (some a))).run Tryd.prog w = .ok (.bool true) w := by
 simp only [binOp]; simp [equalS]
theorem neS (a : Addr) (w : World) : (binOp .neq 74 (.pointer (some a)) (.pointer (some a))).run Tryd.prog w = .ok (.bool false) w := by
 simp only [binOp]; simp [equalS]
theorem eqO {a b : Addr} {ca cb : Array Value} {ta tb : TypeId} (w : World) (hne : a ≠ b) (ha : w.heap[a.block]? = some (.cells ca ta (0, 0))) (hb : w.heap[b.block]? = some (.cells cb tb (0, 0))) :
  (binOp .eql 74 (.pointer (some a)) (.pointer (some b))).run Tryd.prog w = .ok (.bool false) w := by
 simp only [binOp]; simp [equalO w hne ha hb]
theorem neO {a b : Addr} {ca cb : Array Value} {ta tb : TypeId} (w : World) (hne : a ≠ b) (ha : w.heap[a.block]? = some (.cells ca ta (0, 0))) (hb : w.heap[b.block]? = some (.cells cb tb (0, 0))) :
  (binOp .neq 74 (.pointer (some a)) (.pointer (some b))).run Tryd.prog w = .ok (.bool true) w := by
 simp only [binOp]; simp [equalO w hne ha hb]
theorem blk_ne {b c : Nat} (h : b ≠ c) : (⟨b, 0, none⟩ : Addr) ≠ ⟨c, 0, none⟩ := fun e => h (congrArg Addr.block e)
theorem Mem.eqn {w : World} {n0 F : Nat} {A : Nat → Option Nat} {h : Nat → Nd} (m : Mem w n0 F A h) {i j b c : Nat} (hi : A i = some b) (hj : A j = some c) (hne : i ≠ j) : (binOp .eql 74 (.pointer (some ⟨b, 0, none⟩)) (.pointer (some ⟨c, 0, none⟩))).run Tryd.prog w = .ok (.bool false) w :=
 eqO w (blk_ne fun e => hne (m.inj i j b hi (e ▸ hj))) (m.nod i b hi) (m.nod j c hj)
theorem Mem.nen {w : World} {n0 F : Nat} {A : Nat → Option Nat} {h : Nat → Nd} (m : Mem w n0 F A h) {i j b c : Nat} (hi : A i = some b) (hj : A j = some c) (hne : i ≠ j) : (binOp .neq 74 (.pointer (some ⟨b, 0, none⟩)) (.pointer (some ⟨c, 0, none⟩))).run Tryd.prog w = .ok (.bool true) w :=
 neO w (blk_ne fun e => hne (m.inj i j b hi (e ▸ hj))) (m.nod i b hi) (m.nod j c hj)
def findA (A : Nat → Option Nat) (id : Int) : Option Nat := if 0 ≤ id ∧ id < 37 then A id.toNat else none
theorem find_any {w : World} {n0 F : Nat} {A : Nat → Option Nat} {h : Nat → Nd} (m : Mem w n0 F A h) (id : Int) :
  Calls Tryd.prog 55 #[.pointer (some ⟨F, 0, none⟩), .int .i64 id] w fun e w' => e = .returned (.pointer (pa (findA A id))) ∧ w' = w := by
 unfold findA
 by_cases h0 : id < 0
 ·rw [if_neg (by omega)]
  have hd : decide (id < 0) = true := decide_eq_true h0
  go_enter Tryd.func55, Tryd.ntmps55
  go_wp2
  go_ret
  exact ⟨rfl, rfl⟩
 ·by_cases h1 : 37 ≤ id
  ·rw [if_neg (by omega)]
   have hd : decide (id < 0) = false := decide_eq_false h0
   have hd1 : decide (37 ≤ id) = true := decide_eq_true h1
   go_enter Tryd.func55, Tryd.ntmps55
   go_wp2
   go_ret
   exact ⟨rfl, rfl⟩
  ·rw [if_pos (by omega)]
   obtain ⟨i, rfl⟩ := Int.eq_ofNat_of_zero_le (show 0 ≤ id by omega)
   have hd : decide ((i : Int) < 0) = false := decide_eq_false h0
   have hd1 : decide (37 ≤ (i : Int)) = false := decide_eq_false h1
   have hc := m.cF i (by omega)
   have hi : (i : Int) < 37 := by omega
   have hi0 : 0 ≤ (i : Int) := by omega
   rw [Int.toNat_natCast]
   go_enter Tryd.func55, Tryd.ntmps55
   go_wp2
   go_ret
   exact ⟨rfl, rfl⟩
theorem idOf_any {w : World} {n0 F : Nat} {A : Nat → Option Nat} {h : Nat → Nd} (m : Mem w n0 F A h) (i : Nat) (hi : i = 0 ∨ A i ≠ none) :
  Calls Tryd.prog 58 #[.pointer (pa (A i))] w fun e w' => e = .returned (.int .i64 (i : Int)) ∧ w' = w := by
 rcases hi with rfl | hi
 ·rw [m.z, pa_none]
  go_enter Tryd.func58, Tryd.ntmps58
  go_wp2
  go_ret
  exact ⟨rfl, rfl⟩
 ·obtain ⟨b, hb⟩ := Option.ne_none_iff_exists'.1 hi
  have hc := m.c0 hb
  rw [hb, pa_some]
  go_enter Tryd.func58, Tryd.ntmps58
  go_wp2
  go_ret
  exact ⟨rfl, rfl⟩
theorem nodeC_2 (A : Nat → Option Nat) (i : Nat) (x : Nd) (u : Nat) : (nodeC A i x).setIfInBounds 2 (.pointer (pa (A u))) = nodeC A i ⟨x.t, u, x.first, x.next⟩ := rfl
theorem nodeC_3 (A : Nat → Option Nat) (i : Nat) (x : Nd) (u : Nat) : (nodeC A i x).setIfInBounds 3 (.pointer (pa (A u))) = nodeC A i ⟨x.t, x.up, u, x.next⟩ := rfl
theorem nodeC_4 (A : Nat → Option Nat) (i : Nat) (x : Nd) (u : Nat) : (nodeC A i x).setIfInBounds 4 (.pointer (pa (A u))) = nodeC A i ⟨x.t, x.up, x.first, u⟩ := rfl
theorem nodeC_1 (A : Nat → Option Nat) (i : Nat) (x : Nd) (t : ByteArray) : (nodeC A i x).setIfInBounds 1 (.string t) = nodeC A i ⟨t, x.up, x.first, x.next⟩ := rfl
theorem Mem.setU {w : World} {n0 F : Nat} {A : Nat → Option Nat} {h : Nat → Nd} (m : Mem w n0 F A h) {i b : Nat} (e : A i = some b) (u : Nat) (hu : u = 0 ∨ A u ≠ none) : Mem (w.setCell ⟨b, 2, none⟩ (.pointer (pa (A u)))) n0 F A (upN h i ⟨(h i).t, u, (h i).first, (h i).next⟩) :=
 m.set e 2 _ _ (nodeC_2 A i (h i) u) hu (m.cf i (by rw [e]; simp)) (m.cn i (by rw [e]; simp))
theorem Mem.setF {w : World} {n0 F : Nat} {A : Nat → Option Nat} {h : Nat → Nd} (m : Mem w n0 F A h) {i b : Nat} (e : A i = some b) (u : Nat) (hu : u = 0 ∨ A u ≠ none) : Mem (w.setCell ⟨b, 3, none⟩ (.pointer (pa (A u)))) n0 F A (upN h i ⟨(h i).t, (h i).up, u, (h i).next⟩) :=
 m.set e 3 _ _ (nodeC_3 A i (h i) u) (m.cu i (by rw [e]; simp)) hu (m.cn i (by rw [e]; simp))
theorem Mem.setN {w : World} {n0 F : Nat} {A : Nat → Option Nat} {h : Nat → Nd} (m : Mem w n0 F A h) {i b : Nat} (e : A i = some b) (u : Nat) (hu : u = 0 ∨ A u ≠ none) : Mem (w.setCell ⟨b, 4, none⟩ (.pointer (pa (A u)))) n0 F A (upN h i ⟨(h i).t, (h i).up, (h i).first, u⟩) :=
 m.set e 4 _ _ (nodeC_4 A i (h i) u) (m.cu i (by rw [e]; simp)) (m.cf i (by rw [e]; simp)) hu
theorem Mem.setT {w : World} {n0 F : Nat} {A : Nat → Option Nat} {h : Nat → Nd} (m : Mem w n0 F A h) {i b : Nat} (e : A i = some b) (t : ByteArray) : Mem (w.setCell ⟨b, 1, none⟩ (.string t)) n0 F A (upN h i ⟨t, (h i).up, (h i).first, (h i).next⟩) :=
 m.set e 1 _ _ (nodeC_1 A i (h i) t) (m.cu i (by rw [e]; simp)) (m.cf i (by rw [e]; simp)) (m.cn i (by rw [e]; simp))
theorem attach_first {w : World} {n0 F : Nat} {A : Nat → Option Nat} {h : Nat → Nd} (m : Mem w n0 F A h) {i u bi bu : Nat} (hi : A i = some bi) (hu : A u = some bu) (hne : u ≠ i) :
  Calls Tryd.prog 67 #[.pointer (some ⟨bi, 0, none⟩), .pointer (some ⟨bu, 0, none⟩), .pointer none] w fun e w' => (∃ v, e = .returned v) ∧ Mem w' n0 F A (attachH h i u 0) ∧ Below n0 w w' ∧ (∀ k, (∀ x, A x ≠ some k) → w'.heap[k]? = w.heap[k]?) := by
 have hnb : bu ≠ bi := fun e => hne (m.inj u i bu hu (e ▸ hi))
 have hnb' : bi ≠ bu := fun e => hnb e.symm
 have c3 := m.c3 hu
 have c4 := m.c4 hi
 have c2 := m.c2 hi
 have z2 := m.fz hi 2
 have z4 := m.fz hi 4
 have z3 := m.fz hu 3
 have M3 := Aside0.mk (((m.setU hi u (Or.inr (by rw [hu]; simp))).setN hi (h u).first (m.cf u (by rw [hu]; simp))).setF hu i (Or.inr (by rw [hi]; simp)))
 rw [hu, hi, pa_some, pa_some] at M3
 have L1 := m.lo i bi hi
 have L2 := m.lo u bu hu
 have HI := Aside0.mk hi
 have HU := Aside0.mk hu
 clear m hi hu
 go_enter Tryd.func67, Tryd.ntmps67
 go_wp2
 refine bodyPost_ret (results_none rfl _ _ _) rfl ?_
 refine ⟨⟨_, rfl⟩, M3.out.ext (fun j => ?_), (((Below.refl n0 w).setCell (p := ⟨bi, 2, none⟩) L1 _).setCell (p := ⟨bi, 4, none⟩) L1 _).setCell (p := ⟨bu, 3, none⟩) L2 _, fun k hk => by
  rw [Below.heap_setCell _ _ _ _ (fun e => hk u (by rw [HU.out, e])), Below.heap_setCell _ _ _ _ (fun e => hk i (by rw [HI.out, e])), Below.heap_setCell _ _ _ _ (fun e => hk i (by rw [HI.out, e]))]⟩
 unfold attachH upN
 by_cases e1 : j = u
 ·subst e1; simp [hne]
 ·by_cases e2 : j = i
  ·subst e2; simp [e1]
  ·simp [e1, e2]
theorem attach_behind {w : World} {n0 F : Nat} {A : Nat → Option Nat} {h : Nat → Nd} (m : Mem w n0 F A h) {i u a bi bu ba : Nat} (hi : A i = some bi) (hu : A u = some bu) (ha : A a = some ba) (hne : a ≠ i) :
  Calls Tryd.prog 67 #[.pointer (some ⟨bi, 0, none⟩), .pointer (some ⟨bu, 0, none⟩), .pointer (some ⟨ba, 0, none⟩)] w fun e w' => (∃ v, e = .returned v) ∧ Mem w' n0 F A (attachH h i u a) ∧ Below n0 w w' ∧ (∀ k, (∀ x, A x ≠ some k) → w'.heap[k]? = w.heap[k]?) := by
 have hnb : ba ≠ bi := fun e => hne (m.inj a i ba ha (e ▸ hi))
 have hnb' : bi ≠ ba := fun e => hnb e.symm
 have ha0 : a ≠ 0 := fun e => by rw [e, m.z] at ha; cases ha
 have c4 := m.c4 hi
 have c2 := m.c2 hi
 have d4 := m.c4 ha
 have z2 := m.fz hi 2
 have z4 := m.fz hi 4
 have z3 := m.fz ha 4
 have M3 := Aside0.mk (((m.setU hi u (Or.inr (by rw [hu]; simp))).setN hi (h a).next (m.cn a (by rw [ha]; simp))).setN ha i (Or.inr (by rw [hi]; simp)))
 rw [hu, hi, pa_some, pa_some] at M3
 have L1 := m.lo i bi hi
 have L2 := m.lo a ba ha
 have HI := Aside0.mk hi
 have HA := Aside0.mk ha
 clear m hi hu ha
 go_enter Tryd.func67, Tryd.ntmps67
 go_wp2
 go_end0
 refine ⟨⟨_, rfl⟩, M3.out.ext (fun j => ?_), (((Below.refl n0 w).setCell (p := ⟨bi, 2, none⟩) L1 _).setCell (p := ⟨bi, 4, none⟩) L1 _).setCell (p := ⟨ba, 4, none⟩) L2 _, fun k hk => by
  rw [Below.heap_setCell _ _ _ _ (fun e => hk a (by rw [HA.out, e])), Below.heap_setCell _ _ _ _ (fun e => hk i (by rw [HI.out, e])), Below.heap_setCell _ _ _ _ (fun e => hk i (by rw [HI.out, e]))]⟩
 unfold attachH upN
 rw [if_neg ha0]
 by_cases e1 : j = a
 ·subst e1; simp [hne]
 ·by_cases e2 : j = i
  ·subst e2; simp [e1]
  ·simp [e1, e2]
def withinF (h : Nat → Nd) (u : Nat) : Nat → Nat → Option Bool
 | 0, _ => none
 | k + 1, x => if x = 0 then some false else if x = u then some true else withinF h u k (h x).up
set_option maxRecDepth 100000 in
set_option maxHeartbeats 1000000 in
theorem within_any {w : World} {n0 F : Nat} {A : Nat → Option Nat} {h : Nat → Nd} (m : Mem w n0 F A h) (x u : Nat) (hx : x = 0 ∨ A x ≠ none) {c : Nat} (hu : A u = some c) (k : Nat) (r : Bool) (hr : withinF h u k x = some r) :
  Calls Tryd.prog 59 #[.pointer (pa (A x)), .pointer (some ⟨c, 0, none⟩)] w fun e w' => e = .returned (.bool r) ∧ w' = w := by
 have HX := Aside0.mk hx
 have HR := Aside0.mk hr
 have M := Aside0.mk m
 have HU := Aside0.mk hu
 clear hx hr m hu
 go_enter Tryd.func59, Tryd.ntmps59
 go_wp2
 go_loopg [0] k (fun kq v w' => ∃ y : Nat, v = .pointer (pa (A y)) ∧ Aside0 (y = 0 ∨ A y ≠ none) ∧ Aside0 (withinF h u kq y = some r) ∧ w' = w)
 case atStart => exact ⟨x, rfl, HX, HR, rfl⟩
 case round =>
  obtain ⟨y, rfl, HY, HQ, rfl⟩ := hrel
  clear HX HR
  cases gk with
  | zero => exact absurd HQ.out (by simp [withinF])
  | succ k1 =>
   have hq := HQ.out
   clear HQ
   unfold withinF at hq
   by_cases hy0 : y = 0
   ·rw [if_pos hy0] at hq
    obtain rfl := Option.some.inj hq
    subst hy0
    have hz := M.out.z
    rw [hz, pa_none]
    clear hq hz HY
    go_wp2
    go_ret
    exact ⟨rfl, rfl⟩
   ·rw [if_neg hy0] at hq
    obtain ⟨b, hb⟩ := Option.ne_none_iff_exists'.1 (HY.out.resolve_left hy0)
    have HB := Aside0.mk hb
    have HC := HU
    clear hb
    by_cases hyu : y = u
    ·rw [if_pos hyu] at hq
     obtain rfl := Option.some.inj hq
     subst hyu
     obtain rfl : b = c := Option.some.inj (HB.out.symm.trans HC.out)
     rw [HB.out, pa_some]
     have hE := eqS ⟨b, 0, none⟩ wr
     clear hq
     go_wp2
     go_ret
     exact ⟨rfl, rfl⟩
    ·rw [if_neg hyu] at hq
     have hbc : b ≠ c := fun e => hyu (M.out.inj y u b HB.out (e ▸ HC.out))
     have c2 := M.out.c2 HB.out
     have HQ := Aside0.mk hq
     have HUP := Aside0.mk (M.out.cu y (by rw [HB.out]; simp))
     have hE := M.out.eqn HB.out HC.out hyu
     rw [HB.out, pa_some]
     clear hq
     go_wp2
     go_roundg k1
     case measure => exact Nat.lt_succ_self _
     case rel => exact ⟨(h y).up, rfl, HUP, HQ, rfl⟩
end Go.Proofs.YtkopimbbgckcnaaDoor.P
namespace Go.Proofs.YtkopimbbgckcnaaDoor.P
open Go.RowKit Go.Shelf Go.Proofs.YtkopimbbgckcnaaDoorW.PrintWords Go.Proofs.YtkopimbbgckcnaaDoorW.PrintLast Go.Proofs.YtkopimbbgckcnaaDoorW.PrintMore Go.Proofs.YtkopimbbgckcnaaDoor.FP
attribute [local go_sem] Oper.semAt_some

def NList (A : Nat → Option Nat) (n0 : Nat) (W : World) : Option Addr → List Nat → Prop
 | p, [] => p = none
 | p, x :: rest => ∃ b q, A x = some b ∧ p = some ⟨b, 0, none⟩ ∧ b < n0 ∧ W.cell? ⟨b, 4, none⟩ = some (.pointer q) ∧ NList A n0 W q rest
theorem NList.below {A : Nat → Option Nat} {n0 : Nat} {V W : World} (h : Below n0 V W) : ∀ {p : Option Addr} {xs : List Nat}, NList A n0 V p xs → NList A n0 W p xs
 | _, [], hl => hl
 | _, _ :: _, ⟨b, q, h1, h2, h3, h4, h5⟩ => ⟨b, q, h1, h2, h3, (h.cell (p := ⟨b, 4, none⟩) h3).trans h4, NList.below h h5⟩
theorem NList.len {A : Nat → Option Nat} {n0 : Nat} {W : World} : ∀ {xs ys : List Nat} {p : Option Addr}, NList A n0 W p xs → NList A n0 W p ys → xs.length = ys.length
 | [], [], _, _, _ => rfl
 | [], _ :: _, _, h, ⟨b, q, _, h2, _⟩ => by rw [show _ = none from h] at h2; cases h2
 | _ :: _, [], _, ⟨b, q, _, h2, _⟩, h => by rw [show _ = none from h] at h2; cases h2
 | _ :: _, _ :: _, _, ⟨b, q, h1, h2, h3, h4, h5⟩, ⟨c, r, g1, g2, g3, g4, g5⟩ => by
  rw [h2] at g2
  obtain rfl : b = c := congrArg Addr.block (Option.some.inj g2)
  rw [h4] at g4
  obtain rfl : q = r := by injection g4 with e; injection e
  rw [List.length_cons, List.length_cons, NList.len h5 g5]
open Classical in
noncomputable def nleft (A : Nat → Option Nat) (n0 : Nat) (W : World) (v : Value) : Nat :=
 if h : ∃ r : Option Addr × List Nat, v = .pointer r.1 ∧ NList A n0 W r.1 r.2 then (Classical.choose h).2.length else 0
theorem nleft_eq {A : Nat → Option Nat} {n0 : Nat} {W : World} {q : Option Addr} {xs : List Nat} (h : NList A n0 W q xs) : nleft A n0 W (.pointer q) = xs.length := by
 have hex : ∃ r : Option Addr × List Nat, Value.pointer q = .pointer r.1 ∧ NList A n0 W r.1 r.2 := ⟨(q, xs), rfl, h⟩
 unfold nleft
 rw [dif_pos hex]
 obtain ⟨e, hl⟩ := Classical.choose_spec hex
 have e' : q = (Classical.choose hex).1 := by simpa using e
 rw [← e'] at hl
 exact NList.len hl h
theorem nlist_of {w : World} {n0 F : Nat} {A : Nat → Option Nat} {h : Nat → Nd} (m : Mem w n0 F A h) {up : Nat} : ∀ {G : Fo}, Rep h up G → (∀ x ∈ G.ids, A x ≠ none) → NList A w.heap.size w (pa (A G.hd)) G.tops
 | .nil, _, _ => by show pa (A 0) = none; rw [m.z]; rfl
 | .nd i t k n, ⟨h1, h2, h3, h4⟩, hA => by
  obtain ⟨b, hb⟩ := Option.ne_none_iff_exists'.1 (hA i (by simp [Fo.ids]))
  refine ⟨b, pa (A n.hd), hb, by show pa (A i) = _; rw [hb]; rfl, m.lt hb, ?_, nlist_of m h4 fun x hx => hA x (by simp [Fo.ids, hx])⟩
  rw [m.c4 hb, h2]
theorem kids_in (F : Fence) (n : Nat) (hf : F.fn 56) (hro : F.round = none) (p0 : Option Addr) (w : World) :
  CallsIn F n Tryd.prog 56 #[.pointer p0] w fun e w' => e = .returned (.func (.func 76) #[] #[.pointer (some ⟨w.heap.size, 0, none⟩)]) ∧ w' = w.alloc (.cells #[.pointer p0] 74) := by
 refine callsIn_of_wp Tryd.func56 rfl hf ?_ hro
 simp only [Tryd.ntmps56, List.size_toArray, List.length_cons, List.length_nil, Nat.reduceAdd, Nat.reduceSub, Array.replicate_succ, Array.replicate_zero, List.push_toArray, List.append_toArray, List.nil_append, List.cons_append]
 gi_wp2
 go_ret
 exact ⟨rfl, rfl⟩
structure KA (Q : Nat → Prop) where
 val : Nat
 ok : Q val
set_option maxRecDepth 100000 in
set_option maxHeartbeats 1000000 in
theorem kids1_in (F : Fence) (n : Nat) (hf : F.fn 76) (hro : F.round = none) (hn : 1 ≤ n) (l Bn n0 b : Nat) (Q : Nat → Prop) (A : Nat → Option Nat) (p0 : Option Addr) (xs : List (KA Q)) (J Jx : List (KA Q) → World → Prop)
  (hY : ∀ pre x W, J pre W → pre.length < xs.length → YieldAt F (n - 1) Tryd.prog l #[.pointer (pa (A x.val))] W fun e W' =>
   (e = .returned (.bool true) ∧ J (pre ++ [x]) W' ∧ Below n0 W W') ∨ (e = .returned (.bool false) ∧ Jx (pre ++ [x]) W'))
  (W : World) (hBn : W.cell? ⟨Bn, 0, none⟩ = some (.pointer (some ⟨b, 0, none⟩))) (hb3 : W.cell? ⟨b, 3, none⟩ = some (.pointer p0)) (hL : NList A n0 W p0 (xs.map KA.val)) (h0 : J [] W) :
  CallsIn F n Tryd.prog 76 #[.func (.yield l) #[] #[], .pointer (some ⟨Bn, 0, none⟩)] W fun e W' => (∃ v, e = .returned v) ∧
   ((∃ ys, ys = xs ∧ J ys W') ∨ (∃ pre, pre <+: xs ∧ Jx pre W')) := by
 refine callsIn_of_wp Tryd.func76 rfl hf ?_ hro
 simp only [Tryd.ntmps76, List.size_toArray, List.length_cons, List.length_nil, Nat.reduceAdd, Nat.reduceSub, Array.replicate_succ, Array.replicate_zero, List.push_toArray, List.append_toArray, List.nil_append, List.cons_append]
 gi_wp2
 gi_loopw [3] (fun p wr => ∃ (pre rest : List (KA Q)) (q : Option Addr), p = .pointer q ∧ xs = pre ++ rest ∧ NList A n0 wr q (rest.map KA.val) ∧ J pre wr)
  (fun p wr => nleft A n0 wr p)
 case atStart =>
  exact ⟨[], xs, p0, rfl, rfl, hL, h0⟩
 case round =>
  obtain ⟨pre, rest, q, rfl, hx, hl, hJs⟩ := hrel
  cases rest with
  | nil =>
   obtain rfl : q = none := hl
   gi_wp2
   go_end0
   exact ⟨⟨_, rfl⟩, .inl ⟨pre, by simp [hx], hJs⟩⟩
  | cons x rest =>
   have hl' := hl
   obtain ⟨c, q', hA, rfl, hc, hq, hr⟩ := hl
   obtain ⟨fn, tmps, assign, body, hy, hR⟩ := hY pre x wr hJs (by rw [hx]; simp)
   rw [hA, pa_some] at hy
   have HA := Aside0.mk hA
   clear hA
   gi_wp2
   refine hR.mono ?_
   rintro e W3 (⟨rfl, hJ3, hk3⟩ | ⟨rfl, hJx3⟩)
   ·have hq3 : W3.cell? ⟨c, 4, none⟩ = some (.pointer q') := (hk3.cell (p := ⟨c, 4, none⟩) hc).trans hq
    gi_wp2
    go_roundw
    case rel => exact ⟨pre ++ [x], rest, q', rfl, by simp [hx], hr.below hk3, hJ3⟩
    case measure => rw [nleft_eq (hr.below hk3), nleft_eq hl']; simp
   ·gi_wp2
    refine bodyPost_ret (results_none rfl _ _ _) rfl ?_
    exact ⟨⟨_, rfl⟩, .inr ⟨pre ++ [x], ⟨rest, by simp [hx]⟩, hJx3⟩⟩
theorem kids_stops (F : Fence) (n : Nat) (hf : F.fn 76) (hro : F.round = none) (hn : 1 ≤ n) (Bn n0 b : Nat) (Q : Nat → Prop) (A : Nat → Option Nat) (p0 : Option Addr) (xs : List (KA Q)) (w : World) (hBn : Bn < w.heap.size) (hn0 : n0 ≤ w.heap.size) (hb : b < w.heap.size)
  (hc : w.cell? ⟨Bn, 0, none⟩ = some (.pointer (some ⟨b, 0, none⟩))) (hb3 : w.cell? ⟨b, 3, none⟩ = some (.pointer p0)) (hL : NList A n0 w p0 (xs.map KA.val)) :
  SeqStopsK F n Tryd.prog 76 #[.pointer (some ⟨Bn, 0, none⟩)] (fun x : KA Q => #[.pointer (pa (A x.val))]) (Below n0) (fun ys => ys = xs) (fun pre => pre <+: xs) xs.length w := fun l J Jx W hW _ _ hY h0 =>
 kids1_in F n hf hro hn l Bn n0 b Q A p0 xs J Jx hY W ((hW.cell (p := ⟨Bn, 0, none⟩) hBn).trans hc) ((hW.cell (p := ⟨b, 3, none⟩) hb).trans hb3) (hL.below (hW.mono hn0)) h0
theorem attach_val {Q : Nat → Prop} : ∀ {l : List Nat} (h : ∀ x ∈ l, Q x), ∃ xs : List (KA Q), xs.map KA.val = l
 | [], _ => ⟨[], rfl⟩
 | x :: l, h => by
  obtain ⟨xs, hx⟩ := attach_val (l := l) fun y hy => h y (List.mem_cons_of_mem _ hy)
  exact ⟨⟨x, h x List.mem_cons_self⟩ :: xs, by rw [List.map_cons, hx]⟩
def pv (i : Nat) : Nat → List Nat → Nat
 | p, [] => p
 | p, y :: r => if y = i then p else pv i y r
def lastN (p : Nat) (l : List Nat) : Nat := l.foldl (fun _ y => y) p
theorem pv_done (i : Nat) : ∀ (l : List Nat) (p : Nat), (∀ y ∈ l, y ≠ i) → pv i p l = lastN p l
 | [], p, _ => rfl
 | y :: r, p, h => by
  unfold pv
  rw [if_neg (h y List.mem_cons_self), pv_done i r y fun z hz => h z (List.mem_cons_of_mem _ hz)]
  rfl
theorem pv_stop (i : Nat) (rest : List Nat) : ∀ (l : List Nat) (p : Nat), (∀ y ∈ l, y ≠ i) → pv i p (l ++ i :: rest) = lastN p l
 | [], p, _ => by show pv i p (i :: rest) = p; unfold pv; rw [if_pos rfl]
 | y :: r, p, h => by
  show pv i p (y :: (r ++ i :: rest)) = _
  unfold pv
  rw [if_neg (h y List.mem_cons_self), pv_stop i rest r y fun z hz => h z (List.mem_cons_of_mem _ hz)]
  rfl
theorem lastN_snoc (p : Nat) (l : List Nat) (x : Nat) : lastN p (l ++ [x]) = x := by simp [lastN]
theorem cell_of_box_f {W : World} {B : Nat} {v : Value} {t : TypeId} (h : W.heap[B]? = some (.cells #[v] t (0, 0))) : W.cell? ⟨B, 0, none⟩ = some v ∧ W.frozen? ⟨B, 0, none⟩ = false := by
 constructor <;> simp [World.cell?, World.frozen?, h]
theorem cell_new_f (W : World) (v : Value) (t : TypeId) : (W.alloc (.cells #[v] t)).cell? ⟨W.heap.size, 0, none⟩ = some v ∧ (W.alloc (.cells #[v] t)).frozen? ⟨W.heap.size, 0, none⟩ = false :=
 cell_of_box_f (World.alloc_heap_new W _)
theorem cell_alloc_f {W : World} {a : Addr} {v : Value} (o : Obj) (h : W.cell? a = some v) : (W.alloc o).cell? a = some v := cell_kept h (World.grownBy_alloc W o none) (fun r e => by cases e)
theorem frozen_alloc_f {W : World} {a : Addr} {v : Value} (o : Obj) (h : W.cell? a = some v) (hf : W.frozen? a = false) : (W.alloc o).frozen? a = false := (frozen_kept h (World.grownBy_alloc W o none) (fun r e => by cases e)).trans hf
def AheadI (w : World) (A : Nat → Option Nat) (i b : Nat) (pre : List (KA fun x => A x ≠ none)) (W : World) : Prop :=
 (∀ y ∈ pre, y.val ≠ i) ∧ W.cell? ⟨w.heap.size, 0, none⟩ = some (.pointer (some ⟨b, 0, none⟩)) ∧ W.cell? ⟨w.heap.size + 1, 0, none⟩ = some (.pointer (pa (A (lastN 0 (pre.map KA.val))))) ∧ W.frozen? ⟨w.heap.size + 1, 0, none⟩ = false
def AheadX (w : World) (A : Nat → Option Nat) (i : Nat) (c : Code) (pre : List (KA fun x => A x ≠ none)) (W : World) : Prop :=
 c = .exit 0 ∧ ∃ (pre' : List (KA fun x => A x ≠ none)) (x : KA fun x => A x ≠ none), pre = pre' ++ [x] ∧ x.val = i ∧ (∀ y ∈ pre', y.val ≠ i) ∧ W.cell? ⟨w.heap.size + 1, 0, none⟩ = some (.pointer (pa (A (lastN 0 (pre'.map KA.val)))))
theorem aheadI_own (w : World) (A : Nat → Option Nat) (i b : Nat) : Own (AheadI w A i b) := fun s V W row hs hg hr => ⟨hs.1, cell_kept hs.2.1 hg hr, cell_kept hs.2.2.1 hg hr, (frozen_kept hs.2.2.1 hg hr).trans hs.2.2.2⟩
theorem aheadX_own (w : World) (A : Nat → Option Nat) (i : Nat) (c : Code) : Own (AheadX w A i c) := fun s V W row hs hg hr => by
 obtain ⟨e1, p', x, e2, e3, e4, e5⟩ := hs
 exact ⟨e1, p', x, e2, e3, e4, cell_kept e5 hg hr⟩
set_option maxRecDepth 100000 in
set_option maxHeartbeats 2000000 in
theorem ahead_in (F : Fence) (n : Nat) (h79 : F.fn 79) (h56 : F.fn 56) (h76 : F.fn 76) (hro : F.round = none) (hn : 3 ≤ n) {w : World} {n0 Fb : Nat} {A : Nat → Option Nat} {h : Nat → Nd} (m : Mem w n0 Fb A h)
  {i u b bu : Nat} (hi : A i = some b) (hu : A u = some bu) (hup : (h i).up = u) (xs : List Nat) (hxs : ∀ x ∈ xs, A x ≠ none) (hL : NList A w.heap.size w (pa (A (h u).first)) xs) :
  CallsIn F n Tryd.prog 79 #[.pointer (some ⟨b, 0, none⟩)] w fun e W' => e = .returned (.pointer (pa (A (pv i 0 xs)))) ∧ Below w.heap.size w W' := by
 have h1 : 1 ≤ n := by omega
 obtain ⟨ys, hys⟩ := attach_val (Q := fun x => A x ≠ none) hxs
 subst hys
 have hz := m.z
 have c2 := m.c2 hi
 rw [hup, hu, pa_some] at c2
 replace c2 := cell_alloc_f (.cells #[.pointer none] 74) (cell_alloc_f (.cells #[.pointer (some ⟨b, 0, none⟩)] 74) c2)
 have c3 := m.c3 hu
 have HBU := Aside0.mk (m.lt hu)
 have HB := Aside0.mk (m.lt hi)
 have M := Aside0.mk m
 have HI := Aside0.mk hi
 have HZ := Aside0.mk hz
 clear hz hi hu hup m
 refine callsIn_of_wp_marks Tryd.func79 rfl h79 ?_ hro
 simp only [Tryd.ntmps79, List.size_toArray, List.length_cons, List.length_nil, Nat.reduceAdd, Nat.reduceSub, Array.replicate_succ, Array.replicate_zero, List.push_toArray, List.append_toArray, List.nil_append, List.cons_append]
 gi_wp2_with (gi_at_call 56; refine (kids_in F (n - 1) h56 hro _ _).mono ?_; rintro e w' ⟨rfl, rfl⟩)
 have b0 := cell_new_f w (.pointer (some ⟨b, 0, none⟩)) 74
 have b1 := cell_new_f (w.alloc (.cells #[.pointer (some ⟨b, 0, none⟩)] 74)) (.pointer none) 74
 have b2 := cell_new_f ((w.alloc (.cells #[.pointer (some ⟨b, 0, none⟩)] 74)).alloc (.cells #[.pointer none] 74)) (.pointer (some ⟨bu, 0, none⟩)) 74
 simp only [World.size_alloc] at b1 b2
 have hB0 : Below w.heap.size w (((w.alloc (.cells #[.pointer (some ⟨b, 0, none⟩)] 74)).alloc (.cells #[.pointer none] 74)).alloc (.cells #[.pointer (some ⟨bu, 0, none⟩)] 74)) := (((Below.refl _ w).alloc (Nat.le_refl _) _).alloc (by simp) _).alloc (by simp; omega) _
 refine wpIn_rangeFunc_ownF hro h1 (gf := 76) (lb := #[.pointer (some ⟨w.heap.size + 1 + 1, 0, none⟩)]) rfl h76 (enters_of Tryd.func76 (by kernel_rfl) rfl)
  (kids_stops F (n - 1) h76 hro (by omega) (w.heap.size + 1 + 1) w.heap.size bu _ A _ ys _ (by simp) (by simp; omega) (by simp; have := HBU.out; omega) b2.1 (cell_alloc_f _ (cell_alloc_f _ (cell_alloc_f _ c3))) (hL.below hB0)) belowK_t (belowK_b (by simp; omega)) (Below.refl _ _) (fun _ => by rfl)
  (fun pre W => AheadI w A i b pre W ∧ Below w.heap.size w W)
  (fun c pre W => AheadX w A i c pre W ∧ Below w.heap.size w W)
  (OwnFrom.and (Own.from (aheadI_own w A i b) _) (ownFrom_below (Nat.le_refl _) (by simp; omega)))
  (fun c => OwnFrom.and (Own.from (aheadX_own w A i c) _) (ownFrom_below (Nat.le_refl _) (by simp; omega)))
  ⟨⟨by simp, cell_alloc_f _ (cell_alloc_f _ b0.1), by rw [show lastN 0 (([] : List (KA fun x => A x ≠ none)).map KA.val) = 0 from rfl, HZ.out]; exact cell_alloc_f _ b1.1, frozen_alloc_f _ b1.1 b1.2⟩, hB0⟩
  (fun x => { tmps := #[.pointer (some ⟨b, 0, none⟩), .pointer (some ⟨w.heap.size, 0, none⟩), .pointer none, .pointer (some ⟨w.heap.size + 1, 0, none⟩), .pointer (pa (A x.val)), .pointer (some ⟨b, 0, none⟩), .pointer (some ⟨b, 0, none⟩), .pointer (some ⟨b, 2, none⟩), .pointer (some ⟨bu, 0, none⟩), .func (.func 76) #[] #[.pointer (some ⟨w.heap.size + 1 + 1, 0, none⟩)], .pointer (pa (A x.val)), undef, undef, undef, undef, undef], defers := [] }) ?assign ?body ?done ?stop
 case assign =>
  intro l x W K hK
  gi_wp2
  exact hK
 case body =>
  rintro l pre x W ⟨⟨hp, hcn, hca, hfa⟩, hB⟩ _
  obtain ⟨c, hc⟩ := Option.ne_none_iff_exists'.1 x.ok
  have MW := M.out.below hB
  have hbelow : Below w.heap.size W (W.setCell ⟨w.heap.size + 1, 0, none⟩ (.pointer (some ⟨c, 0, none⟩))) := (Below.refl _ W).setCell (p := ⟨w.heap.size + 1, 0, none⟩) (by simp) _
  by_cases hx : x.val = i
  ·obtain rfl : c = b := by rw [hx, HI.out] at hc; exact (Option.some.inj hc).symm
   have hE := eqS ⟨c, 0, none⟩ W
   have HX := Aside0.mk hx
   rw [hc, pa_some]
   clear hx hc
   gi_wp2
   exact ⟨KeepsOthers.refl _, ⟨rfl, pre, x, rfl, HX.out, hp, hca⟩, hB⟩
  ·have hE := MW.eqn hc HI.out hx
   have HX := Aside0.mk hx
   have HC := Aside0.mk hc
   rw [hc, pa_some]
   clear hx hc
   gi_wp2
   refine ⟨KeepsOthers.setCell _ _ _, hbelow, ⟨fun y hy => ?_, ?_, ?_, ?_⟩, hB.trans hbelow⟩
   ·rcases List.mem_append.1 hy with hy | hy
    ·exact hp y hy
    ·rw [List.mem_singleton.1 hy]; exact HX.out
   ·rw [World.cell?_setCell_other _ _ _ _ (by intro e; have := congrArg Addr.block e; simp at this)]; exact hcn
   ·rw [List.map_append, List.map_cons, List.map_nil, lastN_snoc, HC.out]
    exact World.cell?_setCell_same' _ _ _ (by rw [hca]; rfl)
   ·rw [World.frozen?_setCell]; exact hfa
 case done =>
  rintro D zs W hD rfl ⟨⟨hp, _, hca, _⟩, hB⟩ hK
  gi_wp2
  refine ⟨by simp, .inl ⟨_, _, rfl, run_takeDeferred hK, ?_⟩⟩
  refine ⟨_, results_tmp rfl _ _ _, ?_, hB.trans (belowK_b (w := w) (Nat.le_refl _) W D _ _ (by simp at hD; omega) hK rfl rfl)⟩
  rw [pv_done i _ 0 (fun y hy => by obtain ⟨z, hz, rfl⟩ := List.mem_map.1 hy; exact hp z hz)]
  rfl
 case stop =>
  rintro D c pre W hD hpre ⟨⟨rfl, pre', x, rfl, hx, hp, hca⟩, hB⟩ hK
  gi_wp2
  refine ⟨by simp, .inl ⟨_, _, rfl, run_takeDeferred hK, ?_⟩⟩
  refine ⟨_, results_tmp rfl _ _ _, ?_, hB.trans (belowK_b (w := w) (Nat.le_refl _) W D _ _ (by simp at hD; omega) hK rfl rfl)⟩
  obtain ⟨rest, rfl⟩ := hpre
  rw [List.map_append, List.map_append, List.map_cons, List.map_nil, hx, List.append_assoc, List.singleton_append, pv_stop i _ _ 0 (fun y hy => by obtain ⟨z, hz, rfl⟩ := List.mem_map.1 hy; exact hp z hz)]
  rfl
theorem ahead_any {w : World} {n0 Fb : Nat} {A : Nat → Option Nat} {h : Nat → Nd} (m : Mem w n0 Fb A h)
  {i u b bu : Nat} (hi : A i = some b) (hu : A u = some bu) (hup : (h i).up = u) (xs : List Nat) (hxs : ∀ x ∈ xs, A x ≠ none) (hL : NList A w.heap.size w (pa (A (h u).first)) xs) :
  Calls Tryd.prog 79 #[.pointer (some ⟨b, 0, none⟩)] w fun e W' => e = .returned (.pointer (pa (A (pv i 0 xs)))) ∧ Below w.heap.size w W' :=
 (callsIn_wide (n := 3)).1 (ahead_in _ 3 trivial trivial trivial rfl (by omega) m hi hu hup xs hxs hL)
set_option maxRecDepth 100000 in
set_option maxHeartbeats 2000000 in
theorem detach_any {w : World} {n0 Fb : Nat} {A : Nat → Option Nat} {h : Nat → Nd} (m : Mem w n0 Fb A h)
  {i u b bu : Nat} (hi : A i = some b) (hu : A u = some bu) (hup : (h i).up = u) (hui : u ≠ i) (xs : List Nat) (hxs : ∀ x ∈ xs, A x ≠ none) (hL : NList A w.heap.size w (pa (A (h u).first)) xs) (hpv : pv i 0 xs ≠ 0 → A (pv i 0 xs) ≠ none ∧ pv i 0 xs ≠ i) :
  Calls Tryd.prog 68 #[.pointer (some ⟨b, 0, none⟩)] w fun e W' => (∃ v, e = .returned v) ∧ Mem W' n0 Fb A (detachH h i (pv i 0 xs)) ∧ Below n0 w W' := by
 have HA := Aside0.mk (ahead_any m hi hu hup xs hxs hL)
 generalize pv i 0 xs = a at HA hpv ⊢
 have HM := Aside0.mk m
 have HI := Aside0.mk hi
 have HU := Aside0.mk hu
 have HP := Aside0.mk hup
 have hne : bu ≠ b := fun e => hui (m.inj u i bu hu (e ▸ hi))
 have hne0 := Aside0.mk hui
 have HS := Aside0.mk (show n0 ≤ w.heap.size from Nat.le_of_lt (Nat.lt_of_le_of_lt (m.lo i b hi) (m.lt hi)))
 have L1 := Aside0.mk (m.lo i b hi)
 have L2 := Aside0.mk (m.lo u bu hu)
 by_cases ha : a = 0
 ·subst ha
  rw [m.z, pa_none] at HA
  have hne' : b ≠ bu := fun e => hne e.symm
  clear hL hpv m hi hu hup hui hxs
  go_enter Tryd.func68, Tryd.ntmps68
  go_wp2_with (go_at_call 79; refine (HA.out).mono ?_; clear HA; rintro e W1 ⟨rfl, hb1⟩; have HB1 := Aside0.mk hb1; have M1 := Aside0.mk (HM.out.below hb1); clear hb1)
  have c2 := M1.out.c2 HI.out
  rw [HP.out, HU.out, pa_some] at c2
  have c4 := M1.out.c4 HI.out
  have z2 := M1.out.fz HI.out 2
  have z4 := M1.out.fz HI.out 4
  have z3 := M1.out.fz HU.out 3
  have c3 := M1.out.c3 HU.out
  go_region
  all_goals go_wp2
  go_end0
  have z := M1.out.z
  have M4 := ((M1.out.setF HU.out (h i).next (M1.out.cn i (by rw [HI.out]; simp))).setU HI.out 0 (Or.inl rfl)).setN HI.out 0 (Or.inl rfl)
  rw [z, pa_none] at M4
  refine ⟨⟨_, rfl⟩, M4.drew.ext fun j => ?_, ?_⟩
  ·unfold upN detachH
   rw [HP.out]
   by_cases e1 : j = i
   ·subst e1; have e' : ¬ (j = u) := fun e => hne0.out e.symm
    simp [e']
   ·by_cases e2 : j = u
    ·subst e2; simp [e1]
    ·simp [e1, e2]
  ·exact ((((HB1.out.mono HS.out).setCell (p := ⟨bu, 3, none⟩) L2.out _).setCell (p := ⟨b, 2, none⟩) L1.out _).setCell (p := ⟨b, 4, none⟩) L1.out _).drew
 ·obtain ⟨hA1, hai⟩ := hpv ha
  obtain ⟨ba, hba⟩ := Option.ne_none_iff_exists'.1 hA1
  rw [hba, pa_some] at HA
  have HBA := Aside0.mk hba
  have hab : ba ≠ b := fun e => hai (m.inj a i ba hba (e ▸ hi))
  have hab' : b ≠ ba := fun e => hab e.symm
  have L3 := Aside0.mk (m.lo a ba hba)
  have ha0 := Aside0.mk ha
  have hai0 := Aside0.mk hai
  clear hL m hi hu hup hui hxs hba hA1 ha hai hne
  go_enter Tryd.func68, Tryd.ntmps68
  go_wp2_with (go_at_call 79; refine (HA.out).mono ?_; clear HA; rintro e W1 ⟨rfl, hb1⟩; have HB1 := Aside0.mk hb1; have M1 := Aside0.mk (HM.out.below hb1); clear hb1; have c4 := M1.out.c4 HI.out; have c2 := M1.out.c2 HI.out; have z2 := M1.out.fz HI.out 2; have z4 := M1.out.fz HI.out 4; have z3 := M1.out.fz HBA.out 4; have c3 := M1.out.c4 HBA.out)
  go_end0
  have z := M1.out.z
  have M4 := ((M1.out.setN HBA.out (h i).next (M1.out.cn i (by rw [HI.out]; simp))).setU HI.out 0 (Or.inl rfl)).setN HI.out 0 (Or.inl rfl)
  rw [z, pa_none] at M4
  refine ⟨⟨_, rfl⟩, M4.ext fun j => ?_, ?_⟩
  ·unfold upN detachH
   have ha := ha0.out
   have hai := hai0.out
   by_cases e1 : j = i
   ·subst e1; have e' : ¬ (j = a) := fun e => hai e.symm
    simp [e']
   ·by_cases e2 : j = a
    ·subst e2; simp [e1, ha]
    ·simp [e1, e2, ha]
  ·exact (((HB1.out.mono HS.out).setCell (p := ⟨ba, 4, none⟩) L3.out _).setCell (p := ⟨b, 2, none⟩) L1.out _).setCell (p := ⟨b, 4, none⟩) L1.out _
end Go.Proofs.YtkopimbbgckcnaaDoor.P
