/- Joined by a program (wip/shake.py): the declarations that 'YtlkheeegkifblaaDoorCardFnInDepth' reaches. -/
import Derived.Test.YtlkheeegkifblaaDoorZFo51
set_option linter.unusedVariables false
set_option linter.unusedSimpArgs false
set_option linter.unusedSectionVars false
namespace Go.Proofs.YtlkheeegkifblaaDoor.P
open Go.RowKit Go.Proofs.YtlkheeegkifblaaDoorW.PrintWords Go.Proofs.YtlkheeegkifblaaDoorW.PrintLast
mutual
def spec_TreeOk.l0 : Nat → List (S37) → Int → Int → Option (Bool)
 | 0, _, _, _ => none
 | k + 1, x0, x3, x4 => if x4 < (x0.length : Int) then (if 0 ≤ x4 then ((spec_RowOk.f k ((rd_T37 x0 x4).f0) ((rd_T37 x0 x4).f1) ((rd_T37 x0 x4).f2)).bind fun t333 => (if t333 = true then (if x4 > 0 then (if 0 ≤ (wrap64 (x4 - 1)) then (if (wrap64 (x4 - 1)) < (x0.length : Int) then (spec_TreeOk.j1 k x0 x3 x4 (decide (((rd_T37 x0 x4).f1) > (wrap64 (((rd_T37 x0 (wrap64 (x4 - 1))).f1) + 1))))) else (none)) else (none)) else (spec_TreeOk.j1 k x0 x3 x4 false)) else (spec_TreeOk.j1 k x0 x3 x4 true))) else (none)) else (if x3 = 3 then (if 0 < (x0.length : Int) then (some (((rd_T37 x0 0).f0) == 1)) else (none)) else (some false))
def spec_TreeOk.j1 : Nat → List (S37) → Int → Int → Bool → Option (Bool)
 | 0, _, _, _, _ => none
 | k + 1, x0, x3, x4, x36 => if x36 = true then (some false) else (if 0 ≤ x4 then (if x4 < (x0.length : Int) then ((spec_l1Root.f ((rd_T37 x0 x4).f0)).bind fun t337 => (if t337 = true then (if ((rd_T37 x0 x4).f0) = (wrap64 (x3 + 1)) then (spec_TreeOk.j2 k x0 (wrap64 (x3 + 1)) x4) else (some false)) else (spec_TreeOk.j2 k x0 x3 x4))) else (none)) else (none))
def spec_TreeOk.j2 : Nat → List (S37) → Int → Int → Option (Bool)
 | 0, _, _, _ => none
 | k + 1, x0, x3, x4 => spec_TreeOk.l1 k x0 x3 x4 0
def spec_TreeOk.l1 : Nat → List (S37) → Int → Int → Int → Option (Bool)
 | 0, _, _, _, _ => none
 | k + 1, x0, x3, x4, x5 => if x5 < x4 then (if 0 ≤ x5 then (if x5 < (x0.length : Int) then (if 0 ≤ x4 then (if x4 < (x0.length : Int) then (if ((rd_T37 x0 x5).f0) = ((rd_T37 x0 x4).f0) then (some false) else (spec_TreeOk.l1 k x0 x3 x4 (wrap64 (x5 + 1)))) else (none)) else (none)) else (none)) else (none)) else (spec_TreeOk.l0 k x0 x3 (wrap64 (x4 + 1)))
end
def spec_TreeOk.f (k : Nat) (l0 : List (S37)) : Option (Bool) := spec_TreeOk.l0 k l0 0 0
theorem spec_TreeOk.mono_l : ∀ k, (∀ y0 y1 y2, LeO (spec_TreeOk.l0 k y0 y1 y2) (spec_TreeOk.l0 (k + 1) y0 y1 y2)) ∧ (∀ y0 y1 y2 y3, LeO (spec_TreeOk.j1 k y0 y1 y2 y3) (spec_TreeOk.j1 (k + 1) y0 y1 y2 y3)) ∧ (∀ y0 y1 y2, LeO (spec_TreeOk.j2 k y0 y1 y2) (spec_TreeOk.j2 (k + 1) y0 y1 y2)) ∧ (∀ y0 y1 y2 y3, LeO (spec_TreeOk.l1 k y0 y1 y2 y3) (spec_TreeOk.l1 (k + 1) y0 y1 y2 y3))
 | 0 => ⟨fun _ _ _ r h => by simp [spec_TreeOk.l0] at h, fun _ _ _ _ r h => by simp [spec_TreeOk.j1] at h, fun _ _ _ r h => by simp [spec_TreeOk.j2] at h, fun _ _ _ _ r h => by simp [spec_TreeOk.l1] at h⟩
 | k + 1 => by
  obtain ⟨ih0, ih1, ih2, ih3⟩ := spec_TreeOk.mono_l k
  refine ⟨?_, ?_, ?_, ?_⟩
  all_goals intros
  all_goals first | unfold spec_TreeOk.l0 | unfold spec_TreeOk.j1 | unfold spec_TreeOk.j2 | unfold spec_TreeOk.l1
  all_goals repeat' first
  | (with_reducible exact ih0 _ _ _)
  | (with_reducible exact ih1 _ _ _ _)
  | (with_reducible exact ih2 _ _ _)
  | (with_reducible exact ih3 _ _ _ _)
  | (with_reducible exact spec_RowOk.mono _ _ _ _)
  | (with_reducible exact LeO.refl _)
  | (with_reducible exact LeO.none _)
  | (with_reducible refine LeO.ite ?_ ?_)
  | (with_reducible refine LeO.bind ?_ (fun _ => ?_))
theorem spec_TreeOk.mono : ∀ a0 k, LeO (spec_TreeOk.f k a0) (spec_TreeOk.f (k + 1) a0) := by
 intro a0 k
 obtain ⟨ih0, ih1, ih2, ih3⟩ := spec_TreeOk.mono_l k
 unfold spec_TreeOk.f
 repeat' first
   | (with_reducible exact ih0 _ _ _)
   | (with_reducible exact ih1 _ _ _ _)
   | (with_reducible exact ih2 _ _ _)
   | (with_reducible exact ih3 _ _ _ _)
   | (with_reducible exact spec_RowOk.mono _ _ _ _)
   | (with_reducible exact LeO.refl _)
   | (with_reducible exact LeO.none _)
   | (with_reducible refine LeO.ite ?_ ?_)
   | (with_reducible refine LeO.bind ?_ (fun _ => ?_))
def spec_TreeOk.T5 : Bool × List (List Nat × List Nat) := (true, [([], []), ([], []), ([0, 1], [0, 1]), ([2], [2]), ([3], [3]), ([4], [4]), ([5, 4], [5]), ([6], [6]), ([7, 6], [6, 7]), ([8, 6, 6], [6, 8]), ([9], [9]), ([9], [9]), ([10, 11, 9], [9, 10, 11]), ([12, 9], [9, 12]), ([13, 9], [9, 13]), ([9], [9]), ([9], [9]), ([16, 9], [9, 16]), ([15, 17, 9], [9, 15, 17]), ([18, 9], [9, 18]), ([19, 9], [9, 19]), ([20, 9], [9, 20]), ([14, 21, 9], [9, 14, 21]), ([9, 22, 6], [6, 9, 22]), ([6, 23], [6, 23])])
def spec_TreeOk.B5 : List Nat := [0, 0, 3, 7, 15, 31, 63, 127, 255, 511, 1023, 1023, 4095, 8191, 16383, 1023, 1023, 66559, 230399, 492543, 1016831, 2065407, 4194303, 8388607, 16777215]
theorem spec_TreeOk.tab5 : rtab .any (opsOf Tryd.f19 5) = spec_TreeOk.T5 := by kernel_rfl
theorem spec_TreeOk.bits5 : waitsOk spec_TreeOk.T5.2 spec_TreeOk.B5 = true := by kernel_rfl
def spec_TreeOk.T14 : Bool × List (List Nat × List Nat) := (true, [([], []), ([], []), ([0, 1], [0, 1]), ([2], [2]), ([3], [3]), ([], []), ([], []), ([5, 6], [5, 6]), ([7], [7]), ([8], [8]), ([4, 9], [4, 9])])
def spec_TreeOk.B14 : List Nat := [0, 0, 3, 7, 15, 0, 0, 96, 224, 480, 1023]
theorem spec_TreeOk.tab14 : rtab .any (opsOf Tryd.f19 14) = spec_TreeOk.T14 := by kernel_rfl
theorem spec_TreeOk.bits14 : waitsOk spec_TreeOk.T14.2 spec_TreeOk.B14 = true := by kernel_rfl
set_option maxHeartbeats 8000000 in
set_option maxRecDepth 100000 in
theorem spec_TreeOk.calls (k : Nat) (A0 : Option Addr) (c0 : Nat) (l0 : List (S37)) (r : Bool) (w : World) (hr0 : Kd.C k37 w A0 l0.length l0) (hc0 : l0.length ≤ c0) (h : spec_TreeOk.f k l0 = some r) :
  Calls Tryd.prog 19 #[.slice A0 l0.length c0] w fun e w' => e = .returned (.bool r) ∧ Below w.heap.size w w' := by
 have hu37 := Tryd.underlying37
 have HR0 := Aside0.mk hr0
 have HC0 := Aside0.mk hc0
 clear hr0 hc0
 have HB := Aside0.mk (Below.refl w.heap.size w)
 unfold spec_TreeOk.f at h
 have H := h
 clear h
 have H' := Aside0.mk H
 clear H
 go_enter Tryd.func19, Tryd.ntmps19
 go_wp2
 go_loopg [3, 4] k (fun kq v3 v4 w' => ∃ (x3_1 : Int) (x4_1 : Int), v3 = .int .i64 x3_1 ∧ v4 = .int .i64 x4_1 ∧ Aside0 (spec_TreeOk.l0 kq l0 x3_1 x4_1 = some r) ∧ Aside0 (kq ≤ k) ∧ Aside0 (Below w.heap.size w w'))
 case atStart => exact ⟨(0), (0), (si_), (si_), H', ⟨Nat.le_refl _⟩, ⟨bel_⟩⟩
 case round =>
  clear H'
  try clear c1
  obtain ⟨x3_1, x4_1, rfl, rfl, HA, HK1, HB⟩ := hrel
  cases gk with
  | zero => exact absurd HA.out (by simp [spec_TreeOk.l0])
  | succ k1 =>
   have H := HA.out
   clear HA
   simp only [spec_TreeOk.l0] at H
   by_cases c2 : x4_1 < (l0.length : Int)
   ·rw [if_pos c2] at H
    have c2b0 : decide (x4_1 < (l0.length : Int)) = true := decide_eq_true c2
    clear c2
    have HC3 := Aside0.mk H
    clear H
    go_upto_region 5 with (fail)
    go_cut [36] (fun v36 wc => ∃ (kq : Nat) (x36_2 : Bool), v36 = .bool x36_2 ∧ Aside0 (spec_TreeOk.j1 kq l0 x3_1 x4_1 x36_2 = some r) ∧ Aside0 (kq ≤ k1) ∧ Aside0 (Below w.heap.size w wc))
    case first =>
     have H := HC3.out
     clear HC3
     by_cases c4 : 0 ≤ x4_1
     ·rw [if_pos c4] at H
      have c4b0 : decide (0 ≤ x4_1) = true := decide_eq_true c4
      clear c4
      (first | rw [c4b0] | (simp only [i64_w, i32_w]; rw [c4b0]) | skip)
      replace H := Option.bind_eq_some_iff.mp H
      obtain ⟨t333, A50, H⟩ := H
      try dsimp only at H
      have A5 := Aside0.mk A50
      clear A50
      by_cases c6 : t333 = true
      ·subst c6
       have H1 : (if x4_1 > 0 then (if 0 ≤ (wrap64 (x4_1 - 1)) then (if (wrap64 (x4_1 - 1)) < (l0.length : Int) then (spec_TreeOk.j1 k1 l0 x3_1 x4_1 (decide (((rd_T37 l0 x4_1).f1) > (wrap64 (((rd_T37 l0 (wrap64 (x4_1 - 1))).f1) + 1))))) else (none)) else (none)) else (spec_TreeOk.j1 k1 l0 x3_1 x4_1 false)) = some r := by rw [if_pos rfl] at H; exact H
       clear H
       have H := H1
       clear H1
       by_cases c7 : x4_1 > 0
       ·rw [if_pos c7] at H
        have c7b0 : decide (0 < x4_1) = true := decide_eq_true c7
        clear c7
        obtain ⟨ji8, hji8⟩ : ∃ j_ : Int, (wrap64 (x4_1 - 1)) = j_ := ⟨_, rfl⟩
        replace H : (if 0 ≤ (ji8) then (if (ji8) < (l0.length : Int) then (spec_TreeOk.j1 k1 l0 x3_1 x4_1 (decide (((rd_T37 l0 x4_1).f1) > (wrap64 (((rd_T37 l0 (ji8)).f1) + 1))))) else (none)) else (none)) = some r := by first | (rw [hji8] at H; exact H) | (simp only [hji8] at H ⊢; exact H)
        (try rw [hji8] at A5)
        have hji8w : (IntKind.i64.wrap (x4_1 - 1)) = ji8 := (i64_w _).trans hji8
        by_cases c9 : 0 ≤ (ji8)
        ·rw [if_pos c9] at H
         have c9b0 : decide (0 ≤ (ji8)) = true := decide_eq_true c9
         clear c9
         by_cases c10 : (ji8) < (l0.length : Int)
         ·rw [if_pos c10] at H
          have c10b0 : decide ((ji8) < (l0.length : Int)) = true := decide_eq_true c10
          clear c10
          have H' := Aside0.mk H
          clear H
          try go_wp2
          have n0_ := Aside0.mk (below_drew1 HB.out)
          clear HB
          have HB := n0_
          clear n0_
          have p332 : 0 ≤ (x4_1 : Int) := od_
          have q332 : x4_1 < (l0.length : Int) := od_
          obtain ⟨ad332, e332, hx332_0, hx332_1, hx332_2⟩ := at_T37 HR0.out x4_1 p332 q332
          have hw332_2 := hx332_2
          have hw332_1 := hx332_1
          have hw332_0 := hx332_0
          cases e332
          replace hx332_0 := (cb_ HB.out hx332_0 :)
          replace hx332_1 := (cb_ HB.out hx332_1 :)
          replace hx332_2 := (cb_ HB.out hx332_2 :)
          replace p332 := eq_true p332
          replace q332 := eq_true q332
          have p334 : 0 ≤ (x4_1 : Int) := od_
          have q334 : x4_1 < (l0.length : Int) := od_
          obtain ⟨ad334, e334, hx334_0, hx334_1, hx334_2⟩ := at_T37 HR0.out x4_1 p334 q334
          have hw334_2 := hx334_2
          have hw334_1 := hx334_1
          have hw334_0 := hx334_0
          obtain rfl : ad332 = ad334 := (by injection e334)
          replace hx334_0 := (cb_ HB.out hx334_0 :)
          replace hx334_1 := (cb_ HB.out hx334_1 :)
          replace hx334_2 := (cb_ HB.out hx334_2 :)
          replace p334 := eq_true p334
          replace q334 := eq_true q334
          have p335 : 0 ≤ ((ji8) : Int) := od_
          have q335 : (ji8) < (l0.length : Int) := od_
          obtain ⟨ad335, e335, hx335_0, hx335_1, hx335_2⟩ := at_T37 HR0.out (ji8) p335 q335
          have hw335_2 := hx335_2
          have hw335_1 := hx335_1
          have hw335_0 := hx335_0
          obtain rfl : ad332 = ad335 := (by injection e335)
          replace hx335_0 := (cb_ HB.out hx335_0 :)
          replace hx335_1 := (cb_ HB.out hx335_1 :)
          replace hx335_2 := (cb_ HB.out hx335_2 :)
          replace p335 := eq_true p335
          replace q335 := eq_true q335
          refine start_ (n := 25) (S := fun w' => w'.cell? (ad332.add ((x4_1).toNat * 3)) = some (.int .i64 ((rd_T37 l0 x4_1).f0)) ∧ w'.cell? ⟨(ad332.add ((x4_1).toNat * 3)).block, (ad332.add ((x4_1).toNat * 3)).off + 1, none⟩ = some (.int .i64 ((rd_T37 l0 x4_1).f1)) ∧ w'.cell? ⟨(ad332.add ((x4_1).toNat * 3)).block, (ad332.add ((x4_1).toNat * 3)).off + 2, none⟩ = some (.string ((rd_T37 l0 x4_1).f2)) ∧ w'.cell? (ad332.add ((x4_1).toNat * 3)) = some (.int .i64 ((rd_T37 l0 x4_1).f0)) ∧ w'.cell? ⟨(ad332.add ((x4_1).toNat * 3)).block, (ad332.add ((x4_1).toNat * 3)).off + 1, none⟩ = some (.int .i64 ((rd_T37 l0 x4_1).f1)) ∧ w'.cell? ⟨(ad332.add ((x4_1).toNat * 3)).block, (ad332.add ((x4_1).toNat * 3)).off + 2, none⟩ = some (.string ((rd_T37 l0 x4_1).f2)) ∧ w'.cell? (ad332.add (((ji8)).toNat * 3)) = some (.int .i64 ((rd_T37 l0 (ji8)).f0)) ∧ w'.cell? ⟨(ad332.add (((ji8)).toNat * 3)).block, (ad332.add (((ji8)).toNat * 3)).off + 1, none⟩ = some (.int .i64 ((rd_T37 l0 (ji8)).f1)) ∧ w'.cell? ⟨(ad332.add (((ji8)).toNat * 3)).block, (ad332.add (((ji8)).toNat * 3)).off + 2, none⟩ = some (.string ((rd_T37 l0 (ji8)).f2))) (ds := []) #[false, false, false, false, false, false, false, false, false, false, false, false, false, false, false, false, false, false, false, false, false, false, false, false, false] (by kernel_rfl) rfl rfl ⟨((cb_ HB.out hw332_0 :)), ((cb_ HB.out hw332_1 :)), ((cb_ HB.out hw332_2 :)), ((cb_ HB.out hw334_0 :)), ((cb_ HB.out hw334_1 :)), ((cb_ HB.out hw334_2 :)), ((cb_ HB.out hw335_0 :)), ((cb_ HB.out hw335_1 :)), ((cb_ HB.out hw335_2 :))⟩ (fun hHeld => ?_); refine with_tabW spec_TreeOk.tab5 spec_TreeOk.bits5 (fun HT_ HW_ => ?_)
          generalize wr.drew = w11 at HB hx332_0 hx332_1 hx332_2 hx334_0 hx334_1 hx334_2 hx335_0 hx335_1 hx335_2 hHeld ⊢
          refine pa_ 0 12 ?_
          refine pa_ 1 13 ?_
          refine pa_ 2 14 ?_
          refine ta9_ 3 15 hHeld ?_
          refine on_ 4 16 (fun K hK => ?_)
          refine goes_ Tryd.func58 (by kernel_rfl) rfl #[.agg #[.int .i64 ((rd_T37 l0 x4_1).f0), .int .i64 ((rd_T37 l0 x4_1).f1), .string ((rd_T37 l0 x4_1).f2)]] (by rfl) rfl rfl ar_ ?_
          with_reducible refine (spec_RowOk.calls k1 ((rd_T37 l0 x4_1).f0) ((rd_T37 l0 x4_1).f1) ((rd_T37 l0 x4_1).f2) true _ A5.out).mono ?_
          rintro e w12 ⟨rfl, hb⟩
          refine ⟨_, rfl, ?_⟩
          have n0_ := Aside0.mk (below_step (bel_) hb)
          clear HB
          have HB := n0_
          clear n0_
          (try clear hb)
          (try clear hb2)
          (try clear hk)
          (try clear hi)
          refine hK.out _ _ ⟨((cb_ HB.out hw332_0 :)), ((cb_ HB.out hw332_1 :)), ((cb_ HB.out hw332_2 :)), ((cb_ HB.out hw334_0 :)), ((cb_ HB.out hw334_1 :)), ((cb_ HB.out hw334_2 :)), ((cb_ HB.out hw335_0 :)), ((cb_ HB.out hw335_1 :)), ((cb_ HB.out hw335_2 :))⟩ (fun hHeld => ?_)
          clear hK K
          refine no_ 16 ?_
          refine pa_ 5 17 ?_
          refine pa_ 6 18 ?_
          refine pa_ 7 19 ?_
          refine pa_ 8 20 ?_
          refine pa_ 9 21 ?_
          refine pa_ 10 22 ?_
          refine pa_ 11 23 ?_
          refine pa_ 12 24 ?_
          refine pa_ 13 25 ?_
          refine pa_ 15 27 ?_
          refine pa_ 16 28 ?_
          refine pa_ 17 29 ?_
          refine pa_ 18 30 ?_
          refine pa_ 19 31 ?_
          refine ta9_ 14 26 hHeld ?_
          refine ta9_ 20 32 hHeld ?_
          refine pa_ 21 33 ?_
          refine pa_ 22 34 ?_
          refine pa_ 23 35 ?_
          refine pa_ 24 36 ?_
          refine done_ (done_of HT_.out (by kernel_rfl)) ?_
          try go_wp2
          go_meet
          case rel => exact ⟨_, (decide (((rd_T37 l0 x4_1).f1) > (wrap64 (((rd_T37 l0 (ji8)).f1) + 1)))), (by first | rfl | (simp; done) | (simp only [← hji8] <;> (first | rfl | simp)) | (simp [*]; done)), H', ⟨by have := HK1.out; first | omega | exact Nat.le_refl _⟩, ⟨bel_⟩⟩
         ·rw [if_neg c10] at H
          exact absurd H (by simp)
        ·rw [if_neg c9] at H
         exact absurd H (by simp)
       ·rw [if_neg c7] at H
        have c7b0 : decide (0 < x4_1) = false := decide_eq_false c7
        clear c7
        have H' := Aside0.mk H
        clear H
        try go_wp2
        have n0_ := Aside0.mk (below_drew1 HB.out)
        clear HB
        have HB := n0_
        clear n0_
        have p332 : 0 ≤ (x4_1 : Int) := od_
        have q332 : x4_1 < (l0.length : Int) := od_
        obtain ⟨ad332, e332, hx332_0, hx332_1, hx332_2⟩ := at_T37 HR0.out x4_1 p332 q332
        have hw332_2 := hx332_2
        have hw332_1 := hx332_1
        have hw332_0 := hx332_0
        cases e332
        replace hx332_0 := (cb_ HB.out hx332_0 :)
        replace hx332_1 := (cb_ HB.out hx332_1 :)
        replace hx332_2 := (cb_ HB.out hx332_2 :)
        replace p332 := eq_true p332
        replace q332 := eq_true q332
        refine start_ (n := 25) (S := fun w' => w'.cell? (ad332.add ((x4_1).toNat * 3)) = some (.int .i64 ((rd_T37 l0 x4_1).f0)) ∧ w'.cell? ⟨(ad332.add ((x4_1).toNat * 3)).block, (ad332.add ((x4_1).toNat * 3)).off + 1, none⟩ = some (.int .i64 ((rd_T37 l0 x4_1).f1)) ∧ w'.cell? ⟨(ad332.add ((x4_1).toNat * 3)).block, (ad332.add ((x4_1).toNat * 3)).off + 2, none⟩ = some (.string ((rd_T37 l0 x4_1).f2))) (ds := []) #[false, false, false, false, false, false, false, false, false, false, false, false, false, false, false, false, false, false, false, false, false, false, false, false, false] (by kernel_rfl) rfl rfl ⟨((cb_ HB.out hw332_0 :)), ((cb_ HB.out hw332_1 :)), ((cb_ HB.out hw332_2 :))⟩ (fun hHeld => ?_); refine with_tabW spec_TreeOk.tab5 spec_TreeOk.bits5 (fun HT_ HW_ => ?_)
        generalize wr.drew = w13 at HB hx332_0 hx332_1 hx332_2 hHeld ⊢
        refine pa_ 0 12 ?_
        refine pa_ 1 13 ?_
        refine pa_ 2 14 ?_
        refine ta3_ 3 15 hHeld ?_
        refine on_ 4 16 (fun K hK => ?_)
        refine goes_ Tryd.func58 (by kernel_rfl) rfl #[.agg #[.int .i64 ((rd_T37 l0 x4_1).f0), .int .i64 ((rd_T37 l0 x4_1).f1), .string ((rd_T37 l0 x4_1).f2)]] (by rfl) rfl rfl ar_ ?_
        with_reducible refine (spec_RowOk.calls k1 ((rd_T37 l0 x4_1).f0) ((rd_T37 l0 x4_1).f1) ((rd_T37 l0 x4_1).f2) true _ A5.out).mono ?_
        rintro e w14 ⟨rfl, hb⟩
        refine ⟨_, rfl, ?_⟩
        have n0_ := Aside0.mk (below_step (bel_) hb)
        clear HB
        have HB := n0_
        clear n0_
        (try clear hb)
        (try clear hb2)
        (try clear hk)
        (try clear hi)
        refine hK.out _ _ ⟨((cb_ HB.out hw332_0 :)), ((cb_ HB.out hw332_1 :)), ((cb_ HB.out hw332_2 :))⟩ (fun hHeld => ?_)
        clear hK K
        refine no_ 16 ?_
        refine pa_ 5 17 ?_
        refine pa_ 6 18 ?_
        refine pa_ 7 19 ?_
        refine pa_ 8 20 ?_
        refine pa_ 9 21 ?_
        refine po_ 10 22 ?_
        refine po_ 11 23 ?_
        refine po_ 12 24 ?_
        refine po_ 13 25 ?_
        refine po_ 14 26 ?_
        refine po_ 15 27 ?_
        refine po_ 16 28 ?_
        refine po_ 17 29 ?_
        refine po_ 18 30 ?_
        refine po_ 19 31 ?_
        refine po_ 20 32 ?_
        refine po_ 21 33 ?_
        refine po_ 22 34 ?_
        refine pa_ 23 35 ?_
        refine pa_ 24 36 ?_
        refine done_ (done_of HT_.out (by kernel_rfl)) ?_
        try go_wp2
        go_meet
        case rel => exact ⟨_, (false), (si_), H', ⟨by have := HK1.out; first | omega | exact Nat.le_refl _⟩, ⟨bel_⟩⟩
      ·replace c6 := Bool.eq_false_iff.mpr c6
       subst c6
       have H1 : (spec_TreeOk.j1 k1 l0 x3_1 x4_1 true) = some r := by rw [if_neg (show ¬ (false = true) by decide)] at H; exact H
       clear H
       have H := H1
       clear H1
       have H' := Aside0.mk H
       clear H
       try go_wp2
       have n0_ := Aside0.mk (below_drew1 HB.out)
       clear HB
       have HB := n0_
       clear n0_
       have p332 : 0 ≤ (x4_1 : Int) := od_
       have q332 : x4_1 < (l0.length : Int) := od_
       obtain ⟨ad332, e332, hx332_0, hx332_1, hx332_2⟩ := at_T37 HR0.out x4_1 p332 q332
       have hw332_2 := hx332_2
       have hw332_1 := hx332_1
       have hw332_0 := hx332_0
       cases e332
       replace hx332_0 := (cb_ HB.out hx332_0 :)
       replace hx332_1 := (cb_ HB.out hx332_1 :)
       replace hx332_2 := (cb_ HB.out hx332_2 :)
       replace p332 := eq_true p332
       replace q332 := eq_true q332
       refine start_ (n := 25) (S := fun w' => w'.cell? (ad332.add ((x4_1).toNat * 3)) = some (.int .i64 ((rd_T37 l0 x4_1).f0)) ∧ w'.cell? ⟨(ad332.add ((x4_1).toNat * 3)).block, (ad332.add ((x4_1).toNat * 3)).off + 1, none⟩ = some (.int .i64 ((rd_T37 l0 x4_1).f1)) ∧ w'.cell? ⟨(ad332.add ((x4_1).toNat * 3)).block, (ad332.add ((x4_1).toNat * 3)).off + 2, none⟩ = some (.string ((rd_T37 l0 x4_1).f2))) (ds := []) #[false, false, false, false, false, false, false, false, false, false, false, false, false, false, false, false, false, false, false, false, false, false, false, false, false] (by kernel_rfl) rfl rfl ⟨((cb_ HB.out hw332_0 :)), ((cb_ HB.out hw332_1 :)), ((cb_ HB.out hw332_2 :))⟩ (fun hHeld => ?_); refine with_tabW spec_TreeOk.tab5 spec_TreeOk.bits5 (fun HT_ HW_ => ?_)
       generalize wr.drew = w15 at HB hx332_0 hx332_1 hx332_2 hHeld ⊢
       refine pa_ 0 12 ?_
       refine pa_ 1 13 ?_
       refine pa_ 2 14 ?_
       refine ta3_ 3 15 hHeld ?_
       refine on_ 4 16 (fun K hK => ?_)
       refine goes_ Tryd.func58 (by kernel_rfl) rfl #[.agg #[.int .i64 ((rd_T37 l0 x4_1).f0), .int .i64 ((rd_T37 l0 x4_1).f1), .string ((rd_T37 l0 x4_1).f2)]] (by rfl) rfl rfl ar_ ?_
       with_reducible refine (spec_RowOk.calls k1 ((rd_T37 l0 x4_1).f0) ((rd_T37 l0 x4_1).f1) ((rd_T37 l0 x4_1).f2) false _ A5.out).mono ?_
       rintro e w16 ⟨rfl, hb⟩
       refine ⟨_, rfl, ?_⟩
       have n0_ := Aside0.mk (below_step (bel_) hb)
       clear HB
       have HB := n0_
       clear n0_
       (try clear hb)
       (try clear hb2)
       (try clear hk)
       (try clear hi)
       refine hK.out _ _ ⟨((cb_ HB.out hw332_0 :)), ((cb_ HB.out hw332_1 :)), ((cb_ HB.out hw332_2 :))⟩ (fun hHeld => ?_)
       clear hK K
       refine no_ 16 ?_
       refine pa_ 5 17 ?_
       refine pa_ 6 18 ?_
       refine po_ 7 19 ?_
       refine po_ 8 20 ?_
       refine po_ 9 21 ?_
       refine po_ 10 22 ?_
       refine po_ 11 23 ?_
       refine po_ 12 24 ?_
       refine po_ 13 25 ?_
       refine po_ 14 26 ?_
       refine po_ 15 27 ?_
       refine po_ 16 28 ?_
       refine po_ 17 29 ?_
       refine po_ 18 30 ?_
       refine po_ 19 31 ?_
       refine po_ 20 32 ?_
       refine po_ 21 33 ?_
       refine po_ 22 34 ?_
       refine po_ 23 35 ?_
       refine pa_ 24 36 ?_
       refine done_ (done_of HT_.out (by kernel_rfl)) ?_
       try go_wp2
       go_meet
       case rel => exact ⟨_, (true), (si_), H', ⟨by have := HK1.out; first | omega | exact Nat.le_refl _⟩, ⟨bel_⟩⟩
     ·rw [if_neg c4] at H
      exact absurd H (by simp)
    case rest =>
     clear HC3
     try clear c1
     try clear p2
     try clear p3
     try clear q3
     try clear hx3
     try clear c4
     try clear c5
     try clear c6
     try clear p6
     try clear c7
     try clear c7b0
     try clear c9
     try clear c10
     try clear hx332_0
     try clear hx332_1
     try clear hx332_2
     try clear hx334_0
     try clear hx334_1
     try clear hx334_2
     try clear hx335_0
     try clear hx335_1
     try clear hx335_2
     try clear p332
     try clear p335
     try clear q332
     try clear q335
     obtain ⟨kq, x36_2, rfl, HA, HJ2, HB⟩ := hcut
     cases kq with
     | zero => exact absurd HA.out (by simp [spec_TreeOk.j1])
     | succ kj2 =>
      have H := HA.out
      clear HA
      simp only [spec_TreeOk.j1] at H
      by_cases c17 : x36_2 = true
      ·subst c17
       have H1 : (some false) = some r := by rw [if_pos rfl] at H; exact H
       clear H
       have H := H1
       clear H1
       obtain rfl := Option.some.inj H
       go_wp2
       go_ret
       exact ⟨fi_, bel_⟩
      ·replace c17 := Bool.eq_false_iff.mpr c17
       subst c17
       have H1 : (if 0 ≤ x4_1 then (if x4_1 < (l0.length : Int) then ((spec_l1Root.f ((rd_T37 l0 x4_1).f0)).bind fun t337 => (if t337 = true then (if ((rd_T37 l0 x4_1).f0) = (wrap64 (x3_1 + 1)) then (spec_TreeOk.j2 kj2 l0 (wrap64 (x3_1 + 1)) x4_1) else (some false)) else (spec_TreeOk.j2 kj2 l0 x3_1 x4_1))) else (none)) else (none)) = some r := by rw [if_neg (show ¬ (false = true) by decide)] at H; exact H
       clear H
       have H := H1
       clear H1
       by_cases c18 : 0 ≤ x4_1
       ·rw [if_pos c18] at H
        have c18b0 : decide (0 ≤ x4_1) = true := decide_eq_true c18
        clear c18
        by_cases c19 : x4_1 < (l0.length : Int)
        ·rw [if_pos c19] at H
         have c19b0 : decide (x4_1 < (l0.length : Int)) = true := decide_eq_true c19
         clear c19
         replace H := Option.bind_eq_some_iff.mp H
         obtain ⟨t337, A200, H⟩ := H
         try dsimp only at H
         have A20 := Aside0.mk A200
         clear A200
         have HC21 := Aside0.mk H
         clear H
         have p336 : 0 ≤ (x4_1 : Int) := od_
         have q336 : x4_1 < (l0.length : Int) := od_
         obtain ⟨ad336, e336, hx336_0, hx336_1, hx336_2⟩ := at_T37 HR0.out x4_1 p336 q336
         cases e336
         replace hx336_0 := (cb_ HB.out hx336_0 :)
         replace hx336_1 := (cb_ HB.out hx336_1 :)
         replace hx336_2 := (cb_ HB.out hx336_2 :)
         replace p336 := eq_true p336
         replace q336 := eq_true q336
         go_upto_if 42 with (first | ((with_reducible refine gate_callee (f := 59) rfl ?_); refine gl_ 42 Tryd.func59 #[.int .i64 ((rd_T37 l0 x4_1).f0)] ?_; (with_reducible refine (spec_l1Root.calls ((rd_T37 l0 x4_1).f0) t337 _ A20.out).mono ?_); rintro e w' ⟨rfl, ⟨nd, rfl⟩⟩; refine ⟨_, rfl, ?_⟩))
         (try simp only [Act.put, List.setIfInBounds_toArray, List.set_cons_zero, List.set_cons_succ])
         go_cut [3] (fun v3 wc => ∃ (kq : Nat) (x3_20 : Int), v3 = .int .i64 x3_20 ∧ Aside0 (spec_TreeOk.j2 kq l0 x3_20 x4_1 = some r) ∧ Aside0 (kq ≤ kj2) ∧ Aside0 (Below w.heap.size w wc))
         case first =>
          have H := HC21.out
          clear HC21
          by_cases c22 : t337 = true
          ·subst c22
           have H1 : (if ((rd_T37 l0 x4_1).f0) = (wrap64 (x3_1 + 1)) then (spec_TreeOk.j2 kj2 l0 (wrap64 (x3_1 + 1)) x4_1) else (some false)) = some r := by rw [if_pos rfl] at H; exact H
           clear H
           have H := H1
           clear H1
           by_cases c23 : ((rd_T37 l0 x4_1).f0) = (wrap64 (x3_1 + 1))
           ·rw [if_pos c23] at H
            have c23b0 : (((rd_T37 l0 x4_1).f0) == (wrap64 (x3_1 + 1))) = true := beq_iff_eq.mpr c23
            have c23b1 : (((rd_T37 l0 x4_1).f0) != (wrap64 (x3_1 + 1))) = false := bne_eq_false_iff_eq.mpr c23
            clear c23
            (first | rw [c23b0] | (simp only [i64_w, i32_w]; rw [c23b0]) | skip)
            have H' := Aside0.mk H
            clear H
            have p338 : 0 ≤ (x4_1 : Int) := od_
            have q338 : x4_1 < (l0.length : Int) := od_
            obtain ⟨ad338, e338, hx338_0, hx338_1, hx338_2⟩ := at_T37 HR0.out x4_1 p338 q338
            obtain rfl : ad336 = ad338 := (by injection e338)
            replace hx338_0 := (cb_ HB.out hx338_0 :)
            replace hx338_1 := (cb_ HB.out hx338_1 :)
            replace hx338_2 := (cb_ HB.out hx338_2 :)
            replace p338 := eq_true p338
            replace q338 := eq_true q338
            go_wp2
            go_meet
            case rel => exact ⟨_, (wrap64 (x3_1 + 1)), (si_), H', ⟨by have := HK1.out; have := HJ2.out; first | omega | exact Nat.le_refl _⟩, ⟨bel_⟩⟩
           ·rw [if_neg c23] at H
            have c23b0 : (((rd_T37 l0 x4_1).f0) == (wrap64 (x3_1 + 1))) = false := beq_eq_false_iff_ne.mpr c23
            have c23b1 : (((rd_T37 l0 x4_1).f0) != (wrap64 (x3_1 + 1))) = true := bne_iff_ne.mpr c23
            (first | rw [c23b0] | (simp only [i64_w, i32_w]; rw [c23b0]) | skip)
            obtain rfl := Option.some.inj H
            have p338 : 0 ≤ (x4_1 : Int) := od_
            have q338 : x4_1 < (l0.length : Int) := od_
            obtain ⟨ad338, e338, hx338_0, hx338_1, hx338_2⟩ := at_T37 HR0.out x4_1 p338 q338
            obtain rfl : ad336 = ad338 := (by injection e338)
            replace hx338_0 := (cb_ HB.out hx338_0 :)
            replace hx338_1 := (cb_ HB.out hx338_1 :)
            replace hx338_2 := (cb_ HB.out hx338_2 :)
            replace p338 := eq_true p338
            replace q338 := eq_true q338
            go_wp2
            go_ret
            exact ⟨fi_, bel_⟩
          ·replace c22 := Bool.eq_false_iff.mpr c22
           subst c22
           have H1 : (spec_TreeOk.j2 kj2 l0 x3_1 x4_1) = some r := by rw [if_neg (show ¬ (false = true) by decide)] at H; exact H
           clear H
           have H := H1
           clear H1
           have H' := Aside0.mk H
           clear H
           go_wp2
           go_meet
           case rel => exact ⟨_, (x3_1), (si_), H', ⟨by have := HK1.out; have := HJ2.out; first | omega | exact Nat.le_refl _⟩, ⟨bel_⟩⟩
         case rest =>
          clear HC21
          try clear c1
          try clear c2
          try clear p2
          try clear p3
          try clear q3
          try clear hx3
          try clear c4
          try clear c5
          try clear c6
          try clear p6
          try clear c7
          try clear c7b0
          try clear c9
          try clear c10
          try clear c17
          try clear c18
          try clear c18b0
          try clear c19
          try clear c19b0
          try clear c22
          try clear c23
          try clear c23b0
          try clear c23b1
          try clear hx332_0
          try clear hx332_1
          try clear hx332_2
          try clear hx334_0
          try clear hx334_1
          try clear hx334_2
          try clear hx335_0
          try clear hx335_1
          try clear hx335_2
          try clear hx336_0
          try clear hx336_1
          try clear hx336_2
          try clear hx338_0
          try clear hx338_1
          try clear hx338_2
          try clear p2
          try clear p3
          try clear p332
          try clear p335
          try clear p336
          try clear p338
          try clear p6
          try clear q3
          try clear q332
          try clear q335
          try clear q336
          try clear q338
          obtain ⟨kq, x3_20, rfl, HA, HJ20, HB⟩ := hcut
          cases kq with
          | zero => exact absurd HA.out (by simp [spec_TreeOk.j2])
          | succ kj20 =>
           have H := HA.out
           clear HA
           simp only [spec_TreeOk.j2] at H
           have H' := Aside0.mk H
           clear H
           go_wp2
           go_loopg [5] kj20 (fun kq v5 w' => ∃ (x5_4 : Int), v5 = .int .i64 x5_4 ∧ Aside0 (spec_TreeOk.l1 kq l0 x3_20 x4_1 x5_4 = some r) ∧ Aside0 (kq ≤ kj20) ∧ Aside0 (Below w.heap.size w w'))
           case atStart => exact ⟨(0), (si_), H', ⟨Nat.le_refl _⟩, ⟨bel_⟩⟩
           case round =>
            clear H'
            try clear c1
            try clear c2
            try clear p2
            try clear p3
            try clear q3
            try clear hx3
            try clear c4
            try clear c5
            try clear c6
            try clear p6
            try clear c7
            try clear c7b0
            try clear c9
            try clear c10
            try clear c17
            try clear c18
            try clear c18b0
            try clear c19
            try clear c19b0
            try clear c22
            try clear c23
            try clear c23b0
            try clear c23b1
            try clear hx332_0
            try clear hx332_1
            try clear hx332_2
            try clear hx334_0
            try clear hx334_1
            try clear hx334_2
            try clear hx335_0
            try clear hx335_1
            try clear hx335_2
            try clear hx336_0
            try clear hx336_1
            try clear hx336_2
            try clear hx338_0
            try clear hx338_1
            try clear hx338_2
            try clear p2
            try clear p3
            try clear p332
            try clear p335
            try clear p336
            try clear p338
            try clear p6
            try clear q3
            try clear q332
            try clear q335
            try clear q336
            try clear q338
            obtain ⟨x5_4, rfl, HA, HK4, HB⟩ := hrel
            cases gk with
            | zero => exact absurd HA.out (by simp [spec_TreeOk.l1])
            | succ k4 =>
             have H := HA.out
             clear HA
             simp only [spec_TreeOk.l1] at H
             by_cases c24 : x5_4 < x4_1
             ·rw [if_pos c24] at H
              have c24b0 : decide (x5_4 < x4_1) = true := decide_eq_true c24
              clear c24
              by_cases c25 : 0 ≤ x5_4
              ·rw [if_pos c25] at H
               have c25b0 : decide (0 ≤ x5_4) = true := decide_eq_true c25
               clear c25
               by_cases c26 : x5_4 < (l0.length : Int)
               ·rw [if_pos c26] at H
                have c26b0 : decide (x5_4 < (l0.length : Int)) = true := decide_eq_true c26
                clear c26
                by_cases c27 : 0 ≤ x4_1
                ·rw [if_pos c27] at H
                 have c27b0 : decide (0 ≤ x4_1) = true := decide_eq_true c27
                 clear c27
                 by_cases c28 : x4_1 < (l0.length : Int)
                 ·rw [if_pos c28] at H
                  have c28b0 : decide (x4_1 < (l0.length : Int)) = true := decide_eq_true c28
                  clear c28
                  by_cases c29 : ((rd_T37 l0 x5_4).f0) = ((rd_T37 l0 x4_1).f0)
                  ·rw [if_pos c29] at H
                   have c29b0 : (((rd_T37 l0 x5_4).f0) == ((rd_T37 l0 x4_1).f0)) = true := beq_iff_eq.mpr c29
                   have c29b1 : (((rd_T37 l0 x5_4).f0) != ((rd_T37 l0 x4_1).f0)) = false := bne_eq_false_iff_eq.mpr c29
                   clear c29
                   obtain rfl := Option.some.inj H
                   try go_wp2
                   have n0_ := Aside0.mk (below_drew1 HB.out)
                   clear HB
                   have HB := n0_
                   clear n0_
                   have p339 : 0 ≤ (x5_4 : Int) := od_
                   have q339 : x5_4 < (l0.length : Int) := od_
                   obtain ⟨ad339, e339, hx339_0, hx339_1, hx339_2⟩ := at_T37 HR0.out x5_4 p339 q339
                   have hw339_2 := hx339_2
                   have hw339_1 := hx339_1
                   have hw339_0 := hx339_0
                   obtain rfl : ad336 = ad339 := (by injection e339)
                   replace hx339_0 := (cb_ HB.out hx339_0 :)
                   replace hx339_1 := (cb_ HB.out hx339_1 :)
                   replace hx339_2 := (cb_ HB.out hx339_2 :)
                   replace p339 := eq_true p339
                   replace q339 := eq_true q339
                   have p340 : 0 ≤ (x4_1 : Int) := od_
                   have q340 : x4_1 < (l0.length : Int) := od_
                   obtain ⟨ad340, e340, hx340_0, hx340_1, hx340_2⟩ := at_T37 HR0.out x4_1 p340 q340
                   have hw340_2 := hx340_2
                   have hw340_1 := hx340_1
                   have hw340_0 := hx340_0
                   obtain rfl : ad336 = ad340 := (by injection e340)
                   replace hx340_0 := (cb_ HB.out hx340_0 :)
                   replace hx340_1 := (cb_ HB.out hx340_1 :)
                   replace hx340_2 := (cb_ HB.out hx340_2 :)
                   replace p340 := eq_true p340
                   replace q340 := eq_true q340
                   refine start_ (n := 11) (S := fun w' => w'.cell? (ad336.add ((x5_4).toNat * 3)) = some (.int .i64 ((rd_T37 l0 x5_4).f0)) ∧ w'.cell? ⟨(ad336.add ((x5_4).toNat * 3)).block, (ad336.add ((x5_4).toNat * 3)).off + 1, none⟩ = some (.int .i64 ((rd_T37 l0 x5_4).f1)) ∧ w'.cell? ⟨(ad336.add ((x5_4).toNat * 3)).block, (ad336.add ((x5_4).toNat * 3)).off + 2, none⟩ = some (.string ((rd_T37 l0 x5_4).f2)) ∧ w'.cell? (ad336.add ((x4_1).toNat * 3)) = some (.int .i64 ((rd_T37 l0 x4_1).f0)) ∧ w'.cell? ⟨(ad336.add ((x4_1).toNat * 3)).block, (ad336.add ((x4_1).toNat * 3)).off + 1, none⟩ = some (.int .i64 ((rd_T37 l0 x4_1).f1)) ∧ w'.cell? ⟨(ad336.add ((x4_1).toNat * 3)).block, (ad336.add ((x4_1).toNat * 3)).off + 2, none⟩ = some (.string ((rd_T37 l0 x4_1).f2))) (ds := []) #[false, false, false, false, false, false, false, false, false, false, false] (by kernel_rfl) rfl rfl ⟨((cb_ HB.out hw339_0 :)), ((cb_ HB.out hw339_1 :)), ((cb_ HB.out hw339_2 :)), ((cb_ HB.out hw340_0 :)), ((cb_ HB.out hw340_1 :)), ((cb_ HB.out hw340_2 :))⟩ (fun hHeld => ?_); refine with_tabW spec_TreeOk.tab14 spec_TreeOk.bits14 (fun HT_ HW_ => ?_)
                   generalize wr.drew = w30 at HB hx339_0 hx339_1 hx339_2 hx340_0 hx340_1 hx340_2 hHeld ⊢
                   refine pa_ 0 57 ?_
                   refine pa_ 1 58 ?_
                   refine pa_ 2 59 ?_
                   refine pa_ 3 60 ?_
                   refine pa_ 5 62 ?_
                   refine pa_ 6 63 ?_
                   refine pa_ 7 64 ?_
                   refine pa_ 8 65 ?_
                   refine ta6_ 4 61 hHeld ?_
                   refine ta6_ 9 66 hHeld ?_
                   refine pa_ 10 67 ?_
                   refine done_ (done_of HT_.out (by kernel_rfl)) ?_
                   try go_wp2
                   go_ret
                   exact ⟨fi_, bel_⟩
                  ·rw [if_neg c29] at H
                   have c29b0 : (((rd_T37 l0 x5_4).f0) == ((rd_T37 l0 x4_1).f0)) = false := beq_eq_false_iff_ne.mpr c29
                   have c29b1 : (((rd_T37 l0 x5_4).f0) != ((rd_T37 l0 x4_1).f0)) = true := bne_iff_ne.mpr c29
                   have H' := Aside0.mk H
                   clear H
                   try go_wp2
                   have n0_ := Aside0.mk (below_drew1 HB.out)
                   clear HB
                   have HB := n0_
                   clear n0_
                   have p339 : 0 ≤ (x5_4 : Int) := od_
                   have q339 : x5_4 < (l0.length : Int) := od_
                   obtain ⟨ad339, e339, hx339_0, hx339_1, hx339_2⟩ := at_T37 HR0.out x5_4 p339 q339
                   have hw339_2 := hx339_2
                   have hw339_1 := hx339_1
                   have hw339_0 := hx339_0
                   obtain rfl : ad336 = ad339 := (by injection e339)
                   replace hx339_0 := (cb_ HB.out hx339_0 :)
                   replace hx339_1 := (cb_ HB.out hx339_1 :)
                   replace hx339_2 := (cb_ HB.out hx339_2 :)
                   replace p339 := eq_true p339
                   replace q339 := eq_true q339
                   have p340 : 0 ≤ (x4_1 : Int) := od_
                   have q340 : x4_1 < (l0.length : Int) := od_
                   obtain ⟨ad340, e340, hx340_0, hx340_1, hx340_2⟩ := at_T37 HR0.out x4_1 p340 q340
                   have hw340_2 := hx340_2
                   have hw340_1 := hx340_1
                   have hw340_0 := hx340_0
                   obtain rfl : ad336 = ad340 := (by injection e340)
                   replace hx340_0 := (cb_ HB.out hx340_0 :)
                   replace hx340_1 := (cb_ HB.out hx340_1 :)
                   replace hx340_2 := (cb_ HB.out hx340_2 :)
                   replace p340 := eq_true p340
                   replace q340 := eq_true q340
                   refine start_ (n := 11) (S := fun w' => w'.cell? (ad336.add ((x5_4).toNat * 3)) = some (.int .i64 ((rd_T37 l0 x5_4).f0)) ∧ w'.cell? ⟨(ad336.add ((x5_4).toNat * 3)).block, (ad336.add ((x5_4).toNat * 3)).off + 1, none⟩ = some (.int .i64 ((rd_T37 l0 x5_4).f1)) ∧ w'.cell? ⟨(ad336.add ((x5_4).toNat * 3)).block, (ad336.add ((x5_4).toNat * 3)).off + 2, none⟩ = some (.string ((rd_T37 l0 x5_4).f2)) ∧ w'.cell? (ad336.add ((x4_1).toNat * 3)) = some (.int .i64 ((rd_T37 l0 x4_1).f0)) ∧ w'.cell? ⟨(ad336.add ((x4_1).toNat * 3)).block, (ad336.add ((x4_1).toNat * 3)).off + 1, none⟩ = some (.int .i64 ((rd_T37 l0 x4_1).f1)) ∧ w'.cell? ⟨(ad336.add ((x4_1).toNat * 3)).block, (ad336.add ((x4_1).toNat * 3)).off + 2, none⟩ = some (.string ((rd_T37 l0 x4_1).f2))) (ds := []) #[false, false, false, false, false, false, false, false, false, false, false] (by kernel_rfl) rfl rfl ⟨((cb_ HB.out hw339_0 :)), ((cb_ HB.out hw339_1 :)), ((cb_ HB.out hw339_2 :)), ((cb_ HB.out hw340_0 :)), ((cb_ HB.out hw340_1 :)), ((cb_ HB.out hw340_2 :))⟩ (fun hHeld => ?_); refine with_tabW spec_TreeOk.tab14 spec_TreeOk.bits14 (fun HT_ HW_ => ?_)
                   generalize wr.drew = w31 at HB hx339_0 hx339_1 hx339_2 hx340_0 hx340_1 hx340_2 hHeld ⊢
                   refine pa_ 0 57 ?_
                   refine pa_ 1 58 ?_
                   refine pa_ 2 59 ?_
                   refine pa_ 3 60 ?_
                   refine pa_ 5 62 ?_
                   refine pa_ 6 63 ?_
                   refine pa_ 7 64 ?_
                   refine pa_ 8 65 ?_
                   refine ta6_ 4 61 hHeld ?_
                   refine ta6_ 9 66 hHeld ?_
                   refine pa_ 10 67 ?_
                   refine done_ (done_of HT_.out (by kernel_rfl)) ?_
                   try go_wp2
                   go_roundg k4
                   case measure => have := HK1.out; have := HJ2.out; have := HJ20.out; have := HK4.out; omega
                   case rel => exact ⟨(wrap64 (x5_4 + 1)), (si_), H', ⟨by have := HK1.out; have := HJ2.out; have := HJ20.out; have := HK4.out; omega⟩, ⟨bel_⟩⟩
                 ·rw [if_neg c28] at H
                  exact absurd H (by simp)
                ·rw [if_neg c27] at H
                 exact absurd H (by simp)
               ·rw [if_neg c26] at H
                exact absurd H (by simp)
              ·rw [if_neg c25] at H
               exact absurd H (by simp)
             ·rw [if_neg c24] at H
              have c24b0 : decide (x5_4 < x4_1) = false := decide_eq_false c24
              clear c24
              have H' := Aside0.mk H
              clear H
              go_wp2
              go_roundg k4
              case measure => have := HK1.out; have := HJ2.out; have := HJ20.out; have := HK4.out; omega
              case rel => exact ⟨(x3_20), (wrap64 (x4_1 + 1)), (si_), (si_), H', ⟨by have := HK1.out; have := HJ2.out; have := HJ20.out; have := HK4.out; omega⟩, ⟨bel_⟩⟩
        ·rw [if_neg c19] at H
         exact absurd H (by simp)
       ·rw [if_neg c18] at H
        exact absurd H (by simp)
   ·rw [if_neg c2] at H
    have c2b0 : decide (x4_1 < (l0.length : Int)) = false := decide_eq_false c2
    clear c2
    by_cases c32 : x3_1 = 3
    ·rw [if_pos c32] at H
     have c32b0 : (x3_1 == 3) = true := beq_iff_eq.mpr c32
     have c32b1 : (x3_1 != 3) = false := bne_eq_false_iff_eq.mpr c32
     clear c32
     by_cases c33 : 0 < (l0.length : Int)
     ·rw [if_pos c33] at H
      have c33b0 : decide (0 < (l0.length : Int)) = true := decide_eq_true c33
      have c33b1 : decide (0 < l0.length) = true := decide_eq_true (by omega)
      clear c33
      obtain rfl := Option.some.inj H
      have p331 : 0 ≤ (0 : Int) := (by omega)
      have q331 : 0 < (l0.length : Int) := od_
      obtain ⟨ad331, e331, hx331_0, hx331_1, hx331_2⟩ := at_T37 HR0.out 0 p331 q331
      cases e331
      have qi331 : (0 < l0.length) = True := eq_true (by omega)
      (try rw [show ((0 : Int)).toNat = 0 from rfl] at hx331_0)
      (try rw [show 0 * 3 = 0 from rfl] at hx331_0)
      (try rw [Addr.add_zero'] at hx331_0)
      (try rw [show ((0 : Int)).toNat = 0 from rfl] at hx331_1)
      (try rw [show 0 * 3 = 0 from rfl] at hx331_1)
      (try rw [Addr.add_zero'] at hx331_1)
      (try rw [show ((0 : Int)).toNat = 0 from rfl] at hx331_2)
      (try rw [show 0 * 3 = 0 from rfl] at hx331_2)
      (try rw [Addr.add_zero'] at hx331_2)
      replace hx331_0 := (cb_ HB.out hx331_0 :)
      replace hx331_1 := (cb_ HB.out hx331_1 :)
      replace hx331_2 := (cb_ HB.out hx331_2 :)
      replace p331 := eq_true p331
      replace q331 := eq_true q331
      go_wp2
      go_ret
      exact ⟨fi_, bel_⟩
     ·rw [if_neg c33] at H
      exact absurd H (by simp)
    ·rw [if_neg c32] at H
     have c32b0 : (x3_1 == 3) = false := beq_eq_false_iff_ne.mpr c32
     have c32b1 : (x3_1 != 3) = true := bne_iff_ne.mpr c32
     obtain rfl := Option.some.inj H
     go_wp2
     go_ret
     exact ⟨fi_, bel_⟩

def spec_l11Move.f (a0 : Int) (a1 : Int) (a2 : Int) : Option (Int × Int × Int × Int × ByteArray) := some (3, a0, a1, a2, (⟨#[]⟩ : ByteArray))
set_option maxHeartbeats 8000000 in
set_option maxRecDepth 100000 in
theorem spec_l11Move.calls (a0 : Int) (a1 : Int) (a2 : Int) (r1 : Int) (r2 : Int) (r3 : Int) (r4 : Int) (r5 : ByteArray) (w : World) (h : spec_l11Move.f a0 a1 a2 = some (r1, r2, r3, r4, r5)) :
  Calls Tryd.prog 56 #[.int .i64 a0, .int .i64 a1, .int .i64 a2] w fun e w' => e = .returned (.agg #[.int .i64 r1, .int .i64 r2, .int .i64 r3, .int .i64 r4, .string r5]) ∧ Below w.heap.size w w' := by
 have hu27 := Tryd.underlying27
 have HB := Aside0.mk (Below.refl w.heap.size w)
 unfold spec_l11Move.f at h
 have H := h
 clear h
 simp only [Option.some.injEq, Prod.mk.injEq] at H
 obtain ⟨rfl, rfl, rfl, rfl, rfl⟩ := H
 go_enter Tryd.func56, Tryd.ntmps56
 go_wp2_with (first | ((with_reducible refine gate_dst (N := 6) rfl ?_); refine bx_ 6 (#[.int .i64 0, .int .i64 0, .int .i64 0, .int .i64 0, .string (⟨#[]⟩ : ByteArray)]) 27 ?_; intro gb341 hg w4 hbox hb; have n0_ := Aside0.mk (below_step (bel_) hb); have n1_ := Aside0.mk (hbox); have n2_ := Aside0.mk ((by rw [hg]; exact (below_size (bel_)) : w.heap.size ≤ gb341)); have n3_ := Aside0.mk ((by rw [hg]; exact (below_size (bel_)) : w.heap.size ≤ gb341)); clear HB; have HB := n0_; have BK341 := n1_; have GW341 := n2_; have GE341 := n3_; clear n0_ n1_ n2_ n3_; clear hb hbox hg; obtain ⟨hcz5_0, hcz5_1, hcz5_2, hcz5_3, hcz5_4, hfz5_0, hfz5_1, hfz5_2, hfz5_3, hfz5_4⟩ := op5_ BK341.out))
 refine bodyPost_ret (results_cell_row rfl _ _ gb341 27 #[.int .i64 3, .int .i64 a0, .int .i64 a1, .int .i64 a2, .string (⟨#[]⟩ : ByteArray)] (0, 0) _ rfl (by (with_reducible repeat (first | refine blk_drewN ?_ _ | refine blk_drew ?_ | refine blk_alloc ?_ _)); exact bk5_ (bp_ BK341.out)) Tryd.underlying27 rfl (by kernel_rfl)) rfl ?_
 exact ⟨fi_, bel_⟩

mutual
def spec_l2Ahead.l0 : Nat → List (S37) → Int → Int → Option (Int)
 | 0, _, _, _ => none
 | k + 1, x0, x1, x5 => if x5 ≥ 0 then (if 0 ≤ x5 then (if x5 < (x0.length : Int) then (if 0 ≤ x1 then (if x1 < (x0.length : Int) then (spec_l2Ahead.j1 k x0 x1 x5 (decide (((rd_T37 x0 x5).f1) ≥ ((rd_T37 x0 x1).f1)))) else (none)) else (none)) else (none)) else (none)) else (spec_l2Ahead.j1 k x0 x1 x5 false)
def spec_l2Ahead.j1 : Nat → List (S37) → Int → Int → Bool → Option (Int)
 | 0, _, _, _, _ => none
 | k + 1, x0, x1, x5, x22 => if x22 = true then (if 0 ≤ x5 then (if x5 < (x0.length : Int) then (if 0 ≤ x1 then (if x1 < (x0.length : Int) then (if ((rd_T37 x0 x5).f1) = ((rd_T37 x0 x1).f1) then (some ((rd_T37 x0 x5).f0)) else (spec_l2Ahead.l0 k x0 x1 (wrap64 (x5 - 1)))) else (none)) else (none)) else (none)) else (none)) else (some 0)
end
def spec_l2Ahead.f (k : Nat) (l0 : List (S37)) (a1 : Int) : Option (Int) := spec_l2Ahead.l0 k l0 a1 (wrap64 (a1 - 1))
theorem spec_l2Ahead.mono_l : ∀ k, (∀ y0 y1 y2, LeO (spec_l2Ahead.l0 k y0 y1 y2) (spec_l2Ahead.l0 (k + 1) y0 y1 y2)) ∧ (∀ y0 y1 y2 y3, LeO (spec_l2Ahead.j1 k y0 y1 y2 y3) (spec_l2Ahead.j1 (k + 1) y0 y1 y2 y3))
 | 0 => ⟨fun _ _ _ r h => by simp [spec_l2Ahead.l0] at h, fun _ _ _ _ r h => by simp [spec_l2Ahead.j1] at h⟩
 | k + 1 => by
  obtain ⟨ih0, ih1⟩ := spec_l2Ahead.mono_l k
  refine ⟨?_, ?_⟩
  all_goals intros
  all_goals first | unfold spec_l2Ahead.l0 | unfold spec_l2Ahead.j1
  all_goals repeat' first
  | (with_reducible exact ih0 _ _ _)
  | (with_reducible exact ih1 _ _ _ _)
  | (with_reducible exact LeO.refl _)
  | (with_reducible exact LeO.none _)
  | (with_reducible refine LeO.ite ?_ ?_)
  | (with_reducible refine LeO.bind ?_ (fun _ => ?_))
theorem spec_l2Ahead.mono : ∀ a0 a1 k, LeO (spec_l2Ahead.f k a0 a1) (spec_l2Ahead.f (k + 1) a0 a1) := by
 intro a0 a1 k
 obtain ⟨ih0, ih1⟩ := spec_l2Ahead.mono_l k
 unfold spec_l2Ahead.f
 repeat' first
   | (with_reducible exact ih0 _ _ _)
   | (with_reducible exact ih1 _ _ _ _)
   | (with_reducible exact LeO.refl _)
   | (with_reducible exact LeO.none _)
   | (with_reducible refine LeO.ite ?_ ?_)
   | (with_reducible refine LeO.bind ?_ (fun _ => ?_))
set_option maxHeartbeats 8000000 in
set_option maxRecDepth 100000 in
theorem spec_l2Ahead.calls (k : Nat) (A0 : Option Addr) (c0 : Nat) (l0 : List (S37)) (a1 : Int) (r : Int) (w : World) (hr0 : Kd.C k37 w A0 l0.length l0) (hc0 : l0.length ≤ c0) (h : spec_l2Ahead.f k l0 a1 = some r) :
  Calls Tryd.prog 83 #[.slice A0 l0.length c0, .int .i64 a1] w fun e w' => e = .returned (.int .i64 r) ∧ Drawn0 w w' := by
 have HR0 := Aside0.mk hr0
 have HC0 := Aside0.mk hc0
 clear hr0 hc0
 unfold spec_l2Ahead.f at h
 have H := h
 clear h
 have H' := Aside0.mk H
 clear H
 go_enter Tryd.func83, Tryd.ntmps83
 go_wp2
 repeat (go_quiet (fail); try go_wp2)
 go_loopg [5] k (fun kq v5 w' => ∃ (x5_1 : Int), v5 = .int .i64 x5_1 ∧ Aside0 (spec_l2Ahead.l0 kq l0 a1 x5_1 = some r) ∧ Aside0 (kq ≤ k) ∧ Drawn0 w w')
 case atStart => exact ⟨(wrap64 (a1 - 1)), (si_), H', ⟨Nat.le_refl _⟩, by repeat (first | exact Drawn0.refl _ | apply Drawn0.step)⟩
 case round =>
  clear H'
  try clear p2
  obtain ⟨x5_1, rfl, HA, HK1, ⟨m1, rfl⟩⟩ := hrel
  cases gk with
  | zero => exact absurd HA.out (by simp [spec_l2Ahead.l0])
  | succ k1 =>
   have H := HA.out
   clear HA
   simp only [spec_l2Ahead.l0] at H
   have HC3 := Aside0.mk H
   clear H
   go_upto_region 2 with (fail)
   repeat (go_quiet (fail); go_upto_region 2 with (fail))
   go_cut [22] (fun v22 wc => ∃ (kq : Nat) (x22_2 : Bool), v22 = .bool x22_2 ∧ Aside0 (spec_l2Ahead.j1 kq l0 a1 x5_1 x22_2 = some r) ∧ Aside0 (kq ≤ k1) ∧ Drawn0 w wc)
   case first =>
    have H := HC3.out
    clear HC3
    by_cases c4 : x5_1 ≥ 0
    ·rw [if_pos c4] at H
     have c4b0 : decide (0 ≤ x5_1) = true := decide_eq_true c4
     clear c4
     (first | rw [c4b0] | (simp only [i64_w, i32_w]; rw [c4b0]) | skip)
     by_cases c5 : 0 ≤ x5_1
     ·rw [if_pos c5] at H
      have c5b0 : decide (0 ≤ x5_1) = true := decide_eq_true c5
      clear c5
      by_cases c6 : x5_1 < (l0.length : Int)
      ·rw [if_pos c6] at H
       have c6b0 : decide (x5_1 < (l0.length : Int)) = true := decide_eq_true c6
       clear c6
       by_cases c7 : 0 ≤ a1
       ·rw [if_pos c7] at H
        have c7b0 : decide (0 ≤ a1) = true := decide_eq_true c7
        clear c7
        by_cases c8 : a1 < (l0.length : Int)
        ·rw [if_pos c8] at H
         have c8b0 : decide (a1 < (l0.length : Int)) = true := decide_eq_true c8
         clear c8
         have H' := Aside0.mk H
         clear H
         have p407 : 0 ≤ (x5_1 : Int) := od_
         have q407 : x5_1 < (l0.length : Int) := od_
         obtain ⟨ad407, e407, hx407_0, hx407_1, hx407_2⟩ := at_T37 HR0.out x5_1 p407 q407
         cases e407
         replace p407 := eq_true p407
         replace q407 := eq_true q407
         have p408 : 0 ≤ (a1 : Int) := od_
         have q408 : a1 < (l0.length : Int) := od_
         obtain ⟨ad408, e408, hx408_0, hx408_1, hx408_2⟩ := at_T37 HR0.out a1 p408 q408
         obtain rfl : ad407 = ad408 := (by injection e408)
         replace p408 := eq_true p408
         replace q408 := eq_true q408
         go_wp2
         repeat (go_quiet (fail); try go_wp2)
         go_meet
         case rel => exact ⟨_, (decide (((rd_T37 l0 x5_1).f1) ≥ ((rd_T37 l0 a1).f1))), (si_), H', ⟨by have := HK1.out; first | omega | exact Nat.le_refl _⟩, by repeat (first | exact Drawn0.refl _ | apply Drawn0.step)⟩
        ·rw [if_neg c8] at H
         exact absurd H (by simp)
       ·rw [if_neg c7] at H
        exact absurd H (by simp)
      ·rw [if_neg c6] at H
       exact absurd H (by simp)
     ·rw [if_neg c5] at H
      exact absurd H (by simp)
    ·rw [if_neg c4] at H
     have c4b0 : decide (0 ≤ x5_1) = false := decide_eq_false c4
     clear c4
     (first | rw [c4b0] | (simp only [i64_w, i32_w]; rw [c4b0]) | skip)
     have H' := Aside0.mk H
     clear H
     go_wp2
     repeat (go_quiet (fail); try go_wp2)
     go_meet
     case rel => exact ⟨_, (false), (si_), H', ⟨by have := HK1.out; first | omega | exact Nat.le_refl _⟩, by repeat (first | exact Drawn0.refl _ | apply Drawn0.step)⟩
   case rest =>
    clear HC3
    try clear p2
    try clear c4
    try clear c4b0
    try clear p4
    try clear q4
    try clear hx4
    try clear c5
    try clear c5b0
    try clear c6
    try clear c6b0
    try clear p6
    try clear c7
    try clear c7b0
    try clear c8
    try clear c8b0
    try clear hx407_0
    try clear hx407_1
    try clear hx407_2
    try clear hx408_0
    try clear hx408_1
    try clear hx408_2
    try clear p2
    try clear p407
    try clear p408
    try clear q407
    try clear q408
    obtain ⟨kq, x22_2, rfl, HA, HJ2, ⟨mc2, rfl⟩⟩ := hcut
    cases kq with
    | zero => exact absurd HA.out (by simp [spec_l2Ahead.j1])
    | succ kj2 =>
     have H := HA.out
     clear HA
     simp only [spec_l2Ahead.j1] at H
     by_cases c9 : x22_2 = true
     ·subst c9
      have H1 : (if 0 ≤ x5_1 then (if x5_1 < (l0.length : Int) then (if 0 ≤ a1 then (if a1 < (l0.length : Int) then (if ((rd_T37 l0 x5_1).f1) = ((rd_T37 l0 a1).f1) then (some ((rd_T37 l0 x5_1).f0)) else (spec_l2Ahead.l0 kj2 l0 a1 (wrap64 (x5_1 - 1)))) else (none)) else (none)) else (none)) else (none)) = some r := by rw [if_pos rfl] at H; exact H
      clear H
      have H := H1
      clear H1
      by_cases c10 : 0 ≤ x5_1
      ·rw [if_pos c10] at H
       have c10b0 : decide (0 ≤ x5_1) = true := decide_eq_true c10
       clear c10
       by_cases c11 : x5_1 < (l0.length : Int)
       ·rw [if_pos c11] at H
        have c11b0 : decide (x5_1 < (l0.length : Int)) = true := decide_eq_true c11
        clear c11
        by_cases c12 : 0 ≤ a1
        ·rw [if_pos c12] at H
         have c12b0 : decide (0 ≤ a1) = true := decide_eq_true c12
         clear c12
         by_cases c13 : a1 < (l0.length : Int)
         ·rw [if_pos c13] at H
          have c13b0 : decide (a1 < (l0.length : Int)) = true := decide_eq_true c13
          clear c13
          by_cases c14 : ((rd_T37 l0 x5_1).f1) = ((rd_T37 l0 a1).f1)
          ·rw [if_pos c14] at H
           have c14b0 : (((rd_T37 l0 x5_1).f1) == ((rd_T37 l0 a1).f1)) = true := beq_iff_eq.mpr c14
           have c14b1 : (((rd_T37 l0 x5_1).f1) != ((rd_T37 l0 a1).f1)) = false := bne_eq_false_iff_eq.mpr c14
           clear c14
           obtain rfl := Option.some.inj H
           have p409 : 0 ≤ (x5_1 : Int) := od_
           have q409 : x5_1 < (l0.length : Int) := od_
           obtain ⟨ad409, e409, hx409_0, hx409_1, hx409_2⟩ := at_T37 HR0.out x5_1 p409 q409
           cases e409
           replace p409 := eq_true p409
           replace q409 := eq_true q409
           have p410 : 0 ≤ (a1 : Int) := od_
           have q410 : a1 < (l0.length : Int) := od_
           obtain ⟨ad410, e410, hx410_0, hx410_1, hx410_2⟩ := at_T37 HR0.out a1 p410 q410
           obtain rfl : ad409 = ad410 := (by injection e410)
           replace p410 := eq_true p410
           replace q410 := eq_true q410
           have p411 : 0 ≤ (x5_1 : Int) := od_
           have q411 : x5_1 < (l0.length : Int) := od_
           obtain ⟨ad411, e411, hx411_0, hx411_1, hx411_2⟩ := at_T37 HR0.out x5_1 p411 q411
           obtain rfl : ad409 = ad411 := (by injection e411)
           replace p411 := eq_true p411
           replace q411 := eq_true q411
           go_wp2
           repeat (go_quiet (fail); try go_wp2)
           go_ret
           exact ⟨si_, by repeat (first | exact Drawn0.refl _ | apply Drawn0.step)⟩
          ·rw [if_neg c14] at H
           have c14b0 : (((rd_T37 l0 x5_1).f1) == ((rd_T37 l0 a1).f1)) = false := beq_eq_false_iff_ne.mpr c14
           have c14b1 : (((rd_T37 l0 x5_1).f1) != ((rd_T37 l0 a1).f1)) = true := bne_iff_ne.mpr c14
           have H' := Aside0.mk H
           clear H
           have p409 : 0 ≤ (x5_1 : Int) := od_
           have q409 : x5_1 < (l0.length : Int) := od_
           obtain ⟨ad409, e409, hx409_0, hx409_1, hx409_2⟩ := at_T37 HR0.out x5_1 p409 q409
           cases e409
           replace p409 := eq_true p409
           replace q409 := eq_true q409
           have p410 : 0 ≤ (a1 : Int) := od_
           have q410 : a1 < (l0.length : Int) := od_
           obtain ⟨ad410, e410, hx410_0, hx410_1, hx410_2⟩ := at_T37 HR0.out a1 p410 q410
           obtain rfl : ad409 = ad410 := (by injection e410)
           replace p410 := eq_true p410
           replace q410 := eq_true q410
           go_wp2
           repeat (go_quiet (fail); try go_wp2)
           go_roundg kj2
           case measure => have := HK1.out; have := HJ2.out; omega
           case rel => exact ⟨(wrap64 (x5_1 - 1)), (si_), H', ⟨by have := HK1.out; have := HJ2.out; omega⟩, by repeat (first | exact Drawn0.refl _ | apply Drawn0.step)⟩
         ·rw [if_neg c13] at H
          exact absurd H (by simp)
        ·rw [if_neg c12] at H
         exact absurd H (by simp)
       ·rw [if_neg c11] at H
        exact absurd H (by simp)
      ·rw [if_neg c10] at H
       exact absurd H (by simp)
     ·replace c9 := Bool.eq_false_iff.mpr c9
      subst c9
      have H1 : (some 0) = some r := by rw [if_neg (show ¬ (false = true) by decide)] at H; exact H
      clear H
      have H := H1
      clear H1
      obtain rfl := Option.some.inj H
      go_wp2
      repeat (go_quiet (fail); try go_wp2)
      go_ret
      exact ⟨si_, by repeat (first | exact Drawn0.refl _ | apply Drawn0.step)⟩

def spec_TreeAhead.f (k : Nat) (l0 : List (S37)) (a1 : Int) : Option (Int × Bool) := (spec_l2At.f k l0 a1).bind fun t412 => ((spec_TreeOk.f k l0).bind fun t413 => (if t413 = true then (if t412 < 0 then (some (0, false)) else ((spec_l1Root.f a1).bind fun t414 => (if t414 = true then (some (0, false)) else ((spec_l2Ahead.f k l0 t412).bind fun t415 => (some (t415, true)))))) else (some (0, false))))
theorem spec_TreeAhead.mono : ∀ a0 a1 k, LeO (spec_TreeAhead.f k a0 a1) (spec_TreeAhead.f (k + 1) a0 a1) := by
 intro a0 a1 k
 unfold spec_TreeAhead.f
 repeat' first
   | (with_reducible exact spec_TreeOk.mono _ _)
   | (with_reducible exact spec_l2Ahead.mono _ _ _)
   | (with_reducible exact spec_l2At.mono _ _ _)
   | (with_reducible exact LeO.refl _)
   | (with_reducible exact LeO.none _)
   | (with_reducible refine LeO.ite ?_ ?_)
   | (with_reducible refine LeO.bind ?_ (fun _ => ?_))
set_option maxHeartbeats 8000000 in
set_option maxRecDepth 100000 in
theorem spec_TreeAhead.calls (k : Nat) (A0 : Option Addr) (c0 : Nat) (l0 : List (S37)) (a1 : Int) (r1 : Int) (r2 : Bool) (w : World) (hr0 : Kd.C k37 w A0 l0.length l0) (hc0 : l0.length ≤ c0) (h : spec_TreeAhead.f k l0 a1 = some (r1, r2)) :
  Calls Tryd.prog 69 #[.slice A0 l0.length c0, .int .i64 a1] w fun e w' => e = .returned (.tuple #[.int .i64 r1, .bool r2]) ∧ Below w.heap.size w w' := by
 have HR0 := Aside0.mk hr0
 have HC0 := Aside0.mk hc0
 clear hr0 hc0
 have HB := Aside0.mk (Below.refl w.heap.size w)
 unfold spec_TreeAhead.f at h
 have H := h
 clear h
 replace H := Option.bind_eq_some_iff.mp H
 obtain ⟨t412, A30, H⟩ := H
 try dsimp only at H
 have A3 := Aside0.mk A30
 clear A30
 replace H := Option.bind_eq_some_iff.mp H
 obtain ⟨t413, A40, H⟩ := H
 try dsimp only at H
 have A4 := Aside0.mk A40
 clear A40
 by_cases c5 : t413 = true
 ·subst c5
  have H1 : (if t412 < 0 then (some (0, false)) else ((spec_l1Root.f a1).bind fun t414 => (if t414 = true then (some (0, false)) else ((spec_l2Ahead.f k l0 t412).bind fun t415 => (some (t415, true)))))) = some (r1, r2) := by rw [if_pos rfl] at H; exact H
  clear H
  have H := H1
  clear H1
  by_cases c6 : t412 < 0
  ·rw [if_pos c6] at H
   have c6b0 : decide (t412 < 0) = true := decide_eq_true c6
   clear c6
   simp only [Option.some.injEq, Prod.mk.injEq] at H
   obtain ⟨rfl, rfl⟩ := H
   go_enter Tryd.func69, Tryd.ntmps69
   go_wp2_with (first | ((with_reducible refine gate_callee (f := 54) rfl ?_); refine gl_ 9 Tryd.func54 #[.slice A0 l0.length c0, .int .i64 a1] ?_; (with_reducible refine (spec_l2At.calls k _ _ l0 a1 t412 _ ?side1 ?side2 A3.out).mono ?_); (case side1 => exact cx_ HR0.out); (case side2 => exact HC0.out); rintro e w' ⟨rfl, ⟨nd, rfl⟩⟩; refine ⟨_, rfl, ?_⟩) | ((with_reducible refine gate_callee (f := 19) rfl ?_); refine gl_ 11 Tryd.func19 #[.slice A0 l0.length c0] ?_; (with_reducible refine (spec_TreeOk.calls k _ _ l0 true _ ?side1 ?side2 A4.out).mono ?_); (case side1 => exact cx_ HR0.out); (case side2 => exact HC0.out); rintro e w7 ⟨rfl, hb⟩; refine ⟨_, rfl, ?_⟩; replace HB := Aside0.mk (below_step (bel_) hb); (try clear hb)))
   go_ret2
   exact ⟨fi_, bel_⟩
  ·rw [if_neg c6] at H
   have c6b0 : decide (t412 < 0) = false := decide_eq_false c6
   clear c6
   replace H := Option.bind_eq_some_iff.mp H
   obtain ⟨t414, A80, H⟩ := H
   try dsimp only at H
   have A8 := Aside0.mk A80
   clear A80
   by_cases c9 : t414 = true
   ·subst c9
    have H1 : (some (0, false)) = some (r1, r2) := by rw [if_pos rfl] at H; exact H
    clear H
    have H := H1
    clear H1
    simp only [Option.some.injEq, Prod.mk.injEq] at H
    obtain ⟨rfl, rfl⟩ := H
    go_enter Tryd.func69, Tryd.ntmps69
    go_wp2_with (first | ((with_reducible refine gate_callee (f := 54) rfl ?_); refine gl_ 9 Tryd.func54 #[.slice A0 l0.length c0, .int .i64 a1] ?_; (with_reducible refine (spec_l2At.calls k _ _ l0 a1 t412 _ ?side1 ?side2 A3.out).mono ?_); (case side1 => exact cx_ HR0.out); (case side2 => exact HC0.out); rintro e w' ⟨rfl, ⟨nd, rfl⟩⟩; refine ⟨_, rfl, ?_⟩) | ((with_reducible refine gate_callee (f := 19) rfl ?_); refine gl_ 11 Tryd.func19 #[.slice A0 l0.length c0] ?_; (with_reducible refine (spec_TreeOk.calls k _ _ l0 true _ ?side1 ?side2 A4.out).mono ?_); (case side1 => exact cx_ HR0.out); (case side2 => exact HC0.out); rintro e w10 ⟨rfl, hb⟩; refine ⟨_, rfl, ?_⟩; replace HB := Aside0.mk (below_step (bel_) hb); (try clear hb)) | (go_at_call 59; (with_reducible refine (spec_l1Root.calls a1 true _ A8.out).mono ?_); rintro e w' ⟨rfl, ⟨nd, rfl⟩⟩))
    go_ret2
    exact ⟨fi_, bel_⟩
   ·replace c9 := Bool.eq_false_iff.mpr c9
    subst c9
    have H1 : ((spec_l2Ahead.f k l0 t412).bind fun t415 => (some (t415, true))) = some (r1, r2) := by rw [if_neg (show ¬ (false = true) by decide)] at H; exact H
    clear H
    have H := H1
    clear H1
    replace H := Option.bind_eq_some_iff.mp H
    obtain ⟨t415, A110, H⟩ := H
    try dsimp only at H
    have A11 := Aside0.mk A110
    clear A110
    simp only [Option.some.injEq, Prod.mk.injEq] at H
    obtain ⟨rfl, rfl⟩ := H
    go_enter Tryd.func69, Tryd.ntmps69
    go_wp2_with (first | ((with_reducible refine gate_callee (f := 54) rfl ?_); refine gl_ 9 Tryd.func54 #[.slice A0 l0.length c0, .int .i64 a1] ?_; (with_reducible refine (spec_l2At.calls k _ _ l0 a1 t412 _ ?side1 ?side2 A3.out).mono ?_); (case side1 => exact cx_ HR0.out); (case side2 => exact HC0.out); rintro e w' ⟨rfl, ⟨nd, rfl⟩⟩; refine ⟨_, rfl, ?_⟩) | ((with_reducible refine gate_callee (f := 19) rfl ?_); refine gl_ 11 Tryd.func19 #[.slice A0 l0.length c0] ?_; (with_reducible refine (spec_TreeOk.calls k _ _ l0 true _ ?side1 ?side2 A4.out).mono ?_); (case side1 => exact cx_ HR0.out); (case side2 => exact HC0.out); rintro e w12 ⟨rfl, hb⟩; refine ⟨_, rfl, ?_⟩; replace HB := Aside0.mk (below_step (bel_) hb); (try clear hb)) | (go_at_call 59; (with_reducible refine (spec_l1Root.calls a1 false _ A8.out).mono ?_); rintro e w' ⟨rfl, ⟨nd, rfl⟩⟩) | ((with_reducible refine gate_callee (f := 83) rfl ?_); refine gl_ 23 Tryd.func83 #[.slice A0 l0.length c0, .int .i64 t412] ?_; (with_reducible refine (spec_l2Ahead.calls k _ _ l0 t412 t415 _ ?side1 ?side2 A11.out).mono ?_); (case side1 => repeat (first | exact (Kd.C_below HR0.out (bel_)) | (with_reducible refine Kd.C_alloc ?_ _) | (with_reducible refine Kd.C_drewN ?_ _) | (with_reducible refine Kd.C_drew ?_))); (case side2 => exact HC0.out); rintro e w' ⟨rfl, ⟨nd, rfl⟩⟩; refine ⟨_, rfl, ?_⟩))
    go_ret2
    exact ⟨fi_, bel_⟩
 ·replace c5 := Bool.eq_false_iff.mpr c5
  subst c5
  have H1 : (some (0, false)) = some (r1, r2) := by rw [if_neg (show ¬ (false = true) by decide)] at H; exact H
  clear H
  have H := H1
  clear H1
  simp only [Option.some.injEq, Prod.mk.injEq] at H
  obtain ⟨rfl, rfl⟩ := H
  go_enter Tryd.func69, Tryd.ntmps69
  go_wp2_with (first | ((with_reducible refine gate_callee (f := 54) rfl ?_); refine gl_ 9 Tryd.func54 #[.slice A0 l0.length c0, .int .i64 a1] ?_; (with_reducible refine (spec_l2At.calls k _ _ l0 a1 t412 _ ?side1 ?side2 A3.out).mono ?_); (case side1 => exact cx_ HR0.out); (case side2 => exact HC0.out); rintro e w' ⟨rfl, ⟨nd, rfl⟩⟩; refine ⟨_, rfl, ?_⟩) | ((with_reducible refine gate_callee (f := 19) rfl ?_); refine gl_ 11 Tryd.func19 #[.slice A0 l0.length c0] ?_; (with_reducible refine (spec_TreeOk.calls k _ _ l0 false _ ?side1 ?side2 A4.out).mono ?_); (case side1 => exact cx_ HR0.out); (case side2 => exact HC0.out); rintro e w13 ⟨rfl, hb⟩; refine ⟨_, rfl, ?_⟩; replace HB := Aside0.mk (below_step (bel_) hb); (try clear hb)))
  go_ret2
  exact ⟨fi_, bel_⟩

mutual
def spec_DrawTreeAhead.l0 : Nat → List (S37) → Int → Int → List Int → Int → Option ((List (S37)) × Int)
 | 0, _, _, _, _, _ => none
 | k + 1, x5, x6, x7, x419000, x419001 => if x7 < 5 then ((spec_l6Rd_pick.f k x419000 x419001 6).bind fun bt424 => (spec_DrawTreeAhead.j1 k x5 x6 x7 (decide (bt424.1 > 0)) x419000 bt424.2)) else (spec_DrawTreeAhead.j1 k x5 x6 x7 false x419000 x419001)
def spec_DrawTreeAhead.j1 : Nat → List (S37) → Int → Int → Bool → List Int → Int → Option ((List (S37)) × Int)
 | 0, _, _, _, _, _, _ => none
 | k + 1, x5, x6, x7, x23, x419000, x419001 => if x23 = true then ((spec_TreeAhead.f k x5 x6).bind fun bt426 => (if bt426.1 > 0 then (some (x5, x6)) else ((spec_l71Row.f k x419000 x419001).bind fun bt428 => (spec_DrawTreeAhead.l0 k bt428.1 bt428.2.1 (wrap64 (x7 + 1)) x419000 bt428.2.2)))) else (some (x5, x6))
end
def spec_DrawTreeAhead.f (k : Nat) (l0 : List Int) : Option ((List (S37)) × Int) := (spec_l6Open.f l0).bind fun bt416 => ((spec_l71Row.f k bt416.1 bt416.2).bind fun bt419 => (spec_DrawTreeAhead.l0 k bt419.1 bt419.2.1 0 bt416.1 bt419.2.2))
theorem spec_DrawTreeAhead.mono_l : ∀ k, (∀ y0 y1 y2 y3 y4, LeO (spec_DrawTreeAhead.l0 k y0 y1 y2 y3 y4) (spec_DrawTreeAhead.l0 (k + 1) y0 y1 y2 y3 y4)) ∧ (∀ y0 y1 y2 y3 y4 y5, LeO (spec_DrawTreeAhead.j1 k y0 y1 y2 y3 y4 y5) (spec_DrawTreeAhead.j1 (k + 1) y0 y1 y2 y3 y4 y5))
 | 0 => ⟨fun _ _ _ _ _ r h => by simp [spec_DrawTreeAhead.l0] at h, fun _ _ _ _ _ _ r h => by simp [spec_DrawTreeAhead.j1] at h⟩
 | k + 1 => by
  obtain ⟨ih0, ih1⟩ := spec_DrawTreeAhead.mono_l k
  refine ⟨?_, ?_⟩
  all_goals intros
  all_goals first | unfold spec_DrawTreeAhead.l0 | unfold spec_DrawTreeAhead.j1
  all_goals repeat' first
  | (with_reducible exact ih0 _ _ _ _ _)
  | (with_reducible exact ih1 _ _ _ _ _ _)
  | (with_reducible exact spec_TreeAhead.mono _ _ _)
  | (with_reducible exact spec_l6Rd_pick.mono _ _ _ _)
  | (with_reducible exact spec_l71Row.mono _ _ _)
  | (with_reducible exact LeO.refl _)
  | (with_reducible exact LeO.none _)
  | (with_reducible refine LeO.ite ?_ ?_)
  | (with_reducible refine LeO.bind ?_ (fun _ => ?_))
theorem spec_DrawTreeAhead.mono : ∀ a0 k, LeO (spec_DrawTreeAhead.f k a0) (spec_DrawTreeAhead.f (k + 1) a0) := by
 intro a0 k
 obtain ⟨ih0, ih1⟩ := spec_DrawTreeAhead.mono_l k
 unfold spec_DrawTreeAhead.f
 repeat' first
   | (with_reducible exact ih0 _ _ _ _ _)
   | (with_reducible exact ih1 _ _ _ _ _ _)
   | (with_reducible exact spec_TreeAhead.mono _ _ _)
   | (with_reducible exact spec_l6Rd_pick.mono _ _ _ _)
   | (with_reducible exact spec_l71Row.mono _ _ _)
   | (with_reducible exact LeO.refl _)
   | (with_reducible exact LeO.none _)
   | (with_reducible refine LeO.ite ?_ ?_)
   | (with_reducible refine LeO.bind ?_ (fun _ => ?_))
set_option maxHeartbeats 8000000 in
set_option maxRecDepth 100000 in
theorem spec_DrawTreeAhead.calls (k : Nat) (A0 : Option Addr) (c0 : Nat) (l0 : List Int) (r1 : List (S37)) (r2 : Int) (w : World) (hr0 : Kd.C (Kd.int .u8) w A0 l0.length l0) (hc0 : l0.length ≤ c0) (h : spec_DrawTreeAhead.f k l0 = some (r1, r2)) :
  Calls Tryd.prog 68 #[.slice A0 l0.length c0] w fun e w' => ∃ v0_ : Value, e = .returned (.tuple #[v0_, .int .i64 r2]) ∧ Kd.Q k37 37 w' w.heap.size (fun _ => True) v0_ r1 ∧ Below w.heap.size w w' := by
 have HR0 := Aside0.mk hr0
 have HC0 := Aside0.mk hc0
 clear hr0 hc0
 have HB := Aside0.mk (Below.refl w.heap.size w)
 unfold spec_DrawTreeAhead.f at h
 have H := h
 clear h
 replace H := Option.bind_eq_some_iff.mp H
 obtain ⟨⟨t416, t417⟩, A20, H⟩ := H
 try dsimp only at H
 have A2 := Aside0.mk A20
 clear A20
 replace H := Option.bind_eq_some_iff.mp H
 obtain ⟨⟨t419, t422, t423⟩, A30, H⟩ := H
 try dsimp only at H
 have A3 := Aside0.mk A30
 clear A30
 have H' := Aside0.mk H
 clear H
 go_enter Tryd.func68, Tryd.ntmps68
 go_wp2_with (first | ((with_reducible refine gate_callee (f := 52) rfl ?_); refine gl_ 11 Tryd.func52 #[.slice A0 l0.length c0] ?_; (with_reducible refine (spec_l6Open.calls _ _ l0 t416 t417 w _ ?side1 ?side2 ?side3 A2.out).mono ?_); (case side1 => exact bel_); (case side2 => exact HR0.out); (case side3 => exact HC0.out); rintro e w4 ⟨g418, rfl, hi, hb, hb2⟩; refine ⟨_, rfl, ?_⟩; replace HB := Aside0.mk (hb); have HI418 := Aside0.mk (hi); (try clear hb hb2 hi)) | ((with_reducible refine gate_callee (f := 51) rfl ?_); refine gl_ 14 Tryd.func51 #[.pointer (some ⟨g418, 0, none⟩)] ?_; (with_reducible refine (spec_l71Row.calls k g418 t416 t417 t419 t422 t423 w _ ?side1 ?side2 A3.out).mono ?_); (case side1 => exact is_HI418); (case side2 => exact bel_); rintro e w5 ⟨v420, rfl, ho0, hi, hb, hk⟩; refine ⟨_, rfl, ?_⟩; have HO421 := Aside0.mk (Kd.Q_lower ho0 (below_size (bel_))); replace HB := Aside0.mk (hb); replace HI418 := Aside0.mk (hi); (try clear hb hk hi ho0)))
 go_loopg [5, 6, 7] k (fun kq v5 v6 v7 w' => ∃ (x5_1 : List (S37)) (x6_1 : Int) (x7_1 : Int) (x419001_1 : Int), v6 = .int .i64 x6_1 ∧ v7 = .int .i64 x7_1 ∧ Aside0 (spec_DrawTreeAhead.l0 kq x5_1 x6_1 x7_1 t416 x419001_1 = some (r1, r2)) ∧ Aside0 (kq ≤ k) ∧ Aside0 (Kd.Q k37 37 w' w.heap.size (fun _ => True) v5 x5_1) ∧ Aside0 (IsS102 w w' g418 t416 x419001_1) ∧ Aside0 (Below w.heap.size w w'))
 case atStart => exact ⟨(t419), (t422), (0), (t423), (si_), (si_), H', ⟨Nat.le_refl _⟩, ⟨by (with_reducible repeat (first | apply Kd.Q_alloc | apply Kd.Q_drewN | apply Kd.Q_drew)); exact HO421.out⟩, ⟨is_HI418⟩, ⟨bel_⟩⟩
 case round =>
  clear H'
  try clear p2
  try clear c5
  obtain ⟨x5_1, x6_1, x7_1, x419001_1, rfl, rfl, HA, HK1, HO_5, HI418, HB⟩ := hrel
  cases gk with
  | zero => exact absurd HA.out (by simp [spec_DrawTreeAhead.l0])
  | succ k1 =>
   have H := HA.out
   clear HA
   simp only [spec_DrawTreeAhead.l0] at H
   have HC6 := Aside0.mk H
   clear H
   go_upto_region 4 with (fail)
   go_cut [23] (fun v23 wc => ∃ (kq : Nat) (x23_5 : Bool) (x419001_5 : Int), v23 = .bool x23_5 ∧ Aside0 (spec_DrawTreeAhead.j1 kq x5_1 x6_1 x7_1 x23_5 t416 x419001_5 = some (r1, r2)) ∧ Aside0 (kq ≤ k1) ∧ Aside0 (Kd.Q k37 37 wc w.heap.size (fun _ => True) u5 x5_1) ∧ Aside0 (IsS102 w wc g418 t416 x419001_5) ∧ Aside0 (Below w.heap.size w wc))
   case first =>
    have H := HC6.out
    clear HC6
    by_cases c7 : x7_1 < 5
    ·rw [if_pos c7] at H
     have c7b0 : decide (x7_1 < 5) = true := decide_eq_true c7
     clear c7
     (first | rw [c7b0] | (simp only [i64_w, i32_w]; rw [c7b0]) | skip)
     replace H := Option.bind_eq_some_iff.mp H
     obtain ⟨⟨t424, t425⟩, A80, H⟩ := H
     try dsimp only at H
     have A8 := Aside0.mk A80
     clear A80
     have H' := Aside0.mk H
     clear H
     go_wp2_with (first | (go_at_call 73; (with_reducible refine (spec_l6Rd_pick.calls k1 g418 t416 x419001_1 6 t424 t425 w _ ?side1 ?side2 A8.out).mono ?_); (case side1 => exact is_HI418); (case side2 => exact bel_); rintro e w9 ⟨rfl, hi, hb, hk⟩; replace HO_5 := Aside0.mk (Kd.Q_mono (Kd.Q_keep (IsS102.apartQ (show IsS102 w _ g418 t416 x419001_1 from is_HI418) (qp_ HO_5.out) (by decide)) hk (fun _ h => h.2)) (fun _ h => h.1)); replace HB := Aside0.mk (hb); replace HI418 := Aside0.mk (hi); (try clear hb hk hi)))
     go_meet
     case rel => exact ⟨_, (decide (t424 > 0)), (t425), (si_), H', ⟨by have := HK1.out; first | omega | exact Nat.le_refl _⟩, ⟨by (with_reducible repeat (first | apply Kd.Q_alloc | apply Kd.Q_drewN | apply Kd.Q_drew)); exact HO_5.out⟩, ⟨is_HI418⟩, ⟨bel_⟩⟩
    ·rw [if_neg c7] at H
     have c7b0 : decide (x7_1 < 5) = false := decide_eq_false c7
     clear c7
     (first | rw [c7b0] | (simp only [i64_w, i32_w]; rw [c7b0]) | skip)
     have H' := Aside0.mk H
     clear H
     go_wp2
     go_meet
     case rel => exact ⟨_, (false), (x419001_1), (si_), H', ⟨by have := HK1.out; first | omega | exact Nat.le_refl _⟩, ⟨by (with_reducible repeat (first | apply Kd.Q_alloc | apply Kd.Q_drewN | apply Kd.Q_drew)); exact HO_5.out⟩, ⟨is_HI418⟩, ⟨bel_⟩⟩
   case rest =>
    clear HC6
    try clear p2
    try clear c5
    try clear c6
    try clear c7
    try clear c7b0
    try clear p2
    obtain ⟨kq, x23_5, x419001_5, rfl, HA, HJ5, HO_5, HI418, HB⟩ := hcut
    cases kq with
    | zero => exact absurd HA.out (by simp [spec_DrawTreeAhead.j1])
    | succ kj5 =>
     have H := HA.out
     clear HA
     simp only [spec_DrawTreeAhead.j1] at H
     by_cases c10 : x23_5 = true
     ·subst c10
      have H1 : ((spec_TreeAhead.f kj5 x5_1 x6_1).bind fun bt426 => (if bt426.1 > 0 then (some (x5_1, x6_1)) else ((spec_l71Row.f kj5 t416 x419001_5).bind fun bt428 => (spec_DrawTreeAhead.l0 kj5 bt428.1 bt428.2.1 (wrap64 (x7_1 + 1)) t416 bt428.2.2)))) = some (r1, r2) := by rw [if_pos rfl] at H; exact H
      clear H
      have H := H1
      clear H1
      replace H := Option.bind_eq_some_iff.mp H
      obtain ⟨⟨t426, t427⟩, A110, H⟩ := H
      try dsimp only at H
      have A11 := Aside0.mk A110
      clear A110
      by_cases c12 : t426 > 0
      ·rw [if_pos c12] at H
       have c12b0 : decide (0 < t426) = true := decide_eq_true c12
       clear c12
       simp only [Option.some.injEq, Prod.mk.injEq] at H
       obtain ⟨rfl, rfl⟩ := H
       obtain ⟨Ao13, co13, eo13, _⟩ := Kd.Q_slice HO_5.out
       subst eo13
       go_wp2_with (first | ((with_reducible refine gate_callee (f := 69) rfl ?_); refine gl_ 29 Tryd.func69 #[.slice Ao13 x5_1.length co13, .int .i64 x6_1] ?_; (with_reducible refine (spec_TreeAhead.calls kj5 _ _ x5_1 x6_1 t426 t427 _ ?side1 ?side2 A11.out).mono ?_); (case side1 => exact cx_ (Kd.Q_reads' HO_5.out).2.2); (case side2 => exact (Kd.Q_reads' HO_5.out).2.1); rintro e w14 ⟨rfl, hb⟩; refine ⟨_, rfl, ?_⟩; replace HO_5 := Aside0.mk (Kd.Q_below (qp_ HO_5.out) hb); replace HB := Aside0.mk (below_step (bel_) hb); replace HI418 := Aside0.mk (IsS102.below (is_HI418) hb); (try clear hb)))
       go_ret2
       exact ⟨_, fi_, by (with_reducible repeat (first | apply Kd.Q_alloc | apply Kd.Q_drewN | apply Kd.Q_drew)); exact HO_5.out, bel_⟩
      ·rw [if_neg c12] at H
       have c12b0 : decide (0 < t426) = false := decide_eq_false c12
       clear c12
       replace H := Option.bind_eq_some_iff.mp H
       obtain ⟨⟨t428, t431, t432⟩, A150, H⟩ := H
       try dsimp only at H
       have A15 := Aside0.mk A150
       clear A150
       have H' := Aside0.mk H
       clear H
       obtain ⟨Ao16, co16, eo16, _⟩ := Kd.Q_slice HO_5.out
       subst eo16
       go_wp2_with (first | ((with_reducible refine gate_callee (f := 69) rfl ?_); refine gl_ 29 Tryd.func69 #[.slice Ao16 x5_1.length co16, .int .i64 x6_1] ?_; (with_reducible refine (spec_TreeAhead.calls kj5 _ _ x5_1 x6_1 t426 t427 _ ?side1 ?side2 A11.out).mono ?_); (case side1 => exact cx_ (Kd.Q_reads' HO_5.out).2.2); (case side2 => exact (Kd.Q_reads' HO_5.out).2.1); rintro e w17 ⟨rfl, hb⟩; refine ⟨_, rfl, ?_⟩; replace HO_5 := Aside0.mk (Kd.Q_below (qp_ HO_5.out) hb); replace HB := Aside0.mk (below_step (bel_) hb); replace HI418 := Aside0.mk (IsS102.below (is_HI418) hb); (try clear hb)) | ((with_reducible refine gate_callee (f := 51) rfl ?_); refine gl_ 38 Tryd.func51 #[.pointer (some ⟨g418, 0, none⟩)] ?_; (with_reducible refine (spec_l71Row.calls kj5 g418 t416 x419001_5 t428 t431 t432 w _ ?side1 ?side2 A15.out).mono ?_); (case side1 => exact is_HI418); (case side2 => exact bel_); rintro e w18 ⟨v429, rfl, ho0, hi, hb, hk⟩; refine ⟨_, rfl, ?_⟩; have HO430 := Aside0.mk (Kd.Q_lower (Kd.Q_new' ho0 (Kd.Q_lt (qp_ HO_5.out))) (below_size (bel_))); replace HO_5 := Aside0.mk (Kd.Q_mono (Kd.Q_told (Kd.Q_oldK (IsS102.apartQ (show IsS102 w _ g418 t416 x419001_5 from is_HI418) (qp_ HO_5.out) (by decide)) hk) (Kd.Q_base ho0)) (fun _ h_ => h_.1)); replace HB := Aside0.mk (hb); replace HI418 := Aside0.mk (hi); (try clear hb hk hi ho0)))
       go_roundg kj5
       case measure => have := HK1.out; have := HJ5.out; omega
       case rel => exact ⟨(t428), (t431), (wrap64 (x7_1 + 1)), (t432), (si_), (si_), H', ⟨by have := HK1.out; have := HJ5.out; omega⟩, ⟨by (with_reducible repeat (first | apply Kd.Q_alloc | apply Kd.Q_drewN | apply Kd.Q_drew)); exact Kd.Q_mono HO430.out (fun _ hk => trivial)⟩, ⟨is_HI418⟩, ⟨bel_⟩⟩
     ·replace c10 := Bool.eq_false_iff.mpr c10
      subst c10
      have H1 : (some (x5_1, x6_1)) = some (r1, r2) := by rw [if_neg (show ¬ (false = true) by decide)] at H; exact H
      clear H
      have H := H1
      clear H1
      simp only [Option.some.injEq, Prod.mk.injEq] at H
      obtain ⟨rfl, rfl⟩ := H
      go_wp2
      go_ret2
      exact ⟨_, fi_, by (with_reducible repeat (first | apply Kd.Q_alloc | apply Kd.Q_drewN | apply Kd.Q_drew)); exact HO_5.out, bel_⟩

def spec_DrawKeyIn.f (k : Nat) (l0 : List Int) : Option ((List (S37)) × Int) := (spec_DrawTreeAhead.f k l0).bind fun bt433 => (some (bt433.1, bt433.2))
theorem spec_DrawKeyIn.mono : ∀ a0 k, LeO (spec_DrawKeyIn.f k a0) (spec_DrawKeyIn.f (k + 1) a0) := by
 intro a0 k
 unfold spec_DrawKeyIn.f
 repeat' first
   | (with_reducible exact spec_DrawTreeAhead.mono _ _)
   | (with_reducible exact LeO.refl _)
   | (with_reducible exact LeO.none _)
   | (with_reducible refine LeO.ite ?_ ?_)
   | (with_reducible refine LeO.bind ?_ (fun _ => ?_))
set_option maxHeartbeats 8000000 in
set_option maxRecDepth 100000 in
theorem spec_DrawKeyIn.calls (k : Nat) (A0 : Option Addr) (c0 : Nat) (l0 : List Int) (r1 : List (S37)) (r2 : Int) (w : World) (hr0 : Kd.C (Kd.int .u8) w A0 l0.length l0) (hc0 : l0.length ≤ c0) (h : spec_DrawKeyIn.f k l0 = some (r1, r2)) :
  Calls Tryd.prog 26 #[.slice A0 l0.length c0] w fun e w' => ∃ v0_ : Value, e = .returned (.tuple #[v0_, .int .i64 r2]) ∧ Kd.Q k37 37 w' w.heap.size (fun _ => True) v0_ r1 ∧ Below w.heap.size w w' := by
 have HR0 := Aside0.mk hr0
 have HC0 := Aside0.mk hc0
 clear hr0 hc0
 have HB := Aside0.mk (Below.refl w.heap.size w)
 unfold spec_DrawKeyIn.f at h
 have H := h
 clear h
 replace H := Option.bind_eq_some_iff.mp H
 obtain ⟨⟨t433, t434⟩, A20, H⟩ := H
 try dsimp only at H
 have A2 := Aside0.mk A20
 clear A20
 simp only [Option.some.injEq, Prod.mk.injEq] at H
 obtain ⟨rfl, rfl⟩ := H
 go_enter Tryd.func26, Tryd.ntmps26
 go_wp2_with (first | ((with_reducible refine gate_callee (f := 68) rfl ?_); refine gl_ 5 Tryd.func68 #[.slice A0 l0.length c0] ?_; (with_reducible refine (spec_DrawTreeAhead.calls k _ _ l0 t433 t434 _ ?side1 ?side2 A2.out).mono ?_); (case side1 => exact cx_ HR0.out); (case side2 => exact HC0.out); rintro e w3 ⟨v435, rfl, ho0, hb⟩; refine ⟨_, rfl, ?_⟩; have HO436 := Aside0.mk (Kd.Q_lower ho0 (below_size (bel_))); replace HB := Aside0.mk (below_step (bel_) hb); (try clear hb ho0)))
 go_ret2
 exact ⟨_, fi_, by (with_reducible repeat (first | apply Kd.Q_alloc | apply Kd.Q_drewN | apply Kd.Q_drew)); exact HO436.out, bel_⟩

def spec_KeyIn.j0 : Nat → List (S37) → Int → Int → Bool → Option (Int × Int × Int × Int × ByteArray × Bool)
 | 0, _, _, _, _ => none
 | k + 1, x0, x1, x6, x20 => if x20 = true then (some (0, 0, 0, 0, (⟨#[]⟩ : ByteArray), false)) else ((spec_l2Kids.f k x0 x6).bind fun t440 => (if (t440.length : Int) = 0 then ((spec_l11Move.f x1 x6 0).bind fun bt443 => (some (bt443.1, bt443.2.1, bt443.2.2.1, bt443.2.2.2.1, bt443.2.2.2.2, true))) else (if 0 ≤ (wrap64 ((t440.length : Int) - 1)) then (if (wrap64 ((t440.length : Int) - 1)) < (t440.length : Int) then ((spec_l11Move.f x1 x6 (rd t440 (wrap64 ((t440.length : Int) - 1)))).bind fun bt449 => (some (bt449.1, bt449.2.1, bt449.2.2.1, bt449.2.2.2.1, bt449.2.2.2.2, true))) else (none)) else (none))))
def spec_KeyIn.f (k : Nat) (l0 : List (S37)) (a1 : Int) : Option (Int × Int × Int × Int × ByteArray × Bool) := (spec_TreeAhead.f k l0 a1).bind fun bt438 => (if bt438.2 = true then (spec_KeyIn.j0 k l0 a1 bt438.1 (bt438.1 == 0)) else (spec_KeyIn.j0 k l0 a1 bt438.1 true))
theorem spec_KeyIn.mono_l : ∀ k, (∀ y0 y1 y2 y3, LeO (spec_KeyIn.j0 k y0 y1 y2 y3) (spec_KeyIn.j0 (k + 1) y0 y1 y2 y3))
 | 0 => fun _ _ _ _ r h => by simp [spec_KeyIn.j0] at h
 | k + 1 => by
  have ih0 := spec_KeyIn.mono_l k
  ·intro y0 y1 y2 y3
   unfold spec_KeyIn.j0
   repeat' first
   | (with_reducible exact ih0 _ _ _ _)
   | (with_reducible exact spec_TreeAhead.mono _ _ _)
   | (with_reducible exact spec_l2Kids.mono _ _ _)
   | (with_reducible exact LeO.refl _)
   | (with_reducible exact LeO.none _)
   | (with_reducible refine LeO.ite ?_ ?_)
   | (with_reducible refine LeO.bind ?_ (fun _ => ?_))
theorem spec_KeyIn.mono : ∀ a0 a1 k, LeO (spec_KeyIn.f k a0 a1) (spec_KeyIn.f (k + 1) a0 a1) := by
 intro a0 a1 k
 have ih0 := spec_KeyIn.mono_l k
 unfold spec_KeyIn.f
 repeat' first
   | (with_reducible exact ih0 _ _ _ _)
   | (with_reducible exact spec_TreeAhead.mono _ _ _)
   | (with_reducible exact spec_l2Kids.mono _ _ _)
   | (with_reducible exact LeO.refl _)
   | (with_reducible exact LeO.none _)
   | (with_reducible refine LeO.ite ?_ ?_)
   | (with_reducible refine LeO.bind ?_ (fun _ => ?_))
set_option maxHeartbeats 8000000 in
set_option maxRecDepth 100000 in
theorem spec_KeyIn.calls (k : Nat) (A0 : Option Addr) (c0 : Nat) (l0 : List (S37)) (a1 : Int) (r1 : Int) (r2 : Int) (r3 : Int) (r4 : Int) (r5 : ByteArray) (r6 : Bool) (w : World) (hr0 : Kd.C k37 w A0 l0.length l0) (hc0 : l0.length ≤ c0) (h : spec_KeyIn.f k l0 a1 = some (r1, r2, r3, r4, r5, r6)) :
  Calls Tryd.prog 27 #[.slice A0 l0.length c0, .int .i64 a1] w fun e w' => e = .returned (.tuple #[.agg #[.int .i64 r1, .int .i64 r2, .int .i64 r3, .int .i64 r4, .string r5], .bool r6]) ∧ Below w.heap.size w w' := by
 have hu27 := Tryd.underlying27
 have HR0 := Aside0.mk hr0
 have HC0 := Aside0.mk hc0
 clear hr0 hc0
 have HB := Aside0.mk (Below.refl w.heap.size w)
 unfold spec_KeyIn.f at h
 have H := h
 clear h
 replace H := Option.bind_eq_some_iff.mp H
 obtain ⟨⟨t438, t439⟩, A30, H⟩ := H
 try dsimp only at H
 have A3 := Aside0.mk A30
 clear A30
 have HC4 := Aside0.mk H
 clear H
 go_enter Tryd.func27, Tryd.ntmps27
 go_upto_region 2 with (first | ((with_reducible refine gate_dst (N := 4) rfl ?_); refine bx_ 4 (#[.int .i64 0, .int .i64 0, .int .i64 0, .int .i64 0, .string (⟨#[]⟩ : ByteArray)]) 27 ?_; intro gb437 hg w5 hbox hb; have n0_ := Aside0.mk (below_step (bel_) hb); have n1_ := Aside0.mk (hbox); have n2_ := Aside0.mk ((by rw [hg]; exact (below_size (bel_)) : w.heap.size ≤ gb437)); have n3_ := Aside0.mk ((by rw [hg]; exact (below_size (bel_)) : w.heap.size ≤ gb437)); clear HB; have HB := n0_; have BK437 := n1_; have GW437 := n2_; have GE437 := n3_; clear n0_ n1_ n2_ n3_; clear hb hbox hg) | ((with_reducible refine gate_callee (f := 69) rfl ?_); refine gl_ 12 Tryd.func69 #[.slice A0 l0.length c0, .int .i64 a1] ?_; (with_reducible refine (spec_TreeAhead.calls k _ _ l0 a1 t438 t439 _ ?side1 ?side2 A3.out).mono ?_); (case side1 => exact cp_ HR0.out); (case side2 => exact HC0.out); rintro e w6 ⟨rfl, hb⟩; refine ⟨_, rfl, ?_⟩; replace HB := Aside0.mk (below_step (bel_) hb); replace BK437 := Aside0.mk (bb_ BK437.out hb); (try clear hb)))
 (try simp only [Act.put, List.setIfInBounds_toArray, List.set_cons_zero, List.set_cons_succ])
 go_cut [20] (fun v20 wc => ∃ (kq : Nat) (x20_3 : Bool), v20 = .bool x20_3 ∧ Aside0 (spec_KeyIn.j0 kq l0 a1 t438 x20_3 = some (r1, r2, r3, r4, r5, r6)) ∧ Aside0 (kq ≤ k) ∧ Aside0 (wc.heap[gb437]? = some (.cells #[.int .i64 0, .int .i64 0, .int .i64 0, .int .i64 0, .string (⟨#[]⟩ : ByteArray)] 27 (0, 0))) ∧ Aside0 (Below w.heap.size w wc))
 case first =>
  have H := HC4.out
  clear HC4
  by_cases c7 : t439 = true
  ·subst c7
   have H1 : (spec_KeyIn.j0 k l0 a1 t438 (t438 == 0)) = some (r1, r2, r3, r4, r5, r6) := by rw [if_pos rfl] at H; exact H
   clear H
   have H := H1
   clear H1
   have H' := Aside0.mk H
   clear H
   go_wp2
   go_meet
   case rel => exact ⟨_, ((t438 == 0)), (si_), H', ⟨by first | omega | exact Nat.le_refl _⟩, ⟨by (with_reducible repeat (first | refine blk_drewN ?_ _ | refine blk_drew ?_ | refine blk_alloc ?_ _)); exact BK437.out⟩, ⟨bel_⟩⟩
  ·replace c7 := Bool.eq_false_iff.mpr c7
   subst c7
   have H1 : (spec_KeyIn.j0 k l0 a1 t438 true) = some (r1, r2, r3, r4, r5, r6) := by rw [if_neg (show ¬ (false = true) by decide)] at H; exact H
   clear H
   have H := H1
   clear H1
   have H' := Aside0.mk H
   clear H
   go_wp2
   go_meet
   case rel => exact ⟨_, (true), (si_), H', ⟨by first | omega | exact Nat.le_refl _⟩, ⟨by (with_reducible repeat (first | refine blk_drewN ?_ _ | refine blk_drew ?_ | refine blk_alloc ?_ _)); exact BK437.out⟩, ⟨bel_⟩⟩
 case rest =>
  clear HC4
  try clear c2
  try clear p2
  try clear c6
  try clear c7
  obtain ⟨kq, x20_3, rfl, HA, HJ3, BK437, HB⟩ := hcut
  cases kq with
  | zero => exact absurd HA.out (by simp [spec_KeyIn.j0])
  | succ kj3 =>
   have H := HA.out
   clear HA
   simp only [spec_KeyIn.j0] at H
   by_cases c8 : x20_3 = true
   ·subst c8
    have H1 : (some (0, 0, 0, 0, (⟨#[]⟩ : ByteArray), false)) = some (r1, r2, r3, r4, r5, r6) := by rw [if_pos rfl] at H; exact H
    clear H
    have H := H1
    clear H1
    simp only [Option.some.injEq, Prod.mk.injEq] at H
    obtain ⟨rfl, rfl, rfl, rfl, rfl, rfl⟩ := H
    obtain ⟨hcz9_0, hcz9_1, hcz9_2, hcz9_3, hcz9_4, hfz9_0, hfz9_1, hfz9_2, hfz9_3, hfz9_4⟩ := op5_ BK437.out
    go_wp2
    refine bodyPost_ret (results_ct rfl _ _ gb437 27 #[.int .i64 0, .int .i64 0, .int .i64 0, .int .i64 0, .string (⟨#[]⟩ : ByteArray)] (0, 0) _ rfl (by (with_reducible repeat (first | refine blk_drewN ?_ _ | refine blk_drew ?_ | refine blk_alloc ?_ _)); exact bk5_ (bp_ BK437.out)) Tryd.underlying27 rfl (by kernel_rfl)) rfl ?_
    exact ⟨fi_, bel_⟩
   ·replace c8 := Bool.eq_false_iff.mpr c8
    subst c8
    have H1 : ((spec_l2Kids.f kj3 l0 t438).bind fun t440 => (if (t440.length : Int) = 0 then ((spec_l11Move.f a1 t438 0).bind fun bt443 => (some (bt443.1, bt443.2.1, bt443.2.2.1, bt443.2.2.2.1, bt443.2.2.2.2, true))) else (if 0 ≤ (wrap64 ((t440.length : Int) - 1)) then (if (wrap64 ((t440.length : Int) - 1)) < (t440.length : Int) then ((spec_l11Move.f a1 t438 (rd t440 (wrap64 ((t440.length : Int) - 1)))).bind fun bt449 => (some (bt449.1, bt449.2.1, bt449.2.2.1, bt449.2.2.2.1, bt449.2.2.2.2, true))) else (none)) else (none)))) = some (r1, r2, r3, r4, r5, r6) := by rw [if_neg (show ¬ (false = true) by decide)] at H; exact H
    clear H
    have H := H1
    clear H1
    replace H := Option.bind_eq_some_iff.mp H
    obtain ⟨t440, A100, H⟩ := H
    try dsimp only at H
    have A10 := Aside0.mk A100
    clear A100
    by_cases c11 : (t440.length : Int) = 0
    ·rw [if_pos c11] at H
     have c11b0 : ((t440.length : Int) == 0) = true := beq_iff_eq.mpr c11
     have c11b1 : ((t440.length : Int) != 0) = false := bne_eq_false_iff_eq.mpr c11
     clear c11
     replace H := Option.bind_eq_some_iff.mp H
     obtain ⟨⟨t443, t444, t445, t446, t447⟩, A120, H⟩ := H
     try dsimp only at H
     have A12 := Aside0.mk A120
     clear A120
     simp only [Option.some.injEq, Prod.mk.injEq] at H
     obtain ⟨rfl, rfl, rfl, rfl, rfl, rfl⟩ := H
     go_wp2_with (first | ((with_reducible refine gate_callee (f := 70) rfl ?_); refine gl_ 24 Tryd.func70 #[.slice A0 l0.length c0, .int .i64 t438] ?_; (with_reducible refine (spec_l2Kids.calls kj3 _ _ l0 t438 t440 _ ?side1 ?side2 A10.out).mono ?_); (case side1 => exact cp_ HR0.out); (case side2 => exact HC0.out); rintro e w13 ⟨v441, rfl, ho0, hb⟩; refine ⟨_, rfl, ?_⟩; have HO442 := Aside0.mk (Kd.R_lower ho0 (below_size (bel_))); replace HB := Aside0.mk (below_step (bel_) hb); replace BK437 := Aside0.mk (bb_ BK437.out hb); (try clear hb ho0); obtain ⟨Ao14, co14, eo14⟩ := Kd.R_slice HO442.out; subst eo14) | ((with_reducible refine gate_callee (f := 56) rfl ?_); refine gl_ 30 Tryd.func56 #[.int .i64 a1, .int .i64 t438, .int .i64 0] ?_; (with_reducible refine (spec_l11Move.calls a1 t438 0 t443 t444 t445 t446 t447 _ A12.out).mono ?_); rintro e w15 ⟨rfl, hb⟩; refine ⟨_, rfl, ?_⟩; replace HO442 := Aside0.mk (Kd.R_below (rp_ HO442.out) hb); replace HB := Aside0.mk (below_step (bel_) hb); replace BK437 := Aside0.mk (bb_ BK437.out hb); (try clear hb); obtain ⟨hcz16_0, hcz16_1, hcz16_2, hcz16_3, hcz16_4, hfz16_0, hfz16_1, hfz16_2, hfz16_3, hfz16_4⟩ := op5_ BK437.out))
     refine bodyPost_ret (results_ct rfl _ _ gb437 27 #[.int .i64 t443, .int .i64 t444, .int .i64 t445, .int .i64 t446, .string t447] (0, 0) _ rfl (by (with_reducible repeat (first | refine blk_drewN ?_ _ | refine blk_drew ?_ | refine blk_alloc ?_ _)); exact bk5_ (bp_ BK437.out)) Tryd.underlying27 rfl (by kernel_rfl)) rfl ?_
     exact ⟨fi_, bel_⟩
    ·rw [if_neg c11] at H
     have c11b0 : ((t440.length : Int) == 0) = false := beq_eq_false_iff_ne.mpr c11
     have c11b1 : ((t440.length : Int) != 0) = true := bne_iff_ne.mpr c11
     have c11b2 : ¬ (t440 = []) := fun h_ => c11 (by rw [h_]; rfl)
     obtain ⟨ji17, hji17⟩ : ∃ j_ : Int, (wrap64 ((t440.length : Int) - 1)) = j_ := ⟨_, rfl⟩
     replace H : (if 0 ≤ (ji17) then (if (ji17) < (t440.length : Int) then ((spec_l11Move.f a1 t438 (rd t440 (ji17))).bind fun bt449 => (some (bt449.1, bt449.2.1, bt449.2.2.1, bt449.2.2.2.1, bt449.2.2.2.2, true))) else (none)) else (none)) = some (r1, r2, r3, r4, r5, r6) := by first | (rw [hji17] at H; exact H) | (simp only [hji17] at H ⊢; exact H)
     (try rw [hji17] at A10)
     have hji17w : (IntKind.i64.wrap ((t440.length : Int) - 1)) = ji17 := (i64_w _).trans hji17
     by_cases c18 : 0 ≤ (ji17)
     ·rw [if_pos c18] at H
      have c18b0 : decide (0 ≤ (ji17)) = true := decide_eq_true c18
      clear c18
      by_cases c19 : (ji17) < (t440.length : Int)
      ·rw [if_pos c19] at H
       have c19b0 : decide ((ji17) < (t440.length : Int)) = true := decide_eq_true c19
       clear c19
       replace H := Option.bind_eq_some_iff.mp H
       obtain ⟨⟨t449, t450, t451, t452, t453⟩, A200, H⟩ := H
       try dsimp only at H
       have A20 := Aside0.mk A200
       clear A200
       simp only [Option.some.injEq, Prod.mk.injEq] at H
       obtain ⟨rfl, rfl, rfl, rfl, rfl, rfl⟩ := H
       go_wp2_with (first | ((with_reducible refine gate_callee (f := 70) rfl ?_); refine gl_ 24 Tryd.func70 #[.slice A0 l0.length c0, .int .i64 t438] ?_; (with_reducible refine (spec_l2Kids.calls kj3 _ _ l0 t438 t440 _ ?side1 ?side2 A10.out).mono ?_); (case side1 => exact cp_ HR0.out); (case side2 => exact HC0.out); rintro e w21 ⟨v441, rfl, ho0, hb⟩; refine ⟨_, rfl, ?_⟩; have HO442 := Aside0.mk (Kd.R_lower ho0 (below_size (bel_))); replace HB := Aside0.mk (below_step (bel_) hb); replace BK437 := Aside0.mk (bb_ BK437.out hb); (try clear hb ho0); obtain ⟨Ao22, co22, eo22⟩ := Kd.R_slice HO442.out; subst eo22; have p448 : 0 ≤ ((ji17) : Int) := od_; have q448 : (ji17) < (t440.length : Int) := od_; obtain ⟨ad448, e448, hx448_0⟩ := Kd.at_int (Kd.R_reads' HO442.out).2.2 (ji17) p448 q448; cases e448; replace p448 := eq_true p448; replace q448 := eq_true q448) | ((with_reducible refine gate_callee (f := 56) rfl ?_); refine goesL_ (some 39) rfl rfl Tryd.func56 (by kernel_rfl) rfl #[.int .i64 a1, .int .i64 t438, .int .i64 (rd t440 (ji17))] rfl (by (try simp only [List.map_toArray, List.map_cons, List.map_nil]); first | done | (simp only [hji17]; rfl) | rfl | (simp only [List.length_drop, List.length_take]; rfl)) ?_; (with_reducible refine (spec_l11Move.calls a1 t438 (rd t440 (ji17)) t449 t450 t451 t452 t453 _ A20.out).mono ?_); rintro e w23 ⟨rfl, hb⟩; refine ⟨_, rfl, ?_⟩; replace HO442 := Aside0.mk (Kd.R_below (rp_ HO442.out) hb); replace HB := Aside0.mk (below_step (bel_) hb); replace BK437 := Aside0.mk (bb_ BK437.out hb); (try clear hb); obtain ⟨hcz24_0, hcz24_1, hcz24_2, hcz24_3, hcz24_4, hfz24_0, hfz24_1, hfz24_2, hfz24_3, hfz24_4⟩ := op5_ BK437.out))
       refine bodyPost_ret (results_ct rfl _ _ gb437 27 #[.int .i64 t449, .int .i64 t450, .int .i64 t451, .int .i64 t452, .string t453] (0, 0) _ rfl (by (with_reducible repeat (first | refine blk_drewN ?_ _ | refine blk_drew ?_ | refine blk_alloc ?_ _)); exact bk5_ (bp_ BK437.out)) Tryd.underlying27 rfl (by kernel_rfl)) rfl ?_
       exact ⟨by first | rfl | (simp [errW_none, errW_some] <;> rfl) | (simp only [← hji17]; first | rfl | (simp [errW_none, errW_some] <;> rfl)) | (simp [*, errW_none, errW_some] <;> rfl), bel_⟩
      ·rw [if_neg c19] at H
       exact absurd H (by simp)
     ·rw [if_neg c18] at H
      exact absurd H (by simp)

end Go.Proofs.YtlkheeegkifblaaDoor.P
namespace Go.Proofs.YtlkheeegkifblaaDoor.P
open Go.RowKit
def owners : List Int := [0, 1, 1, 1, 0, 0, 0, 0, 0, 0, 0, 2, 2, 2, 2, 2, 2, 0, 0, 0, 0, 3, 3, 3, 3, 3, 3, 0, 0, 0, 0, 4, 4, 4, 4, 4, 4]
def Glob (w : World) : Prop := Lib.TabIs Tryd.prog w "loop.example/plashet/impl.rowOwners" .i64 owners
theorem gOwners : Tryd.prog.globalNamed "loop.example/plashet/impl.rowOwners" = some 0 := by kernel_rfl
theorem Glob.var {w : World} (h : Glob w) : w.var? Tryd.prog "loop.example/plashet/impl.rowOwners" = some (owners.map fun z => Value.int .i64 z).toArray := h
theorem Glob.lt {w : World} (h : Glob w) : 0 < w.heap.size := by
 have h := h.var
 unfold World.var? at h
 simp only [gOwners, Option.bind_some] at h
 rcases Nat.lt_or_ge 0 w.heap.size with hl | hl
 ·exact hl
 ·rw [Array.getElem?_eq_none hl] at h
  cases h
theorem Glob.below {w w' : World} (h : Glob w) (hb : Below w.heap.size w w') : Glob w' := by
 have hl := h.lt
 have h := h.var
 unfold Glob Lib.TabIs World.var? at *
 simp only [gOwners, Option.bind_some] at h ⊢
 rw [hb.block _ hl]
 exact h
theorem Glob.drew {w : World} (h : Glob w) : Glob w.drew := by
 have h := h.var
 unfold Glob Lib.TabIs World.var? at *
 exact h
theorem Glob.drewN {w : World} (h : Glob w) (n : Nat) : Glob (w.drewN n) := by
 induction n generalizing w with
 | zero => exact h
 | succ n ih => rw [← World.drew_drewN]; exact ih h.drew
theorem Glob.cell {w : World} (h : Glob w) (i : Nat) (hi : i < 37) : w.cell? ⟨0, i, none⟩ = some (.int .i64 (owners.getD i 0)) := by
 have hc := World.var?_cell gOwners h.var i
 rw [hc]
 have hl : i < owners.length := hi
 simp [List.getD_eq_getElem?_getD, List.getElem?_eq_getElem hl]
def ownI (id : Int) : Int := if 0 ≤ id ∧ id < 37 then owners.getD id.toNat 0 else 0
theorem Glob.at_ {w : World} (h : Glob w) (i : Int) (h0 : 0 ≤ i) (h1 : i < 37) : w.cell? ⟨0, i.toNat, none⟩ = some (.int .i64 (ownI i)) := by
 have := h.cell i.toNat (by omega)
 rw [ownI, if_pos ⟨h0, h1⟩]
 exact this
theorem owners_range : ∀ z ∈ owners, 0 ≤ z ∧ z ≤ 4 := by decide
theorem ownI_range (i : Int) : 0 ≤ ownI i ∧ ownI i ≤ 4 := by
 unfold ownI
 split
 ·rename_i h
  have hl : i.toNat < owners.length := by have : owners.length = 37 := rfl; omega
  rw [List.getD_eq_getElem?_getD, List.getElem?_eq_getElem hl]
  exact owners_range _ (List.getElem_mem hl)
 ·omega
end Go.Proofs.YtlkheeegkifblaaDoor.P
namespace Go.Proofs.YtlkheeegkifblaaDoor.FP
open Go.Proofs.YtlkheeegkifblaaDoor.P
inductive Fo where
 | nil
 | nd (i : Nat) (t : ByteArray) (k n : Fo)
structure Nd where
 t : ByteArray
 up : Nat
 first : Nat
 next : Nat
def Fo.hd : Fo → Nat
 | .nil => 0
 | .nd i _ _ _ => i
def Fo.ids : Fo → List Nat
 | .nil => []
 | .nd i _ k n => i :: (k.ids ++ n.ids)
def Fo.tops : Fo → List Nat
 | .nil => []
 | .nd i _ _ n => i :: n.tops
def Fo.fl (d : Nat) : Fo → List S37
 | .nil => []
 | .nd i t k n => ⟨(i : Int), (d : Int), t⟩ :: (k.fl (d + 1) ++ n.fl d)
def Rep (h : Nat → Nd) (up : Nat) : Fo → Prop
 | .nil => True
 | .nd i t k n => i ≠ 0 ∧ h i = ⟨t, up, k.hd, n.hd⟩ ∧ Rep h i k ∧ Rep h up n
def insAfter (a i : Nat) (t : ByteArray) (s : Fo) : Fo → Fo
 | .nil => .nil
 | .nd j u k n => if j = a then .nd j u k (.nd i t s n) else .nd j u (insAfter a i t s k) (insAfter a i t s n)
def insFirst (p i : Nat) (t : ByteArray) (s : Fo) : Fo → Fo
 | .nil => .nil
 | .nd j u k n => if j = p then .nd j u (.nd i t s k) n else .nd j u (insFirst p i t s k) (insFirst p i t s n)
def del (x : Nat) : Fo → Fo
 | .nil => .nil
 | .nd j u k n => if j = x then n else .nd j u (del x k) (del x n)
def sub (x : Nat) : Fo → Fo
 | .nil => .nil
 | .nd j u k n => if j = x then k else if x ∈ k.ids then sub x k else sub x n
def attachH (h : Nat → Nd) (i up a : Nat) : Nat → Nd := fun j =>
 if a = 0 then
  if j = up then ⟨(h up).t, (h up).up, i, (h up).next⟩ else if j = i then ⟨(h i).t, up, (h i).first, (h up).first⟩ else h j
 else
  if j = a then ⟨(h a).t, (h a).up, (h a).first, i⟩ else if j = i then ⟨(h i).t, up, (h i).first, (h a).next⟩ else h j
def detachH (h : Nat → Nd) (x a : Nat) : Nat → Nd := fun j =>
 if j = x then ⟨(h x).t, 0, (h x).first, 0⟩
 else if a = 0 then (if j = (h x).up then ⟨(h j).t, (h j).up, (h x).next, (h j).next⟩ else h j)
 else (if j = a then ⟨(h j).t, (h j).up, (h j).first, (h x).next⟩ else h j)
theorem Rep.ext {h h' : Nat → Nd} {up : Nat} : ∀ {F : Fo}, Rep h up F → (∀ i ∈ F.ids, h' i = h i) → Rep h' up F
 | .nil, _, _ => trivial
 | .nd i t k n, ⟨h1, h2, h3, h4⟩, e => ⟨h1, (e i (by simp [Fo.ids])).trans h2, Rep.ext h3 fun j hj => e j (by simp [Fo.ids, hj]), Rep.ext h4 fun j hj => e j (by simp [Fo.ids, hj])⟩
theorem Rep.ne0 {h : Nat → Nd} {up : Nat} : ∀ {F : Fo}, Rep h up F → ∀ i ∈ F.ids, i ≠ 0
 | .nil, _, i, hi => by simp [Fo.ids] at hi
 | .nd j t k n, ⟨h1, h2, h3, h4⟩, i, hi => by
  simp only [Fo.ids, List.mem_cons, List.mem_append] at hi
  rcases hi with rfl | hi | hi
  ·exact h1
  ·exact Rep.ne0 h3 i hi
  ·exact Rep.ne0 h4 i hi
theorem attachH_zero (h : Nat → Nd) (i up : Nat) (j : Nat) : attachH h i up 0 j = if j = up then ⟨(h up).t, (h up).up, i, (h up).next⟩ else if j = i then ⟨(h i).t, up, (h i).first, (h up).first⟩ else h j := rfl
theorem attachH_pos (h : Nat → Nd) (i up a : Nat) (ha : a ≠ 0) (j : Nat) : attachH h i up a j = if j = a then ⟨(h a).t, (h a).up, (h a).first, i⟩ else if j = i then ⟨(h i).t, up, (h i).first, (h a).next⟩ else h j := if_neg ha
theorem detachH_self (h : Nat → Nd) (x a : Nat) : detachH h x a x = ⟨(h x).t, 0, (h x).first, 0⟩ := if_pos rfl
theorem detachH_zero (h : Nat → Nd) (x : Nat) {j : Nat} (e : j ≠ x) : detachH h x 0 j = if j = (h x).up then ⟨(h j).t, (h j).up, (h x).next, (h j).next⟩ else h j := by unfold detachH; rw [if_neg e, if_pos rfl]
theorem detachH_pos (h : Nat → Nd) (x a : Nat) (ha : a ≠ 0) {j : Nat} (e : j ≠ x) : detachH h x a j = if j = a then ⟨(h j).t, (h j).up, (h j).first, (h x).next⟩ else h j := by unfold detachH; rw [if_neg e, if_neg ha]
structure Free (h : Nat → Nd) (i : Nat) (t : ByteArray) (s : Fo) : Prop where
 ne : i ≠ 0
 t : (h i).t = t
 first : (h i).first = s.hd
 rep : Rep h i s
 out : i ∉ s.ids
theorem insAfter_id (a i : Nat) (t : ByteArray) (s : Fo) : ∀ {F : Fo}, a ∉ F.ids → insAfter a i t s F = F
 | .nil, _ => rfl
 | .nd j u k n, h => by
  simp only [Fo.ids, List.mem_cons, List.mem_append, not_or] at h
  unfold insAfter
  rw [if_neg (fun e => h.1 e.symm), insAfter_id a i t s h.2.1, insAfter_id a i t s h.2.2]
theorem insFirst_id (p i : Nat) (t : ByteArray) (s : Fo) : ∀ {F : Fo}, p ∉ F.ids → insFirst p i t s F = F
 | .nil, _ => rfl
 | .nd j u k n, h => by
  simp only [Fo.ids, List.mem_cons, List.mem_append, not_or] at h
  unfold insFirst
  rw [if_neg (fun e => h.1 e.symm), insFirst_id p i t s h.2.1, insFirst_id p i t s h.2.2]
theorem del_id (x : Nat) : ∀ {F : Fo}, x ∉ F.ids → del x F = F
 | .nil, _ => rfl
 | .nd j u k n, h => by
  simp only [Fo.ids, List.mem_cons, List.mem_append, not_or] at h
  unfold del
  rw [if_neg (fun e => h.1 e.symm), del_id x h.2.1, del_id x h.2.2]
theorem insAfter_hd (a i : Nat) (t : ByteArray) (s : Fo) : ∀ (F : Fo), (insAfter a i t s F).hd = F.hd
 | .nil => rfl
 | .nd j u k n => by unfold insAfter; split <;> rfl
theorem insFirst_hd (p i : Nat) (t : ByteArray) (s : Fo) : ∀ (F : Fo), (insFirst p i t s F).hd = F.hd
 | .nil => rfl
 | .nd j u k n => by unfold insFirst; split <;> rfl
theorem nodup_nd {j : Nat} {u : ByteArray} {k n : Fo} (h : (Fo.nd j u k n).ids.Nodup) : j ∉ k.ids ∧ j ∉ n.ids ∧ k.ids.Nodup ∧ n.ids.Nodup ∧ (∀ x ∈ k.ids, x ∉ n.ids) := by
 simp only [Fo.ids, List.nodup_cons, List.nodup_append, List.mem_append, not_or] at h
 exact ⟨h.1.1, h.1.2, h.2.1, h.2.2.1, fun x hx hn => h.2.2.2 x hx x hn rfl⟩
theorem rep_insAfter {h : Nat → Nd} {a i q : Nat} {t : ByteArray} {s : Fo} (hf : Free h i t s) (ha0 : a ≠ 0) (hq : (h a).up = q) :
  ∀ {F : Fo} {up : Nat}, Rep h up F → F.ids.Nodup → i ∉ F.ids → a ∉ s.ids → a ≠ i → (∀ j ∈ s.ids, j ∉ F.ids) → Rep (attachH h i q a) up (insAfter a i t s F)
 | .nil, up, _, _, _, _, _, _ => trivial
 | .nd j u k n, up, ⟨h1, h2, h3, h4⟩, hn, hi, has, hai, hd => by
  obtain ⟨n1, n2, n3, n4, n5⟩ := nodup_nd hn
  have hat := attachH_pos h i q a ha0
  simp only [Fo.ids, List.mem_cons, List.mem_append, not_or] at hi
  have hs : Rep (attachH h i q a) i s := hf.rep.ext fun x hx => by
   rw [hat x, if_neg (fun (e : x = a) => has (e ▸ hx)), if_neg (fun (e : x = i) => hf.out (e ▸ hx))]
  unfold insAfter
  by_cases hj : j = a
  ·subst hj
   rw [if_pos rfl]
   have hup : q = up := by rw [← hq, h2]
   refine ⟨h1, ?_, ?_, hf.ne, ?_, hs, ?_⟩
   ·rw [hat j, if_pos rfl, h2]; rfl
   ·exact h3.ext fun x hx => by rw [hat x, if_neg (fun (e : x = j) => n1 (e ▸ hx)), if_neg (fun (e : x = i) => hi.2.1 (e ▸ hx))]
   ·rw [hat i, if_neg (fun e => hai e.symm), if_pos rfl, h2, hup]
    show Nd.mk (h i).t up (h i).first n.hd = _
    rw [hf.t, hf.first]
   ·exact h4.ext fun x hx => by rw [hat x, if_neg (fun (e : x = j) => n2 (e ▸ hx)), if_neg (fun (e : x = i) => hi.2.2 (e ▸ hx))]
  ·rw [if_neg hj]
   refine ⟨h1, ?_, ?_, ?_⟩
   ·rw [hat j, if_neg hj, if_neg (fun e => hi.1 e.symm), h2, insAfter_hd, insAfter_hd]
   ·exact rep_insAfter hf ha0 hq h3 n3 hi.2.1 has hai fun x hx hk => hd x hx (by simp [Fo.ids, hk])
   ·exact rep_insAfter hf ha0 hq h4 n4 hi.2.2 has hai fun x hx hk => hd x hx (by simp [Fo.ids, hk])
theorem rep_insFirst {h : Nat → Nd} {p i : Nat} {t : ByteArray} {s : Fo} (hf : Free h i t s) :
  ∀ {F : Fo} {up : Nat}, Rep h up F → F.ids.Nodup → i ∉ F.ids → p ∉ s.ids → p ≠ i → (∀ j ∈ s.ids, j ∉ F.ids) → Rep (attachH h i p 0) up (insFirst p i t s F)
 | .nil, up, _, _, _, _, _, _ => trivial
 | .nd j u k n, up, ⟨h1, h2, h3, h4⟩, hn, hi, has, hai, hd => by
  obtain ⟨n1, n2, n3, n4, n5⟩ := nodup_nd hn
  have hat := attachH_zero h i p
  simp only [Fo.ids, List.mem_cons, List.mem_append, not_or] at hi
  have hs : Rep (attachH h i p 0) i s := hf.rep.ext fun x hx => by
   rw [hat x, if_neg (fun (e : x = p) => has (e ▸ hx)), if_neg (fun (e : x = i) => hf.out (e ▸ hx))]
  unfold insFirst
  by_cases hj : j = p
  ·subst hj
   rw [if_pos rfl]
   refine ⟨h1, ?_, ⟨hf.ne, ?_, hs, ?_⟩, ?_⟩
   ·rw [hat j, if_pos rfl, h2]; rfl
   ·rw [hat i, if_neg (fun e => hai e.symm), if_pos rfl, h2]
    show Nd.mk (h i).t j (h i).first k.hd = _
    rw [hf.t, hf.first]
   ·exact h3.ext fun x hx => by rw [hat x, if_neg (fun (e : x = j) => n1 (e ▸ hx)), if_neg (fun (e : x = i) => hi.2.1 (e ▸ hx))]
   ·exact h4.ext fun x hx => by rw [hat x, if_neg (fun (e : x = j) => n2 (e ▸ hx)), if_neg (fun (e : x = i) => hi.2.2 (e ▸ hx))]
  ·rw [if_neg hj]
   refine ⟨h1, ?_, ?_, ?_⟩
   ·rw [hat j, if_neg hj, if_neg (fun e => hi.1 e.symm), h2, insFirst_hd, insFirst_hd]
   ·exact rep_insFirst hf h3 n3 hi.2.1 has hai fun x hx hk => hd x hx (by simp [Fo.ids, hk])
   ·exact rep_insFirst hf h4 n4 hi.2.2 has hai fun x hx hk => hd x hx (by simp [Fo.ids, hk])
def sib (x : Nat) : Nat → Fo → Nat
 | _, .nil => 0
 | p, .nd j u k n => if j = x then p else if x ∈ k.ids then sib x 0 k else sib x j n
theorem sib_mem (x : Nat) : ∀ (F : Fo) (p : Nat), sib x p F = p ∨ sib x p F = 0 ∨ sib x p F ∈ F.ids
 | .nil, p => Or.inr (Or.inl rfl)
 | .nd j u k n, p => by
  unfold sib
  by_cases h1 : j = x
  ·rw [if_pos h1]; exact Or.inl rfl
  ·rw [if_neg h1]
   by_cases h2 : x ∈ k.ids
   ·rw [if_pos h2]
    rcases sib_mem x k 0 with h | h | h
    ·exact Or.inr (Or.inl h)
    ·exact Or.inr (Or.inl h)
    ·exact Or.inr (Or.inr (by simp [Fo.ids, h]))
   ·rw [if_neg h2]
    rcases sib_mem x n j with h | h | h
    ·rw [h]; exact Or.inr (Or.inr (by simp [Fo.ids]))
    ·exact Or.inr (Or.inl h)
    ·exact Or.inr (Or.inr (by simp [Fo.ids, h]))
theorem rep_up {h : Nat → Nd} {x : Nat} : ∀ {F : Fo} {up : Nat}, Rep h up F → F.ids.Nodup → x ∈ F.ids → (h x).up = up ∨ (h x).up ∈ F.ids
 | .nil, _, _, _, hx => by simp [Fo.ids] at hx
 | .nd j u k n, up, ⟨h1, h2, h3, h4⟩, hn, hx => by
  obtain ⟨n1, n2, n3, n4, n5⟩ := nodup_nd hn
  simp only [Fo.ids, List.mem_cons, List.mem_append] at hx
  rcases hx with rfl | hx | hx
  ·left; rw [h2]
  ·rcases rep_up h3 n3 hx with e | e
   ·right; rw [e]; simp [Fo.ids]
   ·right; simp [Fo.ids, e]
  ·rcases rep_up h4 n4 hx with e | e
   ·exact Or.inl e
   ·right; simp [Fo.ids, e]
theorem sib_zero {h : Nat → Nd} {x : Nat} : ∀ {F : Fo} {up p : Nat}, Rep h up F → F.ids.Nodup → x ∈ F.ids → sib x p F = 0 → (p ≠ 0 ∨ F.hd ≠ x) → (h x).up ∈ F.ids
 | .nil, _, _, _, _, hx, _, _ => by simp [Fo.ids] at hx
 | .nd j u k n, up, p, ⟨h1, h2, h3, h4⟩, hn, hx, hs, hp => by
  obtain ⟨n1, n2, n3, n4, n5⟩ := nodup_nd hn
  unfold sib at hs
  simp only [Fo.ids, List.mem_cons, List.mem_append] at hx
  by_cases e : j = x
  ·rw [if_pos e] at hs
   rcases hp with hp | hp
   ·exact absurd hs hp
   ·exact absurd e hp
  ·rw [if_neg e] at hs
   by_cases hk : x ∈ k.ids
   ·rcases rep_up h3 n3 hk with e | e
    ·rw [e]; simp [Fo.ids]
    ·simp [Fo.ids, e]
   ·rw [if_neg hk] at hs
    have hxn : x ∈ n.ids := by
     rcases hx with e' | e' | e'
     ·exact absurd e'.symm e
     ·exact absurd e' hk
     ·exact e'
    have := sib_zero (p := j) h4 n4 hxn hs (Or.inl h1)
    simp [Fo.ids, this]
theorem del_hd (x : Nat) (F : Fo) (h : F.hd ≠ x) : (del x F).hd = F.hd := by
 cases F with
 | nil => rfl
 | nd j u k n => unfold del; rw [if_neg (show j ≠ x from h)]; rfl
theorem del_hd_self {h : Nat → Nd} {up x : Nat} {F : Fo} (hr : Rep h up F) (e : F.hd = x) (hx : x ≠ 0) : (del x F).hd = (h x).next ∧ (h x).up = up := by
 cases F with
 | nil => exact absurd e.symm hx
 | nd j u k n =>
  obtain rfl : j = x := e
  obtain ⟨h1, h2, h3, h4⟩ := hr
  unfold del
  rw [if_pos rfl, h2]
  exact ⟨rfl, rfl⟩
theorem sib_hd {x p : Nat} {F : Fo} (e : F.hd = x) (hx : x ≠ 0) : sib x p F = p := by
 cases F with
 | nil => exact absurd e.symm hx
 | nd j u k n => unfold sib; exact if_pos e
theorem up_ne {h : Nat → Nd} {x : Nat} : ∀ {F : Fo} {up : Nat}, Rep h up F → F.ids.Nodup → x ∈ F.ids → up ∉ F.ids → (h x).up ≠ x
 | .nil, _, _, _, hx, _ => by simp [Fo.ids] at hx
 | .nd j u k n, up, ⟨h1, h2, h3, h4⟩, hn, hx, hup => by
  obtain ⟨n1, n2, n3, n4, n5⟩ := nodup_nd hn
  simp only [Fo.ids, List.mem_cons, List.mem_append, not_or] at hx hup
  rcases hx with rfl | hx | hx
  ·rw [h2]; exact hup.1
  ·exact up_ne h3 n3 hx n1
  ·exact up_ne h4 n4 hx hup.2.2
theorem sib_ne {x : Nat} (hx0 : x ≠ 0) : ∀ {F : Fo} {p : Nat}, F.ids.Nodup → x ∈ F.ids → p ≠ x → sib x p F ≠ x
 | .nil, _, _, hx, _ => by simp [Fo.ids] at hx
 | .nd j u k n, p, hn, hx, hp => by
  obtain ⟨n1, n2, n3, n4, n5⟩ := nodup_nd hn
  simp only [Fo.ids, List.mem_cons, List.mem_append] at hx
  unfold sib
  by_cases e1 : j = x
  ·rw [if_pos e1]; exact hp
  ·rw [if_neg e1]
   by_cases e2 : x ∈ k.ids
   ·rw [if_pos e2]; exact sib_ne hx0 n3 e2 (fun e => hx0 e.symm)
   ·rw [if_neg e2]
    exact sib_ne hx0 n4 (by rcases hx with g | g | g; exact absurd g.symm e1; exact absurd g e2; exact g) e1
theorem rep_del {h : Nat → Nd} {x : Nat} : ∀ {F : Fo} {up p : Nat}, Rep h up F → F.ids.Nodup → x ∈ F.ids → up ∉ F.ids → p ∉ F.ids → Rep (detachH h x (sib x p F)) up (del x F)
 | .nil, _, _, _, _, hx, _, _ => by simp [Fo.ids] at hx
 | .nd j u k n, up, p, hR, hn, hx, hup, hp => by
  have hx0 : x ≠ 0 := hR.ne0 x hx
  have hxup : (h x).up ≠ x := up_ne hR hn hx hup
  obtain ⟨h1, h2, h3, h4⟩ := hR
  obtain ⟨n1, n2, n3, n4, n5⟩ := nodup_nd hn
  simp only [Fo.ids, List.mem_cons, List.mem_append, not_or] at hx hup hp
  unfold sib del
  by_cases e : j = x
  ·subst e
   rw [if_pos rfl, if_pos rfl]
   refine h4.ext fun y hy => ?_
   have hyj : y ≠ j := fun e => n2 (e ▸ hy)
   by_cases hp0 : p = 0
   ·subst hp0
    rw [detachH_zero h j hyj, h2, if_neg (fun (e : y = up) => hup.2.2 (e ▸ hy))]
   ·rw [detachH_pos h j p hp0 hyj, if_neg (fun (e : y = p) => hp.2.2 (e ▸ hy))]
  ·rw [if_neg e, if_neg e]
   by_cases hk : x ∈ k.ids
   ·rw [if_pos hk]
    have z3 : (0 : Nat) ∉ k.ids := fun h0 => h3.ne0 0 h0 rfl
    have ih := rep_del (p := 0) h3 n3 hk n1 z3
    have hnx : x ∉ n.ids := n5 x hk
    have hsx := sib_ne (p := 0) hx0 n3 hk (fun e => hx0 e.symm)
    have hsm : sib x 0 k ≠ 0 → sib x 0 k ∈ k.ids := fun hs => by
     rcases sib_mem x k 0 with h' | h' | h'
     ·exact absurd h' hs
     ·exact absurd h' hs
     ·exact h'
    rw [del_id x hnx]
    refine ⟨h1, ?_, ih, ?_⟩
    ·by_cases hh : k.hd = x
     ·have hs : sib x 0 k = 0 := sib_hd hh hx0
      obtain ⟨d1, d2⟩ := del_hd_self h3 hh hx0
      rw [hs, detachH_zero h x e, d2, if_pos rfl, d1, h2]
     ·rw [del_hd x k hh]
      by_cases hs : sib x 0 k = 0
      ·have hq := sib_zero (p := 0) h3 n3 hk hs (Or.inr hh)
       rw [hs, detachH_zero h x e, if_neg (fun (e2 : j = (h x).up) => n1 (e2 ▸ hq)), h2]
      ·rw [detachH_pos h x _ hs e, if_neg (fun (e2 : j = sib x 0 k) => n1 (e2 ▸ hsm hs)), h2]
    ·refine h4.ext fun y hy => ?_
     have hyx : y ≠ x := fun e2 => hnx (e2 ▸ hy)
     by_cases hs : sib x 0 k = 0
     ·rw [hs, detachH_zero h x hyx, if_neg]
      intro e2
      rcases rep_up h3 n3 hk with e3 | e3
      ·exact n2 (e3 ▸ e2 ▸ hy)
      ·exact n5 _ e3 (e2 ▸ hy)
     ·rw [detachH_pos h x _ hs hyx, if_neg (fun (e2 : y = sib x 0 k) => n5 _ (hsm hs) (e2 ▸ hy))]
   ·rw [if_neg hk]
    have hxn : x ∈ n.ids := by
     rcases hx with g | g | g
     ·exact absurd g.symm e
     ·exact absurd g hk
     ·exact g
    have ih := rep_del (p := j) h4 n4 hxn hup.2.2 n2
    rw [del_id x hk]
    have hsm : sib x j n ≠ j → sib x j n ≠ 0 → sib x j n ∈ n.ids := fun hj hs => by
     rcases sib_mem x n j with h' | h' | h'
     ·exact absurd h' hj
     ·exact absurd h' hs
     ·exact h'
    refine ⟨h1, ?_, ?_, ih⟩
    ·by_cases hh : n.hd = x
     ·have hs : sib x j n = j := sib_hd hh hx0
      obtain ⟨d1, d2⟩ := del_hd_self h4 hh hx0
      rw [hs, detachH_pos h x j h1 e, if_pos rfl, d1, h2]
     ·rw [del_hd x n hh]
      by_cases hs : sib x j n = 0
      ·have hq := sib_zero (p := j) h4 n4 hxn hs (Or.inl h1)
       rw [hs, detachH_zero h x e, if_neg (fun (e2 : j = (h x).up) => n2 (e2 ▸ hq)), h2]
      ·have hsj : sib x j n ≠ j := by
        cases n with
        | nil => simp [Fo.ids] at hxn
        | nd j2 u2 k2 n2' =>
         have hj2 : j2 ≠ x := hh
         unfold sib
         rw [if_neg hj2]
         obtain ⟨m1, m2, m3, m4, m5⟩ := nodup_nd n4
         simp only [Fo.ids, List.mem_cons, List.mem_append, not_or] at n2
         split
         ·rcases sib_mem x k2 0 with h' | h' | h'
          ·rw [h']; exact fun e => h1 e.symm
          ·rw [h']; exact fun e => h1 e.symm
          ·exact fun e => n2.2.1 (e ▸ h')
         ·rcases sib_mem x n2' j2 with h' | h' | h'
          ·rw [h']; exact fun e => n2.1 e.symm
          ·rw [h']; exact fun e => h1 e.symm
          ·exact fun e => n2.2.2 (e ▸ h')
       rw [detachH_pos h x _ hs e, if_neg (fun (e2 : j = sib x j n) => hsj e2.symm), h2]
    ·refine h3.ext fun y hy => ?_
     have hyx : y ≠ x := fun e2 => hk (e2 ▸ hy)
     by_cases hs : sib x j n = 0
     ·rw [hs, detachH_zero h x hyx, if_neg]
      intro e2
      have hq := sib_zero (p := j) h4 n4 hxn hs (Or.inl h1)
      exact n5 _ hy (e2 ▸ hq)
     ·rw [detachH_pos h x _ hs hyx, if_neg]
      intro e2
      by_cases hsj : sib x j n = j
      ·exact n1 (by rw [← hsj, ← e2]; exact hy)
      ·exact n5 _ hy (e2 ▸ hsm hsj hs)
def RepTop (h : Nat → Nd) : Fo → Prop
 | .nil => True
 | .nd i t k n => i ≠ 0 ∧ h i = ⟨t, 0, k.hd, 0⟩ ∧ Rep h i k ∧ RepTop h n
theorem RepTop.ext {h h' : Nat → Nd} : ∀ {F : Fo}, RepTop h F → (∀ i ∈ F.ids, h' i = h i) → RepTop h' F
 | .nil, _, _ => trivial
 | .nd i t k n, ⟨h1, h2, h3, h4⟩, e => ⟨h1, (e i (by simp [Fo.ids])).trans h2, Rep.ext h3 fun j hj => e j (by simp [Fo.ids, hj]), RepTop.ext h4 fun j hj => e j (by simp [Fo.ids, hj])⟩
theorem RepTop.ne0 {h : Nat → Nd} : ∀ {F : Fo}, RepTop h F → ∀ i ∈ F.ids, i ≠ 0
 | .nil, _, i, hi => by simp [Fo.ids] at hi
 | .nd j t k n, ⟨h1, h2, h3, h4⟩, i, hi => by
  simp only [Fo.ids, List.mem_cons, List.mem_append] at hi
  rcases hi with rfl | hi | hi
  ·exact h1
  ·exact Rep.ne0 h3 i hi
  ·exact RepTop.ne0 h4 i hi
theorem tops_ids : ∀ {F : Fo} {x : Nat}, x ∈ F.tops → x ∈ F.ids
 | .nil, x, h => by cases h
 | .nd j t k n, x, h => by
  simp only [Fo.tops, List.mem_cons] at h
  simp only [Fo.ids, List.mem_cons, List.mem_append]
  rcases h with h | h
  ·exact Or.inl h
  ·exact Or.inr (Or.inr (tops_ids h))
theorem reptop_up {h : Nat → Nd} {x : Nat} : ∀ {F : Fo}, RepTop h F → F.ids.Nodup → x ∈ F.ids → x ∉ F.tops → (h x).up ∈ F.ids ∧ (h x).up ≠ x
 | .nil, _, _, hx, _ => by simp [Fo.ids] at hx
 | .nd j u k n, ⟨h1, h2, h3, h4⟩, hn, hx, ht => by
  obtain ⟨n1, n2, n3, n4, n5⟩ := nodup_nd hn
  simp only [Fo.ids, Fo.tops, List.mem_cons, List.mem_append, not_or] at hx ht ⊢
  rcases hx with e | hx | hx
  ·exact absurd e ht.1
  ·refine ⟨?_, up_ne h3 n3 hx n1⟩
   rcases rep_up h3 n3 hx with e | e
   ·exact Or.inl e
   ·exact Or.inr (Or.inl e)
  ·obtain ⟨g1, g2⟩ := reptop_up h4 n4 hx ht.2
   exact ⟨Or.inr (Or.inr g1), g2⟩
theorem reptop_root {h : Nat → Nd} {x : Nat} : ∀ {F : Fo}, RepTop h F → x ∈ F.tops → (h x).up = 0
 | .nil, _, hx => by cases hx
 | .nd j u k n, ⟨h1, h2, h3, h4⟩, hx => by
  simp only [Fo.tops, List.mem_cons] at hx
  rcases hx with rfl | hx
  ·rw [h2]
  ·exact reptop_root h4 hx
theorem reptop_insAfter {h : Nat → Nd} {a i q : Nat} {t : ByteArray} {s : Fo} (hf : Free h i t s) (ha0 : a ≠ 0) (hq : (h a).up = q) :
  ∀ {F : Fo}, RepTop h F → F.ids.Nodup → i ∉ F.ids → a ∉ F.tops → a ∉ s.ids → a ≠ i → (∀ j ∈ s.ids, j ∉ F.ids) → RepTop (attachH h i q a) (insAfter a i t s F)
 | .nil, _, _, _, _, _, _, _ => trivial
 | .nd j u k n, ⟨h1, h2, h3, h4⟩, hn, hi, hta, has, hai, hd => by
  obtain ⟨n1, n2, n3, n4, n5⟩ := nodup_nd hn
  simp only [Fo.ids, Fo.tops, List.mem_cons, List.mem_append, not_or] at hi hta
  have hj : j ≠ a := fun e => hta.1 e.symm
  unfold insAfter
  rw [if_neg hj]
  refine ⟨h1, ?_, ?_, ?_⟩
  ·rw [attachH_pos h i q a ha0 j, if_neg hj, if_neg (fun e => hi.1 e.symm), h2, insAfter_hd]
  ·exact rep_insAfter hf ha0 hq h3 n3 hi.2.1 has hai fun x hx hk => hd x hx (by simp [Fo.ids, hk])
  ·exact reptop_insAfter hf ha0 hq h4 n4 hi.2.2 hta.2 has hai fun x hx hk => hd x hx (by simp [Fo.ids, hk])
theorem reptop_insFirst {h : Nat → Nd} {p i : Nat} {t : ByteArray} {s : Fo} (hf : Free h i t s) :
  ∀ {F : Fo}, RepTop h F → F.ids.Nodup → i ∉ F.ids → p ∉ s.ids → p ≠ i → (∀ j ∈ s.ids, j ∉ F.ids) → RepTop (attachH h i p 0) (insFirst p i t s F)
 | .nil, _, _, _, _, _, _ => trivial
 | .nd j u k n, ⟨h1, h2, h3, h4⟩, hn, hi, has, hai, hd => by
  obtain ⟨n1, n2, n3, n4, n5⟩ := nodup_nd hn
  have hat := attachH_zero h i p
  simp only [Fo.ids, List.mem_cons, List.mem_append, not_or] at hi
  unfold insFirst
  by_cases hj : j = p
  ·subst hj
   rw [if_pos rfl]
   refine ⟨h1, ?_, ⟨hf.ne, ?_, ?_, ?_⟩, ?_⟩
   ·rw [hat j, if_pos rfl, h2]; rfl
   ·rw [hat i, if_neg (fun e => hai e.symm), if_pos rfl, h2]
    show Nd.mk (h i).t j (h i).first k.hd = _
    rw [hf.t, hf.first]
   ·exact hf.rep.ext fun x hx => by
     rw [hat x, if_neg (fun (e : x = j) => has (e ▸ hx)), if_neg (fun (e : x = i) => hf.out (e ▸ hx))]
   ·exact h3.ext fun x hx => by rw [hat x, if_neg (fun (e : x = j) => n1 (e ▸ hx)), if_neg (fun (e : x = i) => hi.2.1 (e ▸ hx))]
   ·exact h4.ext fun x hx => by rw [hat x, if_neg (fun (e : x = j) => n2 (e ▸ hx)), if_neg (fun (e : x = i) => hi.2.2 (e ▸ hx))]
  ·rw [if_neg hj]
   refine ⟨h1, ?_, ?_, ?_⟩
   ·rw [hat j, if_neg hj, if_neg (fun e => hi.1 e.symm), h2, insFirst_hd]
   ·exact rep_insFirst hf h3 n3 hi.2.1 has hai fun x hx hk => hd x hx (by simp [Fo.ids, hk])
   ·exact reptop_insFirst hf h4 n4 hi.2.2 has hai fun x hx hk => hd x hx (by simp [Fo.ids, hk])
def sibT (x : Nat) : Fo → Nat
 | .nil => 0
 | .nd j u k n => if x ∈ k.ids then sib x 0 k else sibT x n
theorem sibT_mem (x : Nat) : ∀ (F : Fo), sibT x F = 0 ∨ sibT x F ∈ F.ids
 | .nil => Or.inl rfl
 | .nd j u k n => by
  unfold sibT
  split
  ·rcases sib_mem x k 0 with h | h | h
   ·exact Or.inl h
   ·exact Or.inl h
   ·exact Or.inr (by simp [Fo.ids, h])
  ·rcases sibT_mem x n with h | h
   ·exact Or.inl h
   ·exact Or.inr (by simp [Fo.ids, h])
theorem reptop_del {h : Nat → Nd} {x : Nat} : ∀ {F : Fo}, RepTop h F → F.ids.Nodup → x ∈ F.ids → x ∉ F.tops → RepTop (detachH h x (sibT x F)) (del x F)
 | .nil, _, _, hx, _ => by simp [Fo.ids] at hx
 | .nd j u k n, hR, hn, hx, ht => by
  have hx0 : x ≠ 0 := hR.ne0 x hx
  obtain ⟨h1, h2, h3, h4⟩ := hR
  obtain ⟨n1, n2, n3, n4, n5⟩ := nodup_nd hn
  simp only [Fo.ids, Fo.tops, List.mem_cons, List.mem_append, not_or] at hx ht
  have e : j ≠ x := fun e => ht.1 e.symm
  unfold sibT del
  rw [if_neg e]
  by_cases hk : x ∈ k.ids
  ·rw [if_pos hk]
   have z3 : (0 : Nat) ∉ k.ids := fun h0 => h3.ne0 0 h0 rfl
   have hxup : (h x).up ≠ x := up_ne h3 n3 hk n1
   have ih := rep_del (p := 0) h3 n3 hk n1 z3
   have hnx : x ∉ n.ids := n5 x hk
   have hsx := sib_ne (p := 0) hx0 n3 hk (fun e => hx0 e.symm)
   have hsm : sib x 0 k ≠ 0 → sib x 0 k ∈ k.ids := fun hs => by
    rcases sib_mem x k 0 with h' | h' | h'
    ·exact absurd h' hs
    ·exact absurd h' hs
    ·exact h'
   rw [del_id x hnx]
   refine ⟨h1, ?_, ih, ?_⟩
   ·by_cases hh : k.hd = x
    ·have hs : sib x 0 k = 0 := sib_hd hh hx0
     obtain ⟨d1, d2⟩ := del_hd_self h3 hh hx0
     rw [hs, detachH_zero h x e, d2, if_pos rfl, d1, h2]
    ·rw [del_hd x k hh]
     by_cases hs : sib x 0 k = 0
     ·have hq := sib_zero (p := 0) h3 n3 hk hs (Or.inr hh)
      rw [hs, detachH_zero h x e, if_neg (fun (e2 : j = (h x).up) => n1 (e2 ▸ hq)), h2]
     ·rw [detachH_pos h x _ hs e, if_neg (fun (e2 : j = sib x 0 k) => n1 (e2 ▸ hsm hs)), h2]
   ·refine h4.ext fun y hy => ?_
    have hyx : y ≠ x := fun e2 => hnx (e2 ▸ hy)
    by_cases hs : sib x 0 k = 0
    ·rw [hs, detachH_zero h x hyx, if_neg]
     intro e2
     rcases rep_up h3 n3 hk with e3 | e3
     ·exact n2 (e3 ▸ e2 ▸ hy)
     ·exact n5 _ e3 (e2 ▸ hy)
    ·rw [detachH_pos h x _ hs hyx, if_neg (fun (e2 : y = sib x 0 k) => n5 _ (hsm hs) (e2 ▸ hy))]
  ·rw [if_neg hk]
   have hxn : x ∈ n.ids := by
    rcases hx with g | g | g
    ·exact absurd g.symm e
    ·exact absurd g hk
    ·exact g
   have ih := reptop_del h4 n4 hxn ht.2
   obtain ⟨u1, u2⟩ := reptop_up h4 n4 hxn ht.2
   have hsm : sibT x n ≠ 0 → sibT x n ∈ n.ids := fun hs => by
    rcases sibT_mem x n with h' | h'
    ·exact absurd h' hs
    ·exact h'
   rw [del_id x hk]
   refine ⟨h1, ?_, ?_, ih⟩
   ·by_cases hs : sibT x n = 0
    ·rw [hs, detachH_zero h x e, if_neg (fun (e2 : j = (h x).up) => n2 (e2 ▸ u1)), h2]
    ·rw [detachH_pos h x _ hs e, if_neg (fun (e2 : j = sibT x n) => n2 (e2 ▸ hsm hs)), h2]
   ·refine h3.ext fun y hy => ?_
    have hyx : y ≠ x := fun e2 => hk (e2 ▸ hy)
    by_cases hs : sibT x n = 0
    ·rw [hs, detachH_zero h x hyx, if_neg (fun (e2 : y = (h x).up) => n5 _ hy (e2 ▸ u1))]
    ·rw [detachH_pos h x _ hs hyx, if_neg (fun (e2 : y = sibT x n) => n5 _ hy (e2 ▸ hsm hs))]
theorem free_detach {h : Nat → Nd} {x a : Nat} : ∀ {F : Fo} {up : Nat}, Rep h up F → F.ids.Nodup → x ∈ F.ids → a ∉ (sub x F).ids → (h x).up ∉ (sub x F).ids → Free (detachH h x a) x (h x).t (sub x F)
 | .nil, _, _, _, hx, _, _ => by simp [Fo.ids] at hx
 | .nd j u k n, up, ⟨h1, h2, h3, h4⟩, hn, hx, ha, hu => by
  obtain ⟨n1, n2, n3, n4, n5⟩ := nodup_nd hn
  unfold sub at ha hu ⊢
  by_cases e : j = x
  ·subst e
   rw [if_pos rfl] at ha hu ⊢
   refine ⟨h1, by rw [detachH_self], by rw [detachH_self, h2], h3.ext fun y hy => ?_, n1⟩
   have hyj : y ≠ j := fun e => n1 (e ▸ hy)
   by_cases ha0 : a = 0
   ·subst ha0; rw [detachH_zero h j hyj, if_neg (fun (e : y = (h j).up) => hu (e ▸ hy))]
   ·rw [detachH_pos h j a ha0 hyj, if_neg (fun (e : y = a) => ha (e ▸ hy))]
  ·rw [if_neg e] at ha hu ⊢
   by_cases hk : x ∈ k.ids
   ·rw [if_pos hk] at ha hu ⊢
    exact free_detach h3 n3 hk ha hu
   ·rw [if_neg hk] at ha hu ⊢
    simp only [Fo.ids, List.mem_cons, List.mem_append] at hx
    exact free_detach h4 n4 (by rcases hx with g | g | g; exact absurd g.symm e; exact absurd g hk; exact g) ha hu
def dpth : Fo → Nat
 | .nil => 0
 | .nd _ _ k .nil => dpth k + 1
 | .nd _ _ _ (.nd i t k n) => dpth (.nd i t k n)
def sp : Nat → Fo → Nat
 | _, .nil => 0
 | 0, .nd i _ _ .nil => i
 | e + 1, .nd _ _ k .nil => sp e k
 | e, .nd _ _ _ (.nd i t k n) => sp e (.nd i t k n)
def snoc (i : Nat) (t : ByteArray) : Nat → Fo → Fo
 | _, .nil => .nd i t .nil .nil
 | 0, .nd j u k .nil => .nd j u k (.nd i t .nil .nil)
 | e + 1, .nd j u k .nil => .nd j u (snoc i t e k) .nil
 | e, .nd j u k (.nd j2 u2 k2 n2) => .nd j u k (snoc i t e (.nd j2 u2 k2 n2))
theorem snoc_ne (i : Nat) (t : ByteArray) : ∀ (e : Nat) (G : Fo), ∃ j u k n, snoc i t e G = .nd j u k n
 | e, .nil => ⟨_, _, _, _, by unfold snoc; rfl⟩
 | 0, .nd j u k .nil => ⟨_, _, _, _, by unfold snoc; rfl⟩
 | e + 1, .nd j u k .nil => ⟨_, _, _, _, by unfold snoc; rfl⟩
 | e, .nd j u k (.nd j2 u2 k2 n2) => ⟨_, _, _, _, by unfold snoc; rfl⟩
theorem snoc_fl (i : Nat) (t : ByteArray) : ∀ (G : Fo) (e d : Nat), e ≤ dpth G → (snoc i t e G).fl d = G.fl d ++ [⟨(i : Int), ((d + e : Nat) : Int), t⟩]
 | .nil, e, d, h => by
  have : e = 0 := by simpa [dpth] using h
  subst this
  simp [snoc, Fo.fl]
 | .nd j u k .nil, 0, d, h => by simp [snoc, Fo.fl]
 | .nd j u k .nil, e + 1, d, h => by
  have := snoc_fl i t k e (d + 1) (by simp only [dpth] at h; omega)
  simp only [snoc, Fo.fl, this]
  rw [show d + 1 + e = d + (e + 1) by omega]
  simp
 | .nd j u k (.nd j2 u2 k2 n2), e, d, h => by
  have := snoc_fl i t (.nd j2 u2 k2 n2) e d h
  have e1 : snoc i t e (.nd j u k (.nd j2 u2 k2 n2)) = .nd j u k (snoc i t e (.nd j2 u2 k2 n2)) := by cases e <;> rfl
  rw [e1]
  simp only [Fo.fl] at this ⊢
  rw [this]
  simp
theorem snoc_ids (i : Nat) (t : ByteArray) : ∀ (G : Fo) (e : Nat), (snoc i t e G).ids = G.ids ++ [i]
 | .nil, e => by simp [snoc, Fo.ids]
 | .nd j u k .nil, 0 => by simp [snoc, Fo.ids]
 | .nd j u k .nil, e + 1 => by simp [snoc, Fo.ids, snoc_ids i t k e]
 | .nd j u k (.nd j2 u2 k2 n2), e => by
  have e1 : snoc i t e (.nd j u k (.nd j2 u2 k2 n2)) = .nd j u k (snoc i t e (.nd j2 u2 k2 n2)) := by cases e <;> rfl
  rw [e1]
  show j :: (k.ids ++ (snoc i t e (.nd j2 u2 k2 n2)).ids) = _
  rw [snoc_ids i t (.nd j2 u2 k2 n2) e]
  simp [Fo.ids]
theorem snoc_tops (i : Nat) (t : ByteArray) : ∀ (G : Fo) (e : Nat), e ≤ dpth G → (snoc i t e G).tops = if e = 0 then G.tops ++ [i] else G.tops
 | .nil, e, h => by
  have : e = 0 := by simpa [dpth] using h
  subst this
  simp [snoc, Fo.tops]
 | .nd j u k .nil, 0, _ => by simp [snoc, Fo.tops]
 | .nd j u k .nil, e + 1, _ => by simp [snoc, Fo.tops]
 | .nd j u k (.nd j2 u2 k2 n2), e, h => by
  have e1 : snoc i t e (.nd j u k (.nd j2 u2 k2 n2)) = .nd j u k (snoc i t e (.nd j2 u2 k2 n2)) := by cases e <;> rfl
  rw [e1]
  show j :: (snoc i t e (.nd j2 u2 k2 n2)).tops = _
  rw [snoc_tops i t (.nd j2 u2 k2 n2) e h]
  by_cases he : e = 0 <;> simp [he, Fo.tops]
theorem dpth_nd {j : Nat} {u : ByteArray} {k n : Fo} (h : ∃ a b c d, n = .nd a b c d) : dpth (.nd j u k n) = dpth n := by
 obtain ⟨a, b, c, d, rfl⟩ := h
 rfl
theorem sp_nd {e j : Nat} {u : ByteArray} {k n : Fo} (h : ∃ a b c d, n = .nd a b c d) : sp e (.nd j u k n) = sp e n := by
 obtain ⟨a, b, c, d, rfl⟩ := h
 cases e <;> rfl
theorem snoc_dpth (i : Nat) (t : ByteArray) : ∀ (G : Fo) (e : Nat), e ≤ dpth G → dpth (snoc i t e G) = e + 1
 | .nil, e, h => by
  have : e = 0 := by simpa [dpth] using h
  subst this
  rfl
 | .nd j u k .nil, 0, _ => rfl
 | .nd j u k .nil, e + 1, h => by
  show dpth (.nd j u (snoc i t e k) .nil) = _
  show dpth (snoc i t e k) + 1 = _
  rw [snoc_dpth i t k e (by simp only [dpth] at h; omega)]
 | .nd j u k (.nd j2 u2 k2 n2), e, h => by
  have e1 : snoc i t e (.nd j u k (.nd j2 u2 k2 n2)) = .nd j u k (snoc i t e (.nd j2 u2 k2 n2)) := by cases e <;> rfl
  rw [e1, dpth_nd (snoc_ne i t e _)]
  exact snoc_dpth i t (.nd j2 u2 k2 n2) e h
theorem snoc_sp (i : Nat) (t : ByteArray) : ∀ (G : Fo) (e : Nat), e ≤ dpth G → sp e (snoc i t e G) = i ∧ ∀ d, d < e → sp d (snoc i t e G) = sp d G
 | .nil, e, h => by
  have : e = 0 := by simpa [dpth] using h
  subst this
  exact ⟨rfl, fun d hd => by omega⟩
 | .nd j u k .nil, 0, _ => ⟨rfl, fun d hd => by omega⟩
 | .nd j u k .nil, e + 1, h => by
  obtain ⟨h1, h2⟩ := snoc_sp i t k e (by simp only [dpth] at h; omega)
  refine ⟨h1, fun d hd => ?_⟩
  cases d with
  | zero => rfl
  | succ d => exact h2 d (by omega)
 | .nd j u k (.nd j2 u2 k2 n2), e, h => by
  have e1 : snoc i t e (.nd j u k (.nd j2 u2 k2 n2)) = .nd j u k (snoc i t e (.nd j2 u2 k2 n2)) := by cases e <;> rfl
  obtain ⟨h1, h2⟩ := snoc_sp i t (.nd j2 u2 k2 n2) e h
  rw [e1]
  refine ⟨(sp_nd (snoc_ne i t e _)).trans h1, fun d hd => ?_⟩
  rw [sp_nd (snoc_ne i t e _), h2 d hd]
  exact (sp_nd ⟨_, _, _, _, rfl⟩).symm
theorem sp_mem : ∀ (G : Fo) (e : Nat), e < dpth G → sp e G ∈ G.ids
 | .nil, e, h => by simp [dpth] at h
 | .nd j u k .nil, 0, _ => by simp [sp, Fo.ids]
 | .nd j u k .nil, e + 1, h => by
  have := sp_mem k e (by simp only [dpth] at h; omega)
  show sp e k ∈ _
  simp [Fo.ids, this]
 | .nd j u k (.nd j2 u2 k2 n2), e, h => by
  have := sp_mem (.nd j2 u2 k2 n2) e h
  rw [sp_nd ⟨_, _, _, _, rfl⟩]
  show _ ∈ j :: (k.ids ++ (Fo.nd j2 u2 k2 n2).ids)
  simp only [List.mem_cons, List.mem_append]
  exact Or.inr (Or.inr this)
theorem rep_sp {h : Nat → Nd} : ∀ (G : Fo) {up : Nat} (e : Nat), Rep h up G → e < dpth G → (h (sp e G)).up = if e = 0 then up else sp (e - 1) G
 | .nil, up, e, _, hl => by simp [dpth] at hl
 | .nd j u k .nil, up, 0, ⟨h1, h2, h3, h4⟩, _ => by show (h j).up = _; rw [h2]; rfl
 | .nd j u k .nil, up, e + 1, ⟨h1, h2, h3, h4⟩, hl => by
  have := rep_sp k e h3 (by simp only [dpth] at hl; omega)
  show (h (sp e k)).up = _
  rw [this, if_neg (by omega : ¬ e + 1 = 0)]
  cases e with
  | zero => rfl
  | succ e => rfl
 | .nd j u k (.nd j2 u2 k2 n2), up, e, ⟨h1, h2, h3, h4⟩, hl => by
  have := rep_sp (.nd j2 u2 k2 n2) e h4 hl
  rw [sp_nd ⟨_, _, _, _, rfl⟩, sp_nd ⟨_, _, _, _, rfl⟩]
  exact this
theorem reptop_sp {h : Nat → Nd} : ∀ (G : Fo) (e : Nat), RepTop h G → e + 1 < dpth G → (h (sp (e + 1) G)).up = sp e G
 | .nil, e, _, hl => by simp [dpth] at hl
 | .nd j u k .nil, e, ⟨h1, h2, h3, h4⟩, hl => by
  have := rep_sp k e h3 (by simp only [dpth] at hl; omega)
  show (h (sp e k)).up = _
  rw [this]
  cases e with
  | zero => rfl
  | succ e => rfl
 | .nd j u k (.nd j2 u2 k2 n2), e, ⟨h1, h2, h3, h4⟩, hl => by
  have := reptop_sp (.nd j2 u2 k2 n2) e h4 hl
  rw [sp_nd ⟨_, _, _, _, rfl⟩, sp_nd ⟨_, _, _, _, rfl⟩]
  exact this
theorem sp_not_top : ∀ (G : Fo) (e : Nat), G.ids.Nodup → e + 1 < dpth G → sp (e + 1) G ∉ G.tops
 | .nil, e, _, hl => by simp [dpth] at hl
 | .nd j u k .nil, e, hn, hl => by
  obtain ⟨n1, n2, n3, n4, n5⟩ := nodup_nd hn
  have hm := sp_mem k e (by simp only [dpth] at hl; omega)
  show sp e k ∉ [j]
  intro hc
  rw [List.mem_singleton.1 hc] at hm
  exact n1 hm
 | .nd j u k (.nd j2 u2 k2 n2), e, hn, hl => by
  obtain ⟨n1, m2, n3, n4, n5⟩ := nodup_nd hn
  have := sp_not_top (.nd j2 u2 k2 n2) e n4 hl
  have hm := sp_mem (.nd j2 u2 k2 n2) (e + 1) hl
  rw [sp_nd ⟨_, _, _, _, rfl⟩]
  intro hc
  rcases List.mem_cons.1 hc with hc | hc
  ·rw [hc] at hm; exact m2 hm
  ·exact this hc
theorem snoc_after (i : Nat) (t : ByteArray) : ∀ (G : Fo) (e : Nat), G.ids.Nodup → e < dpth G → snoc i t e G = insAfter (sp e G) i t .nil G
 | .nil, e, _, hl => by simp [dpth] at hl
 | .nd j u k .nil, 0, hn, _ => by
  show Fo.nd j u k (.nd i t .nil .nil) = insAfter j i t .nil (.nd j u k .nil)
  unfold insAfter
  rw [if_pos rfl]
 | .nd j u k .nil, e + 1, hn, hl => by
  obtain ⟨n1, n2, n3, n4, n5⟩ := nodup_nd hn
  have hl' : e < dpth k := by simp only [dpth] at hl; omega
  have hm := sp_mem k e hl'
  show Fo.nd j u (snoc i t e k) .nil = insAfter (sp e k) i t .nil (.nd j u k .nil)
  unfold insAfter
  rw [if_neg (fun (e2 : j = sp e k) => n1 (e2 ▸ hm)), snoc_after i t k e n3 hl']
  rfl
 | .nd j u k (.nd j2 u2 k2 n2), e, hn, hl => by
  obtain ⟨n1, n2', n3, n4, n5⟩ := nodup_nd hn
  have e1 : snoc i t e (.nd j u k (.nd j2 u2 k2 n2)) = .nd j u k (snoc i t e (.nd j2 u2 k2 n2)) := by cases e <;> rfl
  have hm := sp_mem (.nd j2 u2 k2 n2) e hl
  have e2 : sp e (.nd j u k (.nd j2 u2 k2 n2)) = sp e (.nd j2 u2 k2 n2) := sp_nd ⟨_, _, _, _, rfl⟩
  rw [e1, e2, snoc_after i t _ e n4 hl]
  have e3 : insAfter (sp e (.nd j2 u2 k2 n2)) i t .nil (.nd j u k (.nd j2 u2 k2 n2)) = .nd j u (insAfter (sp e (.nd j2 u2 k2 n2)) i t .nil k) (insAfter (sp e (.nd j2 u2 k2 n2)) i t .nil (.nd j2 u2 k2 n2)) := by
   conv => lhs; unfold insAfter
   rw [if_neg (fun (e2 : j = sp e (.nd j2 u2 k2 n2)) => n2' (e2 ▸ hm))]
  rw [e3, insAfter_id _ i t .nil (fun hk => n5 _ hk hm)]
theorem snoc_first (i : Nat) (t : ByteArray) : ∀ (G : Fo) (e : Nat), G.ids.Nodup → dpth G = e + 1 → snoc i t (e + 1) G = insFirst (sp e G) i t .nil G
 | .nil, e, _, hl => by simp [dpth] at hl
 | .nd j u k .nil, 0, hn, hl => by
  have : dpth k = 0 := by simp only [dpth] at hl; omega
  have hk : k = .nil := by
   cases k with
   | nil => rfl
   | nd a b c d =>
    exfalso
    have : ∀ (F : Fo), dpth F = 0 → F = .nil := by
     intro F
     induction F with
     | nil => intro _; rfl
     | nd a b c d _ ihd =>
      intro h0
      cases d with
      | nil => simp [dpth] at h0
      | nd a2 b2 c2 d2 =>
       have := ihd (by simpa [dpth] using h0)
       cases this
    have h3 := this _ ‹dpth (Fo.nd a b c d) = 0›
    cases h3
  subst hk
  show Fo.nd j u (.nd i t .nil .nil) .nil = insFirst j i t .nil (.nd j u .nil .nil)
  unfold insFirst
  rw [if_pos rfl]
 | .nd j u k .nil, e + 1, hn, hl => by
  obtain ⟨n1, n2, n3, n4, n5⟩ := nodup_nd hn
  have hl' : dpth k = e + 1 := by simp only [dpth] at hl; omega
  have hm := sp_mem k e (by omega)
  show Fo.nd j u (snoc i t (e + 1) k) .nil = insFirst (sp e k) i t .nil (.nd j u k .nil)
  unfold insFirst
  rw [if_neg (fun (e2 : j = sp e k) => n1 (e2 ▸ hm)), snoc_first i t k e n3 hl']
  rfl
 | .nd j u k (.nd j2 u2 k2 n2), e, hn, hl => by
  obtain ⟨n1, n2', n3, n4, n5⟩ := nodup_nd hn
  have e1 : snoc i t (e + 1) (.nd j u k (.nd j2 u2 k2 n2)) = .nd j u k (snoc i t (e + 1) (.nd j2 u2 k2 n2)) := rfl
  have hl' : dpth (.nd j2 u2 k2 n2) = e + 1 := hl
  have hm := sp_mem (.nd j2 u2 k2 n2) e (by omega)
  have e2 : sp e (.nd j u k (.nd j2 u2 k2 n2)) = sp e (.nd j2 u2 k2 n2) := sp_nd ⟨_, _, _, _, rfl⟩
  rw [e1, e2, snoc_first i t _ e n4 hl']
  have e3 : insFirst (sp e (.nd j2 u2 k2 n2)) i t .nil (.nd j u k (.nd j2 u2 k2 n2)) = .nd j u (insFirst (sp e (.nd j2 u2 k2 n2)) i t .nil k) (insFirst (sp e (.nd j2 u2 k2 n2)) i t .nil (.nd j2 u2 k2 n2)) := by
   conv => lhs; unfold insFirst
   rw [if_neg (fun (e2 : j = sp e (.nd j2 u2 k2 n2)) => n2' (e2 ▸ hm))]
  rw [e3, insFirst_id _ i t .nil (fun hk => n5 _ hk hm)]
theorem reptop_snoc0 {h : Nat → Nd} {i : Nat} {t : ByteArray} (h0 : i ≠ 0) (hi : h i = ⟨t, 0, 0, 0⟩) : ∀ (G : Fo), RepTop h G → RepTop h (snoc i t 0 G)
 | .nil, _ => ⟨h0, hi, trivial, trivial⟩
 | .nd j u k .nil, ⟨h1, h2, h3, h4⟩ => ⟨h1, h2, h3, h0, hi, trivial, trivial⟩
 | .nd j u k (.nd j2 u2 k2 n2), ⟨h1, h2, h3, h4⟩ => ⟨h1, h2, h3, reptop_snoc0 h0 hi _ h4⟩
end Go.Proofs.YtlkheeegkifblaaDoor.FP
namespace Go.Proofs.YtlkheeegkifblaaDoor.P
open Go.RowKit Go.Proofs.YtlkheeegkifblaaDoorW.PrintWords Go.Proofs.YtlkheeegkifblaaDoorW.PrintLast Go.Proofs.YtlkheeegkifblaaDoorW.PrintMore Go.Proofs.YtlkheeegkifblaaDoor.FP
def pa (o : Option Nat) : Option Addr := o.map fun b => ⟨b, 0, none⟩
theorem pa_none : pa none = none := rfl
theorem pa_some (b : Nat) : pa (some b) = some ⟨b, 0, none⟩ := rfl
def nodeC (A : Nat → Option Nat) (i : Nat) (x : Nd) : Array Value := #[.int .i64 (i : Int), .string x.t, .pointer (pa (A x.up)), .pointer (pa (A x.first)), .pointer (pa (A x.next))]
def tabC (A : Nat → Option Nat) : Array Value := ((List.range 37).map fun i => Value.pointer (pa (A i))).toArray
structure Mem (w : World) (n0 F : Nat) (A : Nat → Option Nat) (h : Nat → Nd) : Prop where
 z : A 0 = none
 rng : ∀ i b, A i = some b → i < 37
 inj : ∀ i j b, A i = some b → A j = some b → i = j
 ne : ∀ i b, A i = some b → b ≠ F
 lo : ∀ i b, A i = some b → n0 ≤ b
 loF : n0 ≤ F
 tab : w.heap[F]? = some (.cells (tabC A) 110 (0, 0))
 nod : ∀ i b, A i = some b → w.heap[b]? = some (.cells (nodeC A i (h i)) 85 (0, 0))
 cu : ∀ i, A i ≠ none → (h i).up = 0 ∨ A (h i).up ≠ none
 cf : ∀ i, A i ≠ none → (h i).first = 0 ∨ A (h i).first ≠ none
 cn : ∀ i, A i ≠ none → (h i).next = 0 ∨ A (h i).next ≠ none
theorem Mem.kept {w w' : World} {n0 F : Nat} {A : Nat → Option Nat} {h : Nat → Nd} (m : Mem w n0 F A h) (hk : ∀ b, b < w.heap.size → w'.heap[b]? = w.heap[b]?) : Mem w' n0 F A h :=
 { m with tab := (hk F (blk_lt m.tab)).trans m.tab, nod := fun i b e => (hk b (blk_lt (m.nod i b e))).trans (m.nod i b e) }
theorem Mem.below {w w' : World} {n0 F : Nat} {A : Nat → Option Nat} {h : Nat → Nd} (m : Mem w n0 F A h) (hb : Below w.heap.size w w') : Mem w' n0 F A h := m.kept fun b hl => hb.block b hl
theorem Mem.alloc {w : World} {n0 F : Nat} {A : Nat → Option Nat} {h : Nat → Nd} (m : Mem w n0 F A h) (o : Obj) : Mem (w.alloc o) n0 F A h := m.kept fun b hl => Below.heap_alloc w o b hl
theorem Mem.drew {w : World} {n0 F : Nat} {A : Nat → Option Nat} {h : Nat → Nd} (m : Mem w n0 F A h) : Mem w.drew n0 F A h := m.kept fun _ _ => rfl
theorem Mem.drewN {w : World} {n0 F : Nat} {A : Nat → Option Nat} {h : Nat → Nd} (m : Mem w n0 F A h) (n : Nat) : Mem (w.drewN n) n0 F A h := m.kept fun _ _ => rfl
theorem Mem.lt {w : World} {n0 F : Nat} {A : Nat → Option Nat} {h : Nat → Nd} (m : Mem w n0 F A h) {i b : Nat} (e : A i = some b) : b < w.heap.size := blk_lt (m.nod i b e)
theorem Mem.ltF {w : World} {n0 F : Nat} {A : Nat → Option Nat} {h : Nat → Nd} (m : Mem w n0 F A h) : F < w.heap.size := blk_lt m.tab
theorem Mem.c0 {w : World} {n0 F : Nat} {A : Nat → Option Nat} {h : Nat → Nd} (m : Mem w n0 F A h) {i b : Nat} (e : A i = some b) : w.cell? ⟨b, 0, none⟩ = some (.int .i64 (i : Int)) := (blk_cell (m.nod i b e) 0).trans rfl
theorem Mem.c1 {w : World} {n0 F : Nat} {A : Nat → Option Nat} {h : Nat → Nd} (m : Mem w n0 F A h) {i b : Nat} (e : A i = some b) : w.cell? ⟨b, 1, none⟩ = some (.string (h i).t) := (blk_cell (m.nod i b e) 1).trans rfl
theorem Mem.c2 {w : World} {n0 F : Nat} {A : Nat → Option Nat} {h : Nat → Nd} (m : Mem w n0 F A h) {i b : Nat} (e : A i = some b) : w.cell? ⟨b, 2, none⟩ = some (.pointer (pa (A (h i).up))) := (blk_cell (m.nod i b e) 2).trans rfl
theorem Mem.c3 {w : World} {n0 F : Nat} {A : Nat → Option Nat} {h : Nat → Nd} (m : Mem w n0 F A h) {i b : Nat} (e : A i = some b) : w.cell? ⟨b, 3, none⟩ = some (.pointer (pa (A (h i).first))) := (blk_cell (m.nod i b e) 3).trans rfl
theorem Mem.c4 {w : World} {n0 F : Nat} {A : Nat → Option Nat} {h : Nat → Nd} (m : Mem w n0 F A h) {i b : Nat} (e : A i = some b) : w.cell? ⟨b, 4, none⟩ = some (.pointer (pa (A (h i).next))) := (blk_cell (m.nod i b e) 4).trans rfl
theorem Mem.fz {w : World} {n0 F : Nat} {A : Nat → Option Nat} {h : Nat → Nd} (m : Mem w n0 F A h) {i b : Nat} (e : A i = some b) (j : Nat) : w.frozen? ⟨b, j, none⟩ = false := blk_frozen (m.nod i b e) j
theorem Mem.fzF {w : World} {n0 F : Nat} {A : Nat → Option Nat} {h : Nat → Nd} (m : Mem w n0 F A h) (j : Nat) : w.frozen? ⟨F, j, none⟩ = false := blk_frozen m.tab j
theorem tabC_get (A : Nat → Option Nat) (i : Nat) (hi : i < 37) : (tabC A)[i]? = some (.pointer (pa (A i))) := by
 simp [tabC, hi]
theorem Mem.cF {w : World} {n0 F : Nat} {A : Nat → Option Nat} {h : Nat → Nd} (m : Mem w n0 F A h) (i : Nat) (hi : i < 37) : w.cell? ⟨F, i, none⟩ = some (.pointer (pa (A i))) := (blk_cell m.tab i).trans (tabC_get A i hi)
def upN (h : Nat → Nd) (i : Nat) (x : Nd) : Nat → Nd := fun j => if j = i then x else h j
theorem Mem.set {w : World} {n0 F : Nat} {A : Nat → Option Nat} {h : Nat → Nd} (m : Mem w n0 F A h) {i b : Nat} (e : A i = some b) (k : Nat) (v : Value) (x : Nd) (hx : (nodeC A i (h i)).setIfInBounds k v = nodeC A i x)
  (xu : x.up = 0 ∨ A x.up ≠ none) (xf : x.first = 0 ∨ A x.first ≠ none) (xn : x.next = 0 ∨ A x.next ≠ none) : Mem (w.setCell ⟨b, k, none⟩ v) n0 F A (upN h i x) where
 z := m.z
 rng := m.rng
 inj := m.inj
 ne := m.ne
 lo := m.lo
 loF := m.loF
 tab := blk_far m.tab (fun e2 => m.ne i b e e2.symm) v
 nod := fun j c ec => by
  unfold upN
  by_cases hj : j = i
  ·subst hj
   obtain rfl : c = b := by rw [e] at ec; exact (Option.some.inj ec).symm
   rw [if_pos rfl, ← hx]
   exact blk_set (m.nod j c e) k v
  ·rw [if_neg hj]
   exact blk_far (m.nod j c ec) (fun (e2 : c = b) => hj (m.inj j i c ec (e2 ▸ e))) v
 cu := fun j hj => by unfold upN; split; exact xu; exact m.cu j hj
 cf := fun j hj => by unfold upN; split; exact xf; exact m.cf j hj
 cn := fun j hj => by unfold upN; split; exact xn; exact m.cn j hj
theorem Mem.ext {w : World} {n0 F : Nat} {A : Nat → Option Nat} {h h' : Nat → Nd} (m : Mem w n0 F A h) (e : ∀ j, h j = h' j) : Mem w n0 F A h' := (funext e : h = h') ▸ m
def upA (A : Nat → Option Nat) (i b : Nat) : Nat → Option Nat := fun j => if j = i then some b else A j
theorem tabC_up (A : Nat → Option Nat) (i b : Nat) (hi : i < 37) : (tabC A).setIfInBounds i (.pointer (some ⟨b, 0, none⟩)) = tabC (upA A i b) := by
 unfold tabC
 rw [List.setIfInBounds_toArray]
 congr 1
 apply List.ext_getElem (by simp)
 intro k h1 h2
 simp only [List.getElem_set, List.getElem_map, List.getElem_range, upA]
 by_cases hk : i = k
 ·rw [if_pos hk, if_pos hk.symm]; rfl
 ·rw [if_neg hk, if_neg (fun e => hk e.symm)]
theorem Mem.add {w : World} {n0 F : Nat} {A : Nat → Option Nat} {h : Nat → Nd} (m : Mem w n0 F A h) {i : Nat} (h0 : i ≠ 0) (hi : i < 37) (hA : A i = none) (hne : ∀ j, A j ≠ none → (h j).up ≠ i ∧ (h j).first ≠ i ∧ (h j).next ≠ i) {b : Nat} {t : ByteArray} (hb : ∀ j, A j ≠ some b) (hbF : b ≠ F) (hlo : n0 ≤ b)
  (hnew : w.heap[b]? = some (.cells #[.int .i64 (i : Int), .string t, .pointer none, .pointer none, .pointer none] 85 (0, 0))) :
  Mem (w.setCell ⟨F, i, none⟩ (.pointer (some ⟨b, 0, none⟩))) n0 F (upA A i b) (upN h i ⟨t, 0, 0, 0⟩) where
 z := by unfold upA; rw [if_neg (fun e => h0 e.symm)]; exact m.z
 rng := fun j c e => by
  unfold upA at e
  by_cases hj : j = i
  ·rw [hj]; exact hi
  ·rw [if_neg hj] at e; exact m.rng j c e
 inj := fun j k c ej ek => by
  unfold upA at ej ek
  by_cases hj : j = i
  ·by_cases hk : k = i
   ·rw [hj, hk]
   ·rw [if_pos hj] at ej; rw [if_neg hk] at ek
    exact absurd (ek.trans ej.symm) (hb k)
  ·by_cases hk : k = i
   ·rw [if_neg hj] at ej; rw [if_pos hk] at ek
    exact absurd (ej.trans ek.symm) (hb j)
   ·rw [if_neg hj] at ej; rw [if_neg hk] at ek
    exact m.inj j k c ej ek
 ne := fun j c e => by
  unfold upA at e
  by_cases hj : j = i
  ·rw [if_pos hj] at e; rw [← Option.some.inj e]; exact hbF
  ·rw [if_neg hj] at e; exact m.ne j c e
 lo := fun j c e => by
  unfold upA at e
  by_cases hj : j = i
  ·rw [if_pos hj] at e; rw [← Option.some.inj e]; exact hlo
  ·rw [if_neg hj] at e; exact m.lo j c e
 loF := m.loF
 tab := by
  rw [← tabC_up A i b hi]
  exact blk_set m.tab i _
 nod := fun j c e => by
  have hF : ∀ {c : Nat} {cs : Array Value} {t : TypeId}, c ≠ F → w.heap[c]? = some (.cells cs t (0, 0)) → (w.setCell ⟨F, i, none⟩ (.pointer (some ⟨b, 0, none⟩))).heap[c]? = some (.cells cs t (0, 0)) := fun hc hh => blk_far hh (p := ⟨F, i, none⟩) hc _
  unfold upA at e
  by_cases hj : j = i
  ·rw [if_pos hj] at e
   obtain rfl := Option.some.inj e
   subst hj
   have : nodeC (upA A j b) j (upN h j ⟨t, 0, 0, 0⟩ j) = #[.int .i64 (j : Int), .string t, .pointer none, .pointer none, .pointer none] := by
    have h0' : ¬ (0 = j) := fun e => h0 e.symm
    simp [nodeC, upN, upA, h0', m.z, pa]
   rw [this]
   exact hF hbF hnew
  ·rw [if_neg hj] at e
   have hn := m.nod j c e
   have e2 : nodeC (upA A i b) j (upN h i ⟨t, 0, 0, 0⟩ j) = nodeC A j (h j) := by
    obtain ⟨n1, n2, n3⟩ := hne j (by rw [e]; simp)
    unfold nodeC upN upA
    rw [if_neg hj, if_neg n1, if_neg n2, if_neg n3]
   rw [e2]
   exact hF (m.ne j c e) hn
 cu := fun j hj => by
  unfold upN
  by_cases hji : j = i
  ·rw [if_pos hji]; exact Or.inl rfl
  ·rw [if_neg hji]
   have hj' : A j ≠ none := by unfold upA at hj; rw [if_neg hji] at hj; exact hj
   rcases m.cu j hj' with h1 | h1
   ·exact Or.inl h1
   ·right; unfold upA; split; simp; exact h1
 cf := fun j hj => by
  unfold upN
  by_cases hji : j = i
  ·rw [if_pos hji]; exact Or.inl rfl
  ·rw [if_neg hji]
   have hj' : A j ≠ none := by unfold upA at hj; rw [if_neg hji] at hj; exact hj
   rcases m.cf j hj' with h1 | h1
   ·exact Or.inl h1
   ·right; unfold upA; split; simp; exact h1
 cn := fun j hj => by
  unfold upN
  by_cases hji : j = i
  ·rw [if_pos hji]; exact Or.inl rfl
  ·rw [if_neg hji]
   have hj' : A j ≠ none := by unfold upA at hj; rw [if_neg hji] at hj; exact hj
   rcases m.cn j hj' with h1 | h1
   ·exact Or.inl h1
   ·right; unfold upA; split; simp; exact h1
theorem nodeSize : (Tryd.prog.info? 85).map (·.size) = some 5 := by kernel_rfl
theorem equalS (a : Addr) (w : World) : (Op.equal 70 (.pointer (some a)) (.pointer (some a))).run Tryd.prog w = .ok true w := by
 obtain ⟨j, hj, hjs⟩ := Option.map_eq_some_iff.1 nodeSize
 have h : ∀ d : Nat, (Op.equalIn (d + 1) 70 (.pointer (some a)) (.pointer (some a))).run Tryd.prog w = .ok true w := fun d => by
  simp [Op.equalIn, run_underlying Tryd.underlying70, sizeOf, typeInfo, hj, run_sameAddr_same]
 simp [Op.equal, Op.maxDepth, h 9999]
theorem equalO {a b : Addr} {ca cb : Array Value} {ta tb : TypeId} (w : World) (hne : a ≠ b) (ha : w.heap[a.block]? = some (.cells ca ta (0, 0))) (hb : w.heap[b.block]? = some (.cells cb tb (0, 0))) :
  (Op.equal 70 (.pointer (some a)) (.pointer (some b))).run Tryd.prog w = .ok false w := by
 obtain ⟨j, hj, hjs⟩ := Option.map_eq_some_iff.1 nodeSize
 have hsz : j.size ≠ 0 := by rw [hjs]; decide
 have h : ∀ d : Nat, (Op.equalIn (d + 1) 70 (.pointer (some a)) (.pointer (some b))).run Tryd.prog w = .ok false w := fun d => by
  simp [Op.equalIn, run_underlying Tryd.underlying70, sizeOf, typeInfo, hj, hsz, run_sameAddr_other w hne ha hb]
 simp [Op.equal, Op.maxDepth, h 9999]
theorem eqS (a : Addr) (w : World) : (binOp .eql 70 (.pointer (some a)) (.pointer (some a))).run Tryd.prog w = .ok (.bool true) w := by
 simp only [binOp]; simp [equalS]
theorem neS (a : Addr) (w : World) : (binOp .neq 70 (.pointer (some a)) (.pointer (some a))).run Tryd.prog w = .ok (.bool false) w := by
 simp only [binOp]; simp [equalS]
theorem eqO {a b : Addr} {ca cb : Array Value} {ta tb : TypeId} (w : World) (hne : a ≠ b) (ha : w.heap[a.block]? = some (.cells ca ta (0, 0))) (hb : w.heap[b.block]? = some (.cells cb tb (0, 0))) :
  (binOp .eql 70 (.pointer (some a)) (.pointer (some b))).run Tryd.prog w = .ok (.bool false) w := by
 simp only [binOp]; simp [equalO w hne ha hb]
theorem neO {a b : Addr} {ca cb : Array Value} {ta tb : TypeId} (w : World) (hne : a ≠ b) (ha : w.heap[a.block]? = some (.cells ca ta (0, 0))) (hb : w.heap[b.block]? = some (.cells cb tb (0, 0))) :
  (binOp .neq 70 (.pointer (some a)) (.pointer (some b))).run Tryd.prog w = .ok (.bool true) w := by
 simp only [binOp]; simp [equalO w hne ha hb]
theorem blk_ne {b c : Nat} (h : b ≠ c) : (⟨b, 0, none⟩ : Addr) ≠ ⟨c, 0, none⟩ := fun e => h (congrArg Addr.block e)
theorem Mem.eqn {w : World} {n0 F : Nat} {A : Nat → Option Nat} {h : Nat → Nd} (m : Mem w n0 F A h) {i j b c : Nat} (hi : A i = some b) (hj : A j = some c) (hne : i ≠ j) : (binOp .eql 70 (.pointer (some ⟨b, 0, none⟩)) (.pointer (some ⟨c, 0, none⟩))).run Tryd.prog w = .ok (.bool false) w :=
 eqO w (blk_ne fun e => hne (m.inj i j b hi (e ▸ hj))) (m.nod i b hi) (m.nod j c hj)
theorem Mem.nen {w : World} {n0 F : Nat} {A : Nat → Option Nat} {h : Nat → Nd} (m : Mem w n0 F A h) {i j b c : Nat} (hi : A i = some b) (hj : A j = some c) (hne : i ≠ j) : (binOp .neq 70 (.pointer (some ⟨b, 0, none⟩)) (.pointer (some ⟨c, 0, none⟩))).run Tryd.prog w = .ok (.bool true) w :=
 neO w (blk_ne fun e => hne (m.inj i j b hi (e ▸ hj))) (m.nod i b hi) (m.nod j c hj)
def findA (A : Nat → Option Nat) (id : Int) : Option Nat := if 0 ≤ id ∧ id < 37 then A id.toNat else none
theorem find_any {w : World} {n0 F : Nat} {A : Nat → Option Nat} {h : Nat → Nd} (m : Mem w n0 F A h) (id : Int) :
  Calls Tryd.prog 61 #[.pointer (some ⟨F, 0, none⟩), .int .i64 id] w fun e w' => e = .returned (.pointer (pa (findA A id))) ∧ w' = w := by
 unfold findA
 by_cases h0 : id < 0
 ·rw [if_neg (by omega)]
  have hd : decide (id < 0) = true := decide_eq_true h0
  go_enter Tryd.func61, Tryd.ntmps61
  go_wp2
  go_ret
  exact ⟨rfl, rfl⟩
 ·by_cases h1 : 37 ≤ id
  ·rw [if_neg (by omega)]
   have hd : decide (id < 0) = false := decide_eq_false h0
   have hd1 : decide (37 ≤ id) = true := decide_eq_true h1
   go_enter Tryd.func61, Tryd.ntmps61
   go_wp2
   go_ret
   exact ⟨rfl, rfl⟩
  ·rw [if_pos (by omega)]
   obtain ⟨i, rfl⟩ := Int.eq_ofNat_of_zero_le (show 0 ≤ id by omega)
   have hd : decide ((i : Int) < 0) = false := decide_eq_false h0
   have hd1 : decide (37 ≤ (i : Int)) = false := decide_eq_false h1
   have hc := m.cF i (by omega)
   have hi : (i : Int) < 37 := by omega
   have hi0 : 0 ≤ (i : Int) := by omega
   rw [Int.toNat_natCast]
   go_enter Tryd.func61, Tryd.ntmps61
   go_wp2
   go_ret
   exact ⟨rfl, rfl⟩
theorem nodeC_2 (A : Nat → Option Nat) (i : Nat) (x : Nd) (u : Nat) : (nodeC A i x).setIfInBounds 2 (.pointer (pa (A u))) = nodeC A i ⟨x.t, u, x.first, x.next⟩ := rfl
theorem nodeC_3 (A : Nat → Option Nat) (i : Nat) (x : Nd) (u : Nat) : (nodeC A i x).setIfInBounds 3 (.pointer (pa (A u))) = nodeC A i ⟨x.t, x.up, u, x.next⟩ := rfl
theorem nodeC_4 (A : Nat → Option Nat) (i : Nat) (x : Nd) (u : Nat) : (nodeC A i x).setIfInBounds 4 (.pointer (pa (A u))) = nodeC A i ⟨x.t, x.up, x.first, u⟩ := rfl
theorem nodeC_1 (A : Nat → Option Nat) (i : Nat) (x : Nd) (t : ByteArray) : (nodeC A i x).setIfInBounds 1 (.string t) = nodeC A i ⟨t, x.up, x.first, x.next⟩ := rfl
theorem Mem.setU {w : World} {n0 F : Nat} {A : Nat → Option Nat} {h : Nat → Nd} (m : Mem w n0 F A h) {i b : Nat} (e : A i = some b) (u : Nat) (hu : u = 0 ∨ A u ≠ none) : Mem (w.setCell ⟨b, 2, none⟩ (.pointer (pa (A u)))) n0 F A (upN h i ⟨(h i).t, u, (h i).first, (h i).next⟩) :=
 m.set e 2 _ _ (nodeC_2 A i (h i) u) hu (m.cf i (by rw [e]; simp)) (m.cn i (by rw [e]; simp))
theorem Mem.setF {w : World} {n0 F : Nat} {A : Nat → Option Nat} {h : Nat → Nd} (m : Mem w n0 F A h) {i b : Nat} (e : A i = some b) (u : Nat) (hu : u = 0 ∨ A u ≠ none) : Mem (w.setCell ⟨b, 3, none⟩ (.pointer (pa (A u)))) n0 F A (upN h i ⟨(h i).t, (h i).up, u, (h i).next⟩) :=
 m.set e 3 _ _ (nodeC_3 A i (h i) u) (m.cu i (by rw [e]; simp)) hu (m.cn i (by rw [e]; simp))
theorem Mem.setN {w : World} {n0 F : Nat} {A : Nat → Option Nat} {h : Nat → Nd} (m : Mem w n0 F A h) {i b : Nat} (e : A i = some b) (u : Nat) (hu : u = 0 ∨ A u ≠ none) : Mem (w.setCell ⟨b, 4, none⟩ (.pointer (pa (A u)))) n0 F A (upN h i ⟨(h i).t, (h i).up, (h i).first, u⟩) :=
 m.set e 4 _ _ (nodeC_4 A i (h i) u) (m.cu i (by rw [e]; simp)) (m.cf i (by rw [e]; simp)) hu
theorem Mem.setT {w : World} {n0 F : Nat} {A : Nat → Option Nat} {h : Nat → Nd} (m : Mem w n0 F A h) {i b : Nat} (e : A i = some b) (t : ByteArray) : Mem (w.setCell ⟨b, 1, none⟩ (.string t)) n0 F A (upN h i ⟨t, (h i).up, (h i).first, (h i).next⟩) :=
 m.set e 1 _ _ (nodeC_1 A i (h i) t) (m.cu i (by rw [e]; simp)) (m.cf i (by rw [e]; simp)) (m.cn i (by rw [e]; simp))
theorem attach_first {w : World} {n0 F : Nat} {A : Nat → Option Nat} {h : Nat → Nd} (m : Mem w n0 F A h) {i u bi bu : Nat} (hi : A i = some bi) (hu : A u = some bu) (hne : u ≠ i) :
  Calls Tryd.prog 96 #[.pointer (some ⟨bi, 0, none⟩), .pointer (some ⟨bu, 0, none⟩), .pointer none] w fun e w' => (∃ v, e = .returned v) ∧ Mem w' n0 F A (attachH h i u 0) ∧ Below n0 w w' ∧ (∀ k, (∀ x, A x ≠ some k) → w'.heap[k]? = w.heap[k]?) := by
 have hnb : bu ≠ bi := fun e => hne (m.inj u i bu hu (e ▸ hi))
 have hnb' : bi ≠ bu := fun e => hnb e.symm
 have c3 := m.c3 hu
 have c4 := m.c4 hi
 have c2 := m.c2 hi
 have z2 := m.fz hi 2
 have z4 := m.fz hi 4
 have z3 := m.fz hu 3
 have M3 := Aside0.mk (((m.setU hi u (Or.inr (by rw [hu]; simp))).setN hi (h u).first (m.cf u (by rw [hu]; simp))).setF hu i (Or.inr (by rw [hi]; simp)))
 rw [hu, hi, pa_some, pa_some] at M3
 have L1 := m.lo i bi hi
 have L2 := m.lo u bu hu
 have HI := Aside0.mk hi
 have HU := Aside0.mk hu
 clear m hi hu
 go_enter Tryd.func96, Tryd.ntmps96
 go_wp2
 refine bodyPost_ret (results_none rfl _ _ _) rfl ?_
 refine ⟨⟨_, rfl⟩, M3.out.ext (fun j => ?_), (((Below.refl n0 w).setCell (p := ⟨bi, 2, none⟩) L1 _).setCell (p := ⟨bi, 4, none⟩) L1 _).setCell (p := ⟨bu, 3, none⟩) L2 _, fun k hk => by
  rw [Below.heap_setCell _ _ _ _ (fun e => hk u (by rw [HU.out, e])), Below.heap_setCell _ _ _ _ (fun e => hk i (by rw [HI.out, e])), Below.heap_setCell _ _ _ _ (fun e => hk i (by rw [HI.out, e]))]⟩
 unfold attachH upN
 by_cases e1 : j = u
 ·subst e1; simp [hne]
 ·by_cases e2 : j = i
  ·subst e2; simp [e1]
  ·simp [e1, e2]
theorem attach_behind {w : World} {n0 F : Nat} {A : Nat → Option Nat} {h : Nat → Nd} (m : Mem w n0 F A h) {i u a bi bu ba : Nat} (hi : A i = some bi) (hu : A u = some bu) (ha : A a = some ba) (hne : a ≠ i) :
  Calls Tryd.prog 96 #[.pointer (some ⟨bi, 0, none⟩), .pointer (some ⟨bu, 0, none⟩), .pointer (some ⟨ba, 0, none⟩)] w fun e w' => (∃ v, e = .returned v) ∧ Mem w' n0 F A (attachH h i u a) ∧ Below n0 w w' ∧ (∀ k, (∀ x, A x ≠ some k) → w'.heap[k]? = w.heap[k]?) := by
 have hnb : ba ≠ bi := fun e => hne (m.inj a i ba ha (e ▸ hi))
 have hnb' : bi ≠ ba := fun e => hnb e.symm
 have ha0 : a ≠ 0 := fun e => by rw [e, m.z] at ha; cases ha
 have c4 := m.c4 hi
 have c2 := m.c2 hi
 have d4 := m.c4 ha
 have z2 := m.fz hi 2
 have z4 := m.fz hi 4
 have z3 := m.fz ha 4
 have M3 := Aside0.mk (((m.setU hi u (Or.inr (by rw [hu]; simp))).setN hi (h a).next (m.cn a (by rw [ha]; simp))).setN ha i (Or.inr (by rw [hi]; simp)))
 rw [hu, hi, pa_some, pa_some] at M3
 have L1 := m.lo i bi hi
 have L2 := m.lo a ba ha
 have HI := Aside0.mk hi
 have HA := Aside0.mk ha
 clear m hi hu ha
 go_enter Tryd.func96, Tryd.ntmps96
 go_wp2
 go_end0
 refine ⟨⟨_, rfl⟩, M3.out.ext (fun j => ?_), (((Below.refl n0 w).setCell (p := ⟨bi, 2, none⟩) L1 _).setCell (p := ⟨bi, 4, none⟩) L1 _).setCell (p := ⟨ba, 4, none⟩) L2 _, fun k hk => by
  rw [Below.heap_setCell _ _ _ _ (fun e => hk a (by rw [HA.out, e])), Below.heap_setCell _ _ _ _ (fun e => hk i (by rw [HI.out, e])), Below.heap_setCell _ _ _ _ (fun e => hk i (by rw [HI.out, e]))]⟩
 unfold attachH upN
 rw [if_neg ha0]
 by_cases e1 : j = a
 ·subst e1; simp [hne]
 ·by_cases e2 : j = i
  ·subst e2; simp [e1]
  ·simp [e1, e2]
def withinF (h : Nat → Nd) (u : Nat) : Nat → Nat → Option Bool
 | 0, _ => none
 | k + 1, x => if x = 0 then some false else if x = u then some true else withinF h u k (h x).up
set_option maxRecDepth 100000 in
set_option maxHeartbeats 1000000 in
theorem within_any {w : World} {n0 F : Nat} {A : Nat → Option Nat} {h : Nat → Nd} (m : Mem w n0 F A h) (x u : Nat) (hx : x = 0 ∨ A x ≠ none) {c : Nat} (hu : A u = some c) (k : Nat) (r : Bool) (hr : withinF h u k x = some r) :
  Calls Tryd.prog 62 #[.pointer (pa (A x)), .pointer (some ⟨c, 0, none⟩)] w fun e w' => e = .returned (.bool r) ∧ w' = w := by
 have HX := Aside0.mk hx
 have HR := Aside0.mk hr
 have M := Aside0.mk m
 have HU := Aside0.mk hu
 clear hx hr m hu
 go_enter Tryd.func62, Tryd.ntmps62
 go_wp2
 go_loopg [0] k (fun kq v w' => ∃ y : Nat, v = .pointer (pa (A y)) ∧ Aside0 (y = 0 ∨ A y ≠ none) ∧ Aside0 (withinF h u kq y = some r) ∧ w' = w)
 case atStart => exact ⟨x, rfl, HX, HR, rfl⟩
 case round =>
  obtain ⟨y, rfl, HY, HQ, rfl⟩ := hrel
  clear HX HR
  cases gk with
  | zero => exact absurd HQ.out (by simp [withinF])
  | succ k1 =>
   have hq := HQ.out
   clear HQ
   unfold withinF at hq
   by_cases hy0 : y = 0
   ·rw [if_pos hy0] at hq
    obtain rfl := Option.some.inj hq
    subst hy0
    have hz := M.out.z
    rw [hz, pa_none]
    clear hq hz HY
    go_wp2
    go_ret
    exact ⟨rfl, rfl⟩
   ·rw [if_neg hy0] at hq
    obtain ⟨b, hb⟩ := Option.ne_none_iff_exists'.1 (HY.out.resolve_left hy0)
    have HB := Aside0.mk hb
    have HC := HU
    clear hb
    by_cases hyu : y = u
    ·rw [if_pos hyu] at hq
     obtain rfl := Option.some.inj hq
     subst hyu
     obtain rfl : b = c := Option.some.inj (HB.out.symm.trans HC.out)
     rw [HB.out, pa_some]
     have hE := eqS ⟨b, 0, none⟩ wr
     clear hq
     go_wp2
     go_ret
     exact ⟨rfl, rfl⟩
    ·rw [if_neg hyu] at hq
     have hbc : b ≠ c := fun e => hyu (M.out.inj y u b HB.out (e ▸ HC.out))
     have c2 := M.out.c2 HB.out
     have HQ := Aside0.mk hq
     have HUP := Aside0.mk (M.out.cu y (by rw [HB.out]; simp))
     have hE := M.out.eqn HB.out HC.out hyu
     rw [HB.out, pa_some]
     clear hq
     go_wp2
     go_roundg k1
     case measure => exact Nat.lt_succ_self _
     case rel => exact ⟨(h y).up, rfl, HUP, HQ, rfl⟩
end Go.Proofs.YtlkheeegkifblaaDoor.P
namespace Go.Proofs.YtlkheeegkifblaaDoor.P
open Go.RowKit Go.Shelf Go.Proofs.YtlkheeegkifblaaDoorW.PrintWords Go.Proofs.YtlkheeegkifblaaDoorW.PrintLast Go.Proofs.YtlkheeegkifblaaDoorW.PrintMore Go.Proofs.YtlkheeegkifblaaDoor.FP
attribute [local go_sem] Oper.semAt_some

def NList (A : Nat → Option Nat) (n0 : Nat) (W : World) : Option Addr → List Nat → Prop
 | p, [] => p = none
 | p, x :: rest => ∃ b q, A x = some b ∧ p = some ⟨b, 0, none⟩ ∧ b < n0 ∧ W.cell? ⟨b, 4, none⟩ = some (.pointer q) ∧ NList A n0 W q rest
theorem NList.below {A : Nat → Option Nat} {n0 : Nat} {V W : World} (h : Below n0 V W) : ∀ {p : Option Addr} {xs : List Nat}, NList A n0 V p xs → NList A n0 W p xs
 | _, [], hl => hl
 | _, _ :: _, ⟨b, q, h1, h2, h3, h4, h5⟩ => ⟨b, q, h1, h2, h3, (h.cell (p := ⟨b, 4, none⟩) h3).trans h4, NList.below h h5⟩
theorem NList.len {A : Nat → Option Nat} {n0 : Nat} {W : World} : ∀ {xs ys : List Nat} {p : Option Addr}, NList A n0 W p xs → NList A n0 W p ys → xs.length = ys.length
 | [], [], _, _, _ => rfl
 | [], _ :: _, _, h, ⟨b, q, _, h2, _⟩ => by rw [show _ = none from h] at h2; cases h2
 | _ :: _, [], _, ⟨b, q, _, h2, _⟩, h => by rw [show _ = none from h] at h2; cases h2
 | _ :: _, _ :: _, _, ⟨b, q, h1, h2, h3, h4, h5⟩, ⟨c, r, g1, g2, g3, g4, g5⟩ => by
  rw [h2] at g2
  obtain rfl : b = c := congrArg Addr.block (Option.some.inj g2)
  rw [h4] at g4
  obtain rfl : q = r := by injection g4 with e; injection e
  rw [List.length_cons, List.length_cons, NList.len h5 g5]
open Classical in
noncomputable def nleft (A : Nat → Option Nat) (n0 : Nat) (W : World) (v : Value) : Nat :=
 if h : ∃ r : Option Addr × List Nat, v = .pointer r.1 ∧ NList A n0 W r.1 r.2 then (Classical.choose h).2.length else 0
theorem nleft_eq {A : Nat → Option Nat} {n0 : Nat} {W : World} {q : Option Addr} {xs : List Nat} (h : NList A n0 W q xs) : nleft A n0 W (.pointer q) = xs.length := by
 have hex : ∃ r : Option Addr × List Nat, Value.pointer q = .pointer r.1 ∧ NList A n0 W r.1 r.2 := ⟨(q, xs), rfl, h⟩
 unfold nleft
 rw [dif_pos hex]
 obtain ⟨e, hl⟩ := Classical.choose_spec hex
 have e' : q = (Classical.choose hex).1 := by simpa using e
 rw [← e'] at hl
 exact NList.len hl h
theorem nlist_of {w : World} {n0 F : Nat} {A : Nat → Option Nat} {h : Nat → Nd} (m : Mem w n0 F A h) {up : Nat} : ∀ {G : Fo}, Rep h up G → (∀ x ∈ G.ids, A x ≠ none) → NList A w.heap.size w (pa (A G.hd)) G.tops
 | .nil, _, _ => by show pa (A 0) = none; rw [m.z]; rfl
 | .nd i t k n, ⟨h1, h2, h3, h4⟩, hA => by
  obtain ⟨b, hb⟩ := Option.ne_none_iff_exists'.1 (hA i (by simp [Fo.ids]))
  refine ⟨b, pa (A n.hd), hb, by show pa (A i) = _; rw [hb]; rfl, m.lt hb, ?_, nlist_of m h4 fun x hx => hA x (by simp [Fo.ids, hx])⟩
  rw [m.c4 hb, h2]
theorem kids_in (F : Fence) (n : Nat) (hf : F.fn 77) (hro : F.round = none) (p0 : Option Addr) (w : World) :
  CallsIn F n Tryd.prog 77 #[.pointer p0] w fun e w' => e = .returned (.func (.func 105) #[] #[.pointer (some ⟨w.heap.size, 0, none⟩)]) ∧ w' = w.alloc (.cells #[.pointer p0] 70) := by
 refine callsIn_of_wp Tryd.func77 rfl hf ?_ hro
 simp only [Tryd.ntmps77, List.size_toArray, List.length_cons, List.length_nil, Nat.reduceAdd, Nat.reduceSub, Array.replicate_succ, Array.replicate_zero, List.push_toArray, List.append_toArray, List.nil_append, List.cons_append]
 gi_wp2
 go_ret
 exact ⟨rfl, rfl⟩
structure KA (Q : Nat → Prop) where
 val : Nat
 ok : Q val
set_option maxRecDepth 100000 in
set_option maxHeartbeats 1000000 in
theorem kids1_in (F : Fence) (n : Nat) (hf : F.fn 105) (hro : F.round = none) (hn : 1 ≤ n) (l Bn n0 b : Nat) (Q : Nat → Prop) (A : Nat → Option Nat) (p0 : Option Addr) (xs : List (KA Q)) (J Jx : List (KA Q) → World → Prop)
  (hY : ∀ pre x W, J pre W → pre.length < xs.length → YieldAt F (n - 1) Tryd.prog l #[.pointer (pa (A x.val))] W fun e W' =>
   (e = .returned (.bool true) ∧ J (pre ++ [x]) W' ∧ Below n0 W W') ∨ (e = .returned (.bool false) ∧ Jx (pre ++ [x]) W'))
  (W : World) (hBn : W.cell? ⟨Bn, 0, none⟩ = some (.pointer (some ⟨b, 0, none⟩))) (hb3 : W.cell? ⟨b, 3, none⟩ = some (.pointer p0)) (hL : NList A n0 W p0 (xs.map KA.val)) (h0 : J [] W) :
  CallsIn F n Tryd.prog 105 #[.func (.yield l) #[] #[], .pointer (some ⟨Bn, 0, none⟩)] W fun e W' => (∃ v, e = .returned v) ∧
   ((∃ ys, ys = xs ∧ J ys W') ∨ (∃ pre, pre <+: xs ∧ Jx pre W')) := by
 refine callsIn_of_wp Tryd.func105 rfl hf ?_ hro
 simp only [Tryd.ntmps105, List.size_toArray, List.length_cons, List.length_nil, Nat.reduceAdd, Nat.reduceSub, Array.replicate_succ, Array.replicate_zero, List.push_toArray, List.append_toArray, List.nil_append, List.cons_append]
 gi_wp2
 gi_loopw [3] (fun p wr => ∃ (pre rest : List (KA Q)) (q : Option Addr), p = .pointer q ∧ xs = pre ++ rest ∧ NList A n0 wr q (rest.map KA.val) ∧ J pre wr)
  (fun p wr => nleft A n0 wr p)
 case atStart =>
  exact ⟨[], xs, p0, rfl, rfl, hL, h0⟩
 case round =>
  obtain ⟨pre, rest, q, rfl, hx, hl, hJs⟩ := hrel
  cases rest with
  | nil =>
   obtain rfl : q = none := hl
   gi_wp2
   go_end0
   exact ⟨⟨_, rfl⟩, .inl ⟨pre, by simp [hx], hJs⟩⟩
  | cons x rest =>
   have hl' := hl
   obtain ⟨c, q', hA, rfl, hc, hq, hr⟩ := hl
   obtain ⟨fn, tmps, assign, body, hy, hR⟩ := hY pre x wr hJs (by rw [hx]; simp)
   rw [hA, pa_some] at hy
   have HA := Aside0.mk hA
   clear hA
   gi_wp2
   refine hR.mono ?_
   rintro e W3 (⟨rfl, hJ3, hk3⟩ | ⟨rfl, hJx3⟩)
   ·have hq3 : W3.cell? ⟨c, 4, none⟩ = some (.pointer q') := (hk3.cell (p := ⟨c, 4, none⟩) hc).trans hq
    gi_wp2
    go_roundw
    case rel => exact ⟨pre ++ [x], rest, q', rfl, by simp [hx], hr.below hk3, hJ3⟩
    case measure => rw [nleft_eq (hr.below hk3), nleft_eq hl']; simp
   ·gi_wp2
    refine bodyPost_ret (results_none rfl _ _ _) rfl ?_
    exact ⟨⟨_, rfl⟩, .inr ⟨pre ++ [x], ⟨rest, by simp [hx]⟩, hJx3⟩⟩
theorem kids_stops (F : Fence) (n : Nat) (hf : F.fn 105) (hro : F.round = none) (hn : 1 ≤ n) (Bn n0 b : Nat) (Q : Nat → Prop) (A : Nat → Option Nat) (p0 : Option Addr) (xs : List (KA Q)) (w : World) (hBn : Bn < w.heap.size) (hn0 : n0 ≤ w.heap.size) (hb : b < w.heap.size)
  (hc : w.cell? ⟨Bn, 0, none⟩ = some (.pointer (some ⟨b, 0, none⟩))) (hb3 : w.cell? ⟨b, 3, none⟩ = some (.pointer p0)) (hL : NList A n0 w p0 (xs.map KA.val)) :
  SeqStopsK F n Tryd.prog 105 #[.pointer (some ⟨Bn, 0, none⟩)] (fun x : KA Q => #[.pointer (pa (A x.val))]) (Below n0) (fun ys => ys = xs) (fun pre => pre <+: xs) xs.length w := fun l J Jx W hW _ _ hY h0 =>
 kids1_in F n hf hro hn l Bn n0 b Q A p0 xs J Jx hY W ((hW.cell (p := ⟨Bn, 0, none⟩) hBn).trans hc) ((hW.cell (p := ⟨b, 3, none⟩) hb).trans hb3) (hL.below (hW.mono hn0)) h0
theorem attach_val {Q : Nat → Prop} : ∀ {l : List Nat} (h : ∀ x ∈ l, Q x), ∃ xs : List (KA Q), xs.map KA.val = l
 | [], _ => ⟨[], rfl⟩
 | x :: l, h => by
  obtain ⟨xs, hx⟩ := attach_val (l := l) fun y hy => h y (List.mem_cons_of_mem _ hy)
  exact ⟨⟨x, h x List.mem_cons_self⟩ :: xs, by rw [List.map_cons, hx]⟩
def pv (i : Nat) : Nat → List Nat → Nat
 | p, [] => p
 | p, y :: r => if y = i then p else pv i y r
def lastN (p : Nat) (l : List Nat) : Nat := l.foldl (fun _ y => y) p
theorem pv_done (i : Nat) : ∀ (l : List Nat) (p : Nat), (∀ y ∈ l, y ≠ i) → pv i p l = lastN p l
 | [], p, _ => rfl
 | y :: r, p, h => by
  unfold pv
  rw [if_neg (h y List.mem_cons_self), pv_done i r y fun z hz => h z (List.mem_cons_of_mem _ hz)]
  rfl
theorem pv_stop (i : Nat) (rest : List Nat) : ∀ (l : List Nat) (p : Nat), (∀ y ∈ l, y ≠ i) → pv i p (l ++ i :: rest) = lastN p l
 | [], p, _ => by show pv i p (i :: rest) = p; unfold pv; rw [if_pos rfl]
 | y :: r, p, h => by
  show pv i p (y :: (r ++ i :: rest)) = _
  unfold pv
  rw [if_neg (h y List.mem_cons_self), pv_stop i rest r y fun z hz => h z (List.mem_cons_of_mem _ hz)]
  rfl
theorem lastN_snoc (p : Nat) (l : List Nat) (x : Nat) : lastN p (l ++ [x]) = x := by simp [lastN]
theorem cell_of_box_f {W : World} {B : Nat} {v : Value} {t : TypeId} (h : W.heap[B]? = some (.cells #[v] t (0, 0))) : W.cell? ⟨B, 0, none⟩ = some v ∧ W.frozen? ⟨B, 0, none⟩ = false := by
 constructor <;> simp [World.cell?, World.frozen?, h]
theorem cell_new_f (W : World) (v : Value) (t : TypeId) : (W.alloc (.cells #[v] t)).cell? ⟨W.heap.size, 0, none⟩ = some v ∧ (W.alloc (.cells #[v] t)).frozen? ⟨W.heap.size, 0, none⟩ = false :=
 cell_of_box_f (World.alloc_heap_new W _)
theorem cell_alloc_f {W : World} {a : Addr} {v : Value} (o : Obj) (h : W.cell? a = some v) : (W.alloc o).cell? a = some v := cell_kept h (World.grownBy_alloc W o none) (fun r e => by cases e)
theorem frozen_alloc_f {W : World} {a : Addr} {v : Value} (o : Obj) (h : W.cell? a = some v) (hf : W.frozen? a = false) : (W.alloc o).frozen? a = false := (frozen_kept h (World.grownBy_alloc W o none) (fun r e => by cases e)).trans hf
def AheadI (w : World) (A : Nat → Option Nat) (i b : Nat) (pre : List (KA fun x => A x ≠ none)) (W : World) : Prop :=
 (∀ y ∈ pre, y.val ≠ i) ∧ W.cell? ⟨w.heap.size, 0, none⟩ = some (.pointer (some ⟨b, 0, none⟩)) ∧ W.cell? ⟨w.heap.size + 1, 0, none⟩ = some (.pointer (pa (A (lastN 0 (pre.map KA.val))))) ∧ W.frozen? ⟨w.heap.size + 1, 0, none⟩ = false
def AheadX (w : World) (A : Nat → Option Nat) (i : Nat) (c : Code) (pre : List (KA fun x => A x ≠ none)) (W : World) : Prop :=
 c = .exit 0 ∧ ∃ (pre' : List (KA fun x => A x ≠ none)) (x : KA fun x => A x ≠ none), pre = pre' ++ [x] ∧ x.val = i ∧ (∀ y ∈ pre', y.val ≠ i) ∧ W.cell? ⟨w.heap.size + 1, 0, none⟩ = some (.pointer (pa (A (lastN 0 (pre'.map KA.val)))))
theorem aheadI_own (w : World) (A : Nat → Option Nat) (i b : Nat) : Own (AheadI w A i b) := fun s V W row hs hg hr => ⟨hs.1, cell_kept hs.2.1 hg hr, cell_kept hs.2.2.1 hg hr, (frozen_kept hs.2.2.1 hg hr).trans hs.2.2.2⟩
theorem aheadX_own (w : World) (A : Nat → Option Nat) (i : Nat) (c : Code) : Own (AheadX w A i c) := fun s V W row hs hg hr => by
 obtain ⟨e1, p', x, e2, e3, e4, e5⟩ := hs
 exact ⟨e1, p', x, e2, e3, e4, cell_kept e5 hg hr⟩
set_option maxRecDepth 100000 in
set_option maxHeartbeats 2000000 in
theorem ahead_in (F : Fence) (n : Nat) (h79 : F.fn 76) (h56 : F.fn 77) (h76 : F.fn 105) (hro : F.round = none) (hn : 3 ≤ n) {w : World} {n0 Fb : Nat} {A : Nat → Option Nat} {h : Nat → Nd} (m : Mem w n0 Fb A h)
  {i u b bu : Nat} (hi : A i = some b) (hu : A u = some bu) (hup : (h i).up = u) (xs : List Nat) (hxs : ∀ x ∈ xs, A x ≠ none) (hL : NList A w.heap.size w (pa (A (h u).first)) xs) :
  CallsIn F n Tryd.prog 76 #[.pointer (some ⟨b, 0, none⟩)] w fun e W' => e = .returned (.pointer (pa (A (pv i 0 xs)))) ∧ Below w.heap.size w W' := by
 have h1 : 1 ≤ n := by omega
 obtain ⟨ys, hys⟩ := attach_val (Q := fun x => A x ≠ none) hxs
 subst hys
 have hz := m.z
 have c2 := m.c2 hi
 rw [hup, hu, pa_some] at c2
 replace c2 := cell_alloc_f (.cells #[.pointer none] 70) (cell_alloc_f (.cells #[.pointer (some ⟨b, 0, none⟩)] 70) c2)
 have c3 := m.c3 hu
 have HBU := Aside0.mk (m.lt hu)
 have HB := Aside0.mk (m.lt hi)
 have M := Aside0.mk m
 have HI := Aside0.mk hi
 have HZ := Aside0.mk hz
 clear hz hi hu hup m
 refine callsIn_of_wp_marks Tryd.func76 rfl h79 ?_ hro
 simp only [Tryd.ntmps76, List.size_toArray, List.length_cons, List.length_nil, Nat.reduceAdd, Nat.reduceSub, Array.replicate_succ, Array.replicate_zero, List.push_toArray, List.append_toArray, List.nil_append, List.cons_append]
 gi_wp2_with (gi_at_call 77; refine (kids_in F (n - 1) h56 hro _ _).mono ?_; rintro e w' ⟨rfl, rfl⟩)
 have b0 := cell_new_f w (.pointer (some ⟨b, 0, none⟩)) 70
 have b1 := cell_new_f (w.alloc (.cells #[.pointer (some ⟨b, 0, none⟩)] 70)) (.pointer none) 70
 have b2 := cell_new_f ((w.alloc (.cells #[.pointer (some ⟨b, 0, none⟩)] 70)).alloc (.cells #[.pointer none] 70)) (.pointer (some ⟨bu, 0, none⟩)) 70
 simp only [World.size_alloc] at b1 b2
 have hB0 : Below w.heap.size w (((w.alloc (.cells #[.pointer (some ⟨b, 0, none⟩)] 70)).alloc (.cells #[.pointer none] 70)).alloc (.cells #[.pointer (some ⟨bu, 0, none⟩)] 70)) := (((Below.refl _ w).alloc (Nat.le_refl _) _).alloc (by simp) _).alloc (by simp; omega) _
 refine wpIn_rangeFunc_ownF hro h1 (gf := 105) (lb := #[.pointer (some ⟨w.heap.size + 1 + 1, 0, none⟩)]) rfl h76 (enters_of Tryd.func105 (by kernel_rfl) rfl)
  (kids_stops F (n - 1) h76 hro (by omega) (w.heap.size + 1 + 1) w.heap.size bu _ A _ ys _ (by simp) (by simp; omega) (by simp; have := HBU.out; omega) b2.1 (cell_alloc_f _ (cell_alloc_f _ (cell_alloc_f _ c3))) (hL.below hB0)) belowK_t (belowK_b (by simp; omega)) (Below.refl _ _) (fun _ => by rfl)
  (fun pre W => AheadI w A i b pre W ∧ Below w.heap.size w W)
  (fun c pre W => AheadX w A i c pre W ∧ Below w.heap.size w W)
  (OwnFrom.and (Own.from (aheadI_own w A i b) _) (ownFrom_below (Nat.le_refl _) (by simp; omega)))
  (fun c => OwnFrom.and (Own.from (aheadX_own w A i c) _) (ownFrom_below (Nat.le_refl _) (by simp; omega)))
  ⟨⟨by simp, cell_alloc_f _ (cell_alloc_f _ b0.1), by rw [show lastN 0 (([] : List (KA fun x => A x ≠ none)).map KA.val) = 0 from rfl, HZ.out]; exact cell_alloc_f _ b1.1, frozen_alloc_f _ b1.1 b1.2⟩, hB0⟩
  (fun x => { tmps := #[.pointer (some ⟨b, 0, none⟩), .pointer (some ⟨w.heap.size, 0, none⟩), .pointer none, .pointer (some ⟨w.heap.size + 1, 0, none⟩), .pointer (pa (A x.val)), .pointer (some ⟨b, 0, none⟩), .pointer (some ⟨b, 0, none⟩), .pointer (some ⟨b, 2, none⟩), .pointer (some ⟨bu, 0, none⟩), .func (.func 105) #[] #[.pointer (some ⟨w.heap.size + 1 + 1, 0, none⟩)], .pointer (pa (A x.val)), undef, undef, undef, undef, undef], defers := [] }) ?assign ?body ?done ?stop
 case assign =>
  intro l x W K hK
  gi_wp2
  exact hK
 case body =>
  rintro l pre x W ⟨⟨hp, hcn, hca, hfa⟩, hB⟩ _
  obtain ⟨c, hc⟩ := Option.ne_none_iff_exists'.1 x.ok
  have MW := M.out.below hB
  have hbelow : Below w.heap.size W (W.setCell ⟨w.heap.size + 1, 0, none⟩ (.pointer (some ⟨c, 0, none⟩))) := (Below.refl _ W).setCell (p := ⟨w.heap.size + 1, 0, none⟩) (by simp) _
  by_cases hx : x.val = i
  ·obtain rfl : c = b := by rw [hx, HI.out] at hc; exact (Option.some.inj hc).symm
   have hE := eqS ⟨c, 0, none⟩ W
   have HX := Aside0.mk hx
   rw [hc, pa_some]
   clear hx hc
   gi_wp2
   exact ⟨KeepsOthers.refl _, ⟨rfl, pre, x, rfl, HX.out, hp, hca⟩, hB⟩
  ·have hE := MW.eqn hc HI.out hx
   have HX := Aside0.mk hx
   have HC := Aside0.mk hc
   rw [hc, pa_some]
   clear hx hc
   gi_wp2
   refine ⟨KeepsOthers.setCell _ _ _, hbelow, ⟨fun y hy => ?_, ?_, ?_, ?_⟩, hB.trans hbelow⟩
   ·rcases List.mem_append.1 hy with hy | hy
    ·exact hp y hy
    ·rw [List.mem_singleton.1 hy]; exact HX.out
   ·rw [World.cell?_setCell_other _ _ _ _ (by intro e; have := congrArg Addr.block e; simp at this)]; exact hcn
   ·rw [List.map_append, List.map_cons, List.map_nil, lastN_snoc, HC.out]
    exact World.cell?_setCell_same' _ _ _ (by rw [hca]; rfl)
   ·rw [World.frozen?_setCell]; exact hfa
 case done =>
  rintro D zs W hD rfl ⟨⟨hp, _, hca, _⟩, hB⟩ hK
  gi_wp2
  refine ⟨by simp, .inl ⟨_, _, rfl, run_takeDeferred hK, ?_⟩⟩
  refine ⟨_, results_tmp rfl _ _ _, ?_, hB.trans (belowK_b (w := w) (Nat.le_refl _) W D _ _ (by simp at hD; omega) hK rfl rfl)⟩
  rw [pv_done i _ 0 (fun y hy => by obtain ⟨z, hz, rfl⟩ := List.mem_map.1 hy; exact hp z hz)]
  rfl
 case stop =>
  rintro D c pre W hD hpre ⟨⟨rfl, pre', x, rfl, hx, hp, hca⟩, hB⟩ hK
  gi_wp2
  refine ⟨by simp, .inl ⟨_, _, rfl, run_takeDeferred hK, ?_⟩⟩
  refine ⟨_, results_tmp rfl _ _ _, ?_, hB.trans (belowK_b (w := w) (Nat.le_refl _) W D _ _ (by simp at hD; omega) hK rfl rfl)⟩
  obtain ⟨rest, rfl⟩ := hpre
  rw [List.map_append, List.map_append, List.map_cons, List.map_nil, hx, List.append_assoc, List.singleton_append, pv_stop i _ _ 0 (fun y hy => by obtain ⟨z, hz, rfl⟩ := List.mem_map.1 hy; exact hp z hz)]
  rfl
end Go.Proofs.YtlkheeegkifblaaDoor.P
