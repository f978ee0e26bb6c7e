/- Joined by a program (wip/shake.py): the declarations that 'YtlkheeegkifblaaDoorCardFnDoWhere' reaches. -/
import Derived.Test.YtlkheeegkifblaaDoorZFa1
set_option linter.unusedVariables false
set_option linter.unusedSimpArgs false
set_option linter.unusedSectionVars false
namespace Go.Proofs.YtlkheeegkifblaaDoor.P
open Go.RowKit Go.Proofs.YtlkheeegkifblaaDoorW.PrintWords Go.Proofs.YtlkheeegkifblaaDoorW.PrintLast
mutual
def spec_TreeOk.l0 : Nat → List (S37) → Int → Int → Option (Bool)
 | 0, _, _, _ => none
 | k + 1, x0, x3, x4 => if x4 < (x0.length : Int) then (if 0 ≤ x4 then ((spec_RowOk.f k ((rd_T37 x0 x4).f0) ((rd_T37 x0 x4).f1) ((rd_T37 x0 x4).f2)).bind fun t333 => (if t333 = true then (if x4 > 0 then (if 0 ≤ (wrap64 (x4 - 1)) then (if (wrap64 (x4 - 1)) < (x0.length : Int) then (spec_TreeOk.j1 k x0 x3 x4 (decide (((rd_T37 x0 x4).f1) > (wrap64 (((rd_T37 x0 (wrap64 (x4 - 1))).f1) + 1))))) else (none)) else (none)) else (spec_TreeOk.j1 k x0 x3 x4 false)) else (spec_TreeOk.j1 k x0 x3 x4 true))) else (none)) else (if x3 = 3 then (if 0 < (x0.length : Int) then (some (((rd_T37 x0 0).f0) == 1)) else (none)) else (some false))
def spec_TreeOk.j1 : Nat → List (S37) → Int → Int → Bool → Option (Bool)
 | 0, _, _, _, _ => none
 | k + 1, x0, x3, x4, x36 => if x36 = true then (some false) else (if 0 ≤ x4 then (if x4 < (x0.length : Int) then ((spec_l1Root.f ((rd_T37 x0 x4).f0)).bind fun t337 => (if t337 = true then (if ((rd_T37 x0 x4).f0) = (wrap64 (x3 + 1)) then (spec_TreeOk.j2 k x0 (wrap64 (x3 + 1)) x4) else (some false)) else (spec_TreeOk.j2 k x0 x3 x4))) else (none)) else (none))
def spec_TreeOk.j2 : Nat → List (S37) → Int → Int → Option (Bool)
 | 0, _, _, _ => none
 | k + 1, x0, x3, x4 => spec_TreeOk.l1 k x0 x3 x4 0
def spec_TreeOk.l1 : Nat → List (S37) → Int → Int → Int → Option (Bool)
 | 0, _, _, _, _ => none
 | k + 1, x0, x3, x4, x5 => if x5 < x4 then (if 0 ≤ x5 then (if x5 < (x0.length : Int) then (if 0 ≤ x4 then (if x4 < (x0.length : Int) then (if ((rd_T37 x0 x5).f0) = ((rd_T37 x0 x4).f0) then (some false) else (spec_TreeOk.l1 k x0 x3 x4 (wrap64 (x5 + 1)))) else (none)) else (none)) else (none)) else (none)) else (spec_TreeOk.l0 k x0 x3 (wrap64 (x4 + 1)))
end
def spec_TreeOk.f (k : Nat) (l0 : List (S37)) : Option (Bool) := spec_TreeOk.l0 k l0 0 0
theorem spec_TreeOk.mono_l : ∀ k, (∀ y0 y1 y2, LeO (spec_TreeOk.l0 k y0 y1 y2) (spec_TreeOk.l0 (k + 1) y0 y1 y2)) ∧ (∀ y0 y1 y2 y3, LeO (spec_TreeOk.j1 k y0 y1 y2 y3) (spec_TreeOk.j1 (k + 1) y0 y1 y2 y3)) ∧ (∀ y0 y1 y2, LeO (spec_TreeOk.j2 k y0 y1 y2) (spec_TreeOk.j2 (k + 1) y0 y1 y2)) ∧ (∀ y0 y1 y2 y3, LeO (spec_TreeOk.l1 k y0 y1 y2 y3) (spec_TreeOk.l1 (k + 1) y0 y1 y2 y3))
 | 0 => ⟨fun _ _ _ r h => by simp [spec_TreeOk.l0] at h, fun _ _ _ _ r h => by simp [spec_TreeOk.j1] at h, fun _ _ _ r h => by simp [spec_TreeOk.j2] at h, fun _ _ _ _ r h => by simp [spec_TreeOk.l1] at h⟩
 | k + 1 => by
  obtain ⟨ih0, ih1, ih2, ih3⟩ := spec_TreeOk.mono_l k
  refine ⟨?_, ?_, ?_, ?_⟩
  all_goals intros
  all_goals first | unfold spec_TreeOk.l0 | unfold spec_TreeOk.j1 | unfold spec_TreeOk.j2 | unfold spec_TreeOk.l1
  all_goals repeat' first
  | (with_reducible exact ih0 _ _ _)
  | (with_reducible exact ih1 _ _ _ _)
  | (with_reducible exact ih2 _ _ _)
  | (with_reducible exact ih3 _ _ _ _)
  | (with_reducible exact spec_RowOk.mono _ _ _ _)
  | (with_reducible exact LeO.refl _)
  | (with_reducible exact LeO.none _)
  | (with_reducible refine LeO.ite ?_ ?_)
  | (with_reducible refine LeO.bind ?_ (fun _ => ?_))
  | exact ih0 _ _ _
  | exact ih1 _ _ _ _
  | exact ih2 _ _ _
  | exact ih3 _ _ _ _
  | exact spec_RowOk.mono _ _ _ _
  | exact LeO.none _
  | refine LeO.ite ?_ ?_
  | refine LeO.bind ?_ (fun _ => ?_)
theorem spec_TreeOk.mono : ∀ a0 k, LeO (spec_TreeOk.f k a0) (spec_TreeOk.f (k + 1) a0) := by
 intro a0 k
 obtain ⟨ih0, ih1, ih2, ih3⟩ := spec_TreeOk.mono_l k
 unfold spec_TreeOk.f
 repeat' first
   | (with_reducible exact ih0 _ _ _)
   | (with_reducible exact ih1 _ _ _ _)
   | (with_reducible exact ih2 _ _ _)
   | (with_reducible exact ih3 _ _ _ _)
   | (with_reducible exact spec_RowOk.mono _ _ _ _)
   | (with_reducible exact LeO.refl _)
   | (with_reducible exact LeO.none _)
   | (with_reducible refine LeO.ite ?_ ?_)
   | (with_reducible refine LeO.bind ?_ (fun _ => ?_))
   | exact ih0 _ _ _
   | exact ih1 _ _ _ _
   | exact ih2 _ _ _
   | exact ih3 _ _ _ _
   | exact spec_RowOk.mono _ _ _ _
   | exact LeO.none _
   | refine LeO.ite ?_ ?_
   | refine LeO.bind ?_ (fun _ => ?_)
def spec_TreeOk.T5 : Bool × List (List Nat × List Nat) := (true, [([], []), ([], []), ([0, 1], [0, 1]), ([2], [2]), ([3], [3]), ([4], [4]), ([5, 4], [5]), ([6], [6]), ([7, 6], [6, 7]), ([8, 6, 6], [6, 8]), ([9], [9]), ([9], [9]), ([10, 11, 9], [9, 10, 11]), ([12, 9], [9, 12]), ([13, 9], [9, 13]), ([9], [9]), ([9], [9]), ([16, 9], [9, 16]), ([15, 17, 9], [9, 15, 17]), ([18, 9], [9, 18]), ([19, 9], [9, 19]), ([20, 9], [9, 20]), ([14, 21, 9], [9, 14, 21]), ([9, 22, 6], [6, 9, 22]), ([6, 23], [6, 23])])
def spec_TreeOk.B5 : List Nat := [0, 0, 3, 7, 15, 31, 63, 127, 255, 511, 1023, 1023, 4095, 8191, 16383, 1023, 1023, 66559, 230399, 492543, 1016831, 2065407, 4194303, 8388607, 16777215]
theorem spec_TreeOk.tab5 : rtab .any (opsOf Tryd.f19 5) = spec_TreeOk.T5 := by kernel_rfl
theorem spec_TreeOk.bits5 : waitsOk spec_TreeOk.T5.2 spec_TreeOk.B5 = true := by kernel_rfl
def spec_TreeOk.T14 : Bool × List (List Nat × List Nat) := (true, [([], []), ([], []), ([0, 1], [0, 1]), ([2], [2]), ([3], [3]), ([], []), ([], []), ([5, 6], [5, 6]), ([7], [7]), ([8], [8]), ([4, 9], [4, 9])])
def spec_TreeOk.B14 : List Nat := [0, 0, 3, 7, 15, 0, 0, 96, 224, 480, 1023]
theorem spec_TreeOk.tab14 : rtab .any (opsOf Tryd.f19 14) = spec_TreeOk.T14 := by kernel_rfl
theorem spec_TreeOk.bits14 : waitsOk spec_TreeOk.T14.2 spec_TreeOk.B14 = true := by kernel_rfl
set_option maxHeartbeats 8000000 in
set_option maxRecDepth 100000 in
theorem spec_TreeOk.calls (k : Nat) (A0 : Option Addr) (c0 : Nat) (l0 : List (S37)) (r : Bool) (w : World) (hr0 : Kd.C k37 w A0 l0.length l0) (hc0 : l0.length ≤ c0) (h : spec_TreeOk.f k l0 = some r) :
  Calls Tryd.prog 19 #[.slice A0 l0.length c0] w fun e w' => e = .returned (.bool r) ∧ Below w.heap.size w w' := by
 have hu37 := Tryd.underlying37
 have HR0 := Aside0.mk hr0
 have HC0 := Aside0.mk hc0
 clear hr0 hc0
 have HB := Aside0.mk (Below.refl w.heap.size w)
 unfold spec_TreeOk.f at h
 have H := h
 clear h
 have H' := Aside0.mk H
 clear H
 go_enter Tryd.func19, Tryd.ntmps19
 go_wp2
 go_loopg [3, 4] k (fun kq v3 v4 w' => ∃ (x3_1 : Int) (x4_1 : Int), v3 = .int .i64 x3_1 ∧ v4 = .int .i64 x4_1 ∧ Aside0 (spec_TreeOk.l0 kq l0 x3_1 x4_1 = some r) ∧ Aside0 (kq ≤ k) ∧ Aside0 (Below w.heap.size w w'))
 case atStart => exact ⟨(0), (0), (si_), (si_), H', ⟨Nat.le_refl _⟩, ⟨bel_⟩⟩
 case round =>
  clear H'
  try clear c1
  obtain ⟨x3_1, x4_1, rfl, rfl, HA, HK1, HB⟩ := hrel
  cases gk with
  | zero => exact absurd HA.out (by simp [spec_TreeOk.l0])
  | succ k1 =>
   have H := HA.out
   clear HA
   simp only [spec_TreeOk.l0] at H
   by_cases c2 : x4_1 < (l0.length : Int)
   ·rw [if_pos c2] at H
    have c2b0 : decide (x4_1 < (l0.length : Int)) = true := decide_eq_true c2
    clear c2
    have HC3 := Aside0.mk H
    clear H
    go_upto_region 5 with (fail)
    go_cut [36] (fun v36 wc => ∃ (kq : Nat) (x36_2 : Bool), v36 = .bool x36_2 ∧ Aside0 (spec_TreeOk.j1 kq l0 x3_1 x4_1 x36_2 = some r) ∧ Aside0 (kq ≤ k1) ∧ Aside0 (Below w.heap.size w wc))
    case first =>
     have H := HC3.out
     clear HC3
     by_cases c4 : 0 ≤ x4_1
     ·rw [if_pos c4] at H
      have c4b0 : decide (0 ≤ x4_1) = true := decide_eq_true c4
      clear c4
      (first | rw [c4b0] | (simp only [i64_w, i32_w]; rw [c4b0]) | skip)
      replace H := Option.bind_eq_some_iff.mp H
      obtain ⟨t333, A50, H⟩ := H
      try dsimp only at H
      have A5 := Aside0.mk A50
      clear A50
      by_cases c6 : t333 = true
      ·subst c6
       have H1 : (if x4_1 > 0 then (if 0 ≤ (wrap64 (x4_1 - 1)) then (if (wrap64 (x4_1 - 1)) < (l0.length : Int) then (spec_TreeOk.j1 k1 l0 x3_1 x4_1 (decide (((rd_T37 l0 x4_1).f1) > (wrap64 (((rd_T37 l0 (wrap64 (x4_1 - 1))).f1) + 1))))) else (none)) else (none)) else (spec_TreeOk.j1 k1 l0 x3_1 x4_1 false)) = some r := by rw [if_pos rfl] at H; exact H
       clear H
       have H := H1
       clear H1
       by_cases c7 : x4_1 > 0
       ·rw [if_pos c7] at H
        have c7b0 : decide (0 < x4_1) = true := decide_eq_true c7
        clear c7
        obtain ⟨ji8, hji8⟩ : ∃ j_ : Int, (wrap64 (x4_1 - 1)) = j_ := ⟨_, rfl⟩
        replace H : (if 0 ≤ (ji8) then (if (ji8) < (l0.length : Int) then (spec_TreeOk.j1 k1 l0 x3_1 x4_1 (decide (((rd_T37 l0 x4_1).f1) > (wrap64 (((rd_T37 l0 (ji8)).f1) + 1))))) else (none)) else (none)) = some r := by first | (rw [hji8] at H; exact H) | (simp only [hji8] at H ⊢; exact H)
        (try rw [hji8] at A5)
        have hji8w : (IntKind.i64.wrap (x4_1 - 1)) = ji8 := (i64_w _).trans hji8
        by_cases c9 : 0 ≤ (ji8)
        ·rw [if_pos c9] at H
         have c9b0 : decide (0 ≤ (ji8)) = true := decide_eq_true c9
         clear c9
         by_cases c10 : (ji8) < (l0.length : Int)
         ·rw [if_pos c10] at H
          have c10b0 : decide ((ji8) < (l0.length : Int)) = true := decide_eq_true c10
          clear c10
          have H' := Aside0.mk H
          clear H
          try go_wp2
          have n0_ := Aside0.mk (below_drew1 HB.out)
          clear HB
          have HB := n0_
          clear n0_
          have p332 : 0 ≤ (x4_1 : Int) := od_
          have q332 : x4_1 < (l0.length : Int) := od_
          obtain ⟨ad332, e332, hx332_0, hx332_1, hx332_2⟩ := at_T37 HR0.out x4_1 p332 q332
          have hw332_2 := hx332_2
          have hw332_1 := hx332_1
          have hw332_0 := hx332_0
          cases e332
          replace hx332_0 := (cb_ HB.out hx332_0 :)
          replace hx332_1 := (cb_ HB.out hx332_1 :)
          replace hx332_2 := (cb_ HB.out hx332_2 :)
          replace p332 := eq_true p332
          replace q332 := eq_true q332
          have p334 : 0 ≤ (x4_1 : Int) := od_
          have q334 : x4_1 < (l0.length : Int) := od_
          obtain ⟨ad334, e334, hx334_0, hx334_1, hx334_2⟩ := at_T37 HR0.out x4_1 p334 q334
          have hw334_2 := hx334_2
          have hw334_1 := hx334_1
          have hw334_0 := hx334_0
          obtain rfl : ad332 = ad334 := (by injection e334)
          replace hx334_0 := (cb_ HB.out hx334_0 :)
          replace hx334_1 := (cb_ HB.out hx334_1 :)
          replace hx334_2 := (cb_ HB.out hx334_2 :)
          replace p334 := eq_true p334
          replace q334 := eq_true q334
          have p335 : 0 ≤ ((ji8) : Int) := od_
          have q335 : (ji8) < (l0.length : Int) := od_
          obtain ⟨ad335, e335, hx335_0, hx335_1, hx335_2⟩ := at_T37 HR0.out (ji8) p335 q335
          have hw335_2 := hx335_2
          have hw335_1 := hx335_1
          have hw335_0 := hx335_0
          obtain rfl : ad332 = ad335 := (by injection e335)
          replace hx335_0 := (cb_ HB.out hx335_0 :)
          replace hx335_1 := (cb_ HB.out hx335_1 :)
          replace hx335_2 := (cb_ HB.out hx335_2 :)
          replace p335 := eq_true p335
          replace q335 := eq_true q335
          refine start_ (n := 25) (S := fun w' => w'.cell? (ad332.add ((x4_1).toNat * 3)) = some (.int .i64 ((rd_T37 l0 x4_1).f0)) ∧ w'.cell? ⟨(ad332.add ((x4_1).toNat * 3)).block, (ad332.add ((x4_1).toNat * 3)).off + 1, none⟩ = some (.int .i64 ((rd_T37 l0 x4_1).f1)) ∧ w'.cell? ⟨(ad332.add ((x4_1).toNat * 3)).block, (ad332.add ((x4_1).toNat * 3)).off + 2, none⟩ = some (.string ((rd_T37 l0 x4_1).f2)) ∧ w'.cell? (ad332.add ((x4_1).toNat * 3)) = some (.int .i64 ((rd_T37 l0 x4_1).f0)) ∧ w'.cell? ⟨(ad332.add ((x4_1).toNat * 3)).block, (ad332.add ((x4_1).toNat * 3)).off + 1, none⟩ = some (.int .i64 ((rd_T37 l0 x4_1).f1)) ∧ w'.cell? ⟨(ad332.add ((x4_1).toNat * 3)).block, (ad332.add ((x4_1).toNat * 3)).off + 2, none⟩ = some (.string ((rd_T37 l0 x4_1).f2)) ∧ w'.cell? (ad332.add (((ji8)).toNat * 3)) = some (.int .i64 ((rd_T37 l0 (ji8)).f0)) ∧ w'.cell? ⟨(ad332.add (((ji8)).toNat * 3)).block, (ad332.add (((ji8)).toNat * 3)).off + 1, none⟩ = some (.int .i64 ((rd_T37 l0 (ji8)).f1)) ∧ w'.cell? ⟨(ad332.add (((ji8)).toNat * 3)).block, (ad332.add (((ji8)).toNat * 3)).off + 2, none⟩ = some (.string ((rd_T37 l0 (ji8)).f2))) (ds := []) #[false, false, false, false, false, false, false, false, false, false, false, false, false, false, false, false, false, false, false, false, false, false, false, false, false] (by kernel_rfl) rfl rfl ⟨((cb_ HB.out hw332_0 :)), ((cb_ HB.out hw332_1 :)), ((cb_ HB.out hw332_2 :)), ((cb_ HB.out hw334_0 :)), ((cb_ HB.out hw334_1 :)), ((cb_ HB.out hw334_2 :)), ((cb_ HB.out hw335_0 :)), ((cb_ HB.out hw335_1 :)), ((cb_ HB.out hw335_2 :))⟩ (fun hHeld => ?_); refine with_tabW spec_TreeOk.tab5 spec_TreeOk.bits5 (fun HT_ HW_ => ?_)
          generalize wr.drew = w11 at HB hx332_0 hx332_1 hx332_2 hx334_0 hx334_1 hx334_2 hx335_0 hx335_1 hx335_2 hHeld ⊢
          refine pa_ 0 12 ?_
          refine pa_ 1 13 ?_
          refine pa_ 2 14 ?_
          refine ta9_ 3 15 hHeld ?_
          refine on_ 4 16 (fun K hK => ?_)
          refine goes_ Tryd.func58 (by kernel_rfl) rfl #[.agg #[.int .i64 ((rd_T37 l0 x4_1).f0), .int .i64 ((rd_T37 l0 x4_1).f1), .string ((rd_T37 l0 x4_1).f2)]] (by rfl) rfl rfl ar_ ?_
          with_reducible refine (spec_RowOk.calls k1 ((rd_T37 l0 x4_1).f0) ((rd_T37 l0 x4_1).f1) ((rd_T37 l0 x4_1).f2) true _ A5.out).mono ?_
          rintro e w12 ⟨rfl, hb⟩
          refine ⟨_, rfl, ?_⟩
          have n0_ := Aside0.mk (below_step (bel_) hb)
          clear HB
          have HB := n0_
          clear n0_
          (try clear hb)
          (try clear hb2)
          (try clear hk)
          (try clear hi)
          refine hK.out _ _ ⟨((cb_ HB.out hw332_0 :)), ((cb_ HB.out hw332_1 :)), ((cb_ HB.out hw332_2 :)), ((cb_ HB.out hw334_0 :)), ((cb_ HB.out hw334_1 :)), ((cb_ HB.out hw334_2 :)), ((cb_ HB.out hw335_0 :)), ((cb_ HB.out hw335_1 :)), ((cb_ HB.out hw335_2 :))⟩ (fun hHeld => ?_)
          clear hK K
          refine no_ 16 ?_
          refine pa_ 5 17 ?_
          refine pa_ 6 18 ?_
          refine pa_ 7 19 ?_
          refine pa_ 8 20 ?_
          refine pa_ 9 21 ?_
          refine pa_ 10 22 ?_
          refine pa_ 11 23 ?_
          refine pa_ 12 24 ?_
          refine pa_ 13 25 ?_
          refine pa_ 15 27 ?_
          refine pa_ 16 28 ?_
          refine pa_ 17 29 ?_
          refine pa_ 18 30 ?_
          refine pa_ 19 31 ?_
          refine ta9_ 14 26 hHeld ?_
          refine ta9_ 20 32 hHeld ?_
          refine pa_ 21 33 ?_
          refine pa_ 22 34 ?_
          refine pa_ 23 35 ?_
          refine pa_ 24 36 ?_
          refine done_ (done_of HT_.out (by kernel_rfl)) ?_
          try go_wp2
          go_meet
          case rel => exact ⟨_, (decide (((rd_T37 l0 x4_1).f1) > (wrap64 (((rd_T37 l0 (ji8)).f1) + 1)))), (by first | rfl | (simp; done) | (simp only [← hji8] <;> (first | rfl | simp)) | (simp [*]; done)), H', ⟨by have := HK1.out; first | omega | exact Nat.le_refl _⟩, ⟨bel_⟩⟩
         ·rw [if_neg c10] at H
          exact absurd H (by simp)
        ·rw [if_neg c9] at H
         exact absurd H (by simp)
       ·rw [if_neg c7] at H
        have c7b0 : decide (0 < x4_1) = false := decide_eq_false c7
        clear c7
        have H' := Aside0.mk H
        clear H
        try go_wp2
        have n0_ := Aside0.mk (below_drew1 HB.out)
        clear HB
        have HB := n0_
        clear n0_
        have p332 : 0 ≤ (x4_1 : Int) := od_
        have q332 : x4_1 < (l0.length : Int) := od_
        obtain ⟨ad332, e332, hx332_0, hx332_1, hx332_2⟩ := at_T37 HR0.out x4_1 p332 q332
        have hw332_2 := hx332_2
        have hw332_1 := hx332_1
        have hw332_0 := hx332_0
        cases e332
        replace hx332_0 := (cb_ HB.out hx332_0 :)
        replace hx332_1 := (cb_ HB.out hx332_1 :)
        replace hx332_2 := (cb_ HB.out hx332_2 :)
        replace p332 := eq_true p332
        replace q332 := eq_true q332
        refine start_ (n := 25) (S := fun w' => w'.cell? (ad332.add ((x4_1).toNat * 3)) = some (.int .i64 ((rd_T37 l0 x4_1).f0)) ∧ w'.cell? ⟨(ad332.add ((x4_1).toNat * 3)).block, (ad332.add ((x4_1).toNat * 3)).off + 1, none⟩ = some (.int .i64 ((rd_T37 l0 x4_1).f1)) ∧ w'.cell? ⟨(ad332.add ((x4_1).toNat * 3)).block, (ad332.add ((x4_1).toNat * 3)).off + 2, none⟩ = some (.string ((rd_T37 l0 x4_1).f2))) (ds := []) #[false, false, false, false, false, false, false, false, false, false, false, false, false, false, false, false, false, false, false, false, false, false, false, false, false] (by kernel_rfl) rfl rfl ⟨((cb_ HB.out hw332_0 :)), ((cb_ HB.out hw332_1 :)), ((cb_ HB.out hw332_2 :))⟩ (fun hHeld => ?_); refine with_tabW spec_TreeOk.tab5 spec_TreeOk.bits5 (fun HT_ HW_ => ?_)
        generalize wr.drew = w13 at HB hx332_0 hx332_1 hx332_2 hHeld ⊢
        refine pa_ 0 12 ?_
        refine pa_ 1 13 ?_
        refine pa_ 2 14 ?_
        refine ta3_ 3 15 hHeld ?_
        refine on_ 4 16 (fun K hK => ?_)
        refine goes_ Tryd.func58 (by kernel_rfl) rfl #[.agg #[.int .i64 ((rd_T37 l0 x4_1).f0), .int .i64 ((rd_T37 l0 x4_1).f1), .string ((rd_T37 l0 x4_1).f2)]] (by rfl) rfl rfl ar_ ?_
        with_reducible refine (spec_RowOk.calls k1 ((rd_T37 l0 x4_1).f0) ((rd_T37 l0 x4_1).f1) ((rd_T37 l0 x4_1).f2) true _ A5.out).mono ?_
        rintro e w14 ⟨rfl, hb⟩
        refine ⟨_, rfl, ?_⟩
        have n0_ := Aside0.mk (below_step (bel_) hb)
        clear HB
        have HB := n0_
        clear n0_
        (try clear hb)
        (try clear hb2)
        (try clear hk)
        (try clear hi)
        refine hK.out _ _ ⟨((cb_ HB.out hw332_0 :)), ((cb_ HB.out hw332_1 :)), ((cb_ HB.out hw332_2 :))⟩ (fun hHeld => ?_)
        clear hK K
        refine no_ 16 ?_
        refine pa_ 5 17 ?_
        refine pa_ 6 18 ?_
        refine pa_ 7 19 ?_
        refine pa_ 8 20 ?_
        refine pa_ 9 21 ?_
        refine po_ 10 22 ?_
        refine po_ 11 23 ?_
        refine po_ 12 24 ?_
        refine po_ 13 25 ?_
        refine po_ 14 26 ?_
        refine po_ 15 27 ?_
        refine po_ 16 28 ?_
        refine po_ 17 29 ?_
        refine po_ 18 30 ?_
        refine po_ 19 31 ?_
        refine po_ 20 32 ?_
        refine po_ 21 33 ?_
        refine po_ 22 34 ?_
        refine pa_ 23 35 ?_
        refine pa_ 24 36 ?_
        refine done_ (done_of HT_.out (by kernel_rfl)) ?_
        try go_wp2
        go_meet
        case rel => exact ⟨_, (false), (si_), H', ⟨by have := HK1.out; first | omega | exact Nat.le_refl _⟩, ⟨bel_⟩⟩
      ·replace c6 := Bool.eq_false_iff.mpr c6
       subst c6
       have H1 : (spec_TreeOk.j1 k1 l0 x3_1 x4_1 true) = some r := by rw [if_neg (show ¬ (false = true) by decide)] at H; exact H
       clear H
       have H := H1
       clear H1
       have H' := Aside0.mk H
       clear H
       try go_wp2
       have n0_ := Aside0.mk (below_drew1 HB.out)
       clear HB
       have HB := n0_
       clear n0_
       have p332 : 0 ≤ (x4_1 : Int) := od_
       have q332 : x4_1 < (l0.length : Int) := od_
       obtain ⟨ad332, e332, hx332_0, hx332_1, hx332_2⟩ := at_T37 HR0.out x4_1 p332 q332
       have hw332_2 := hx332_2
       have hw332_1 := hx332_1
       have hw332_0 := hx332_0
       cases e332
       replace hx332_0 := (cb_ HB.out hx332_0 :)
       replace hx332_1 := (cb_ HB.out hx332_1 :)
       replace hx332_2 := (cb_ HB.out hx332_2 :)
       replace p332 := eq_true p332
       replace q332 := eq_true q332
       refine start_ (n := 25) (S := fun w' => w'.cell? (ad332.add ((x4_1).toNat * 3)) = some (.int .i64 ((rd_T37 l0 x4_1).f0)) ∧ w'.cell? ⟨(ad332.add ((x4_1).toNat * 3)).block, (ad332.add ((x4_1).toNat * 3)).off + 1, none⟩ = some (.int .i64 ((rd_T37 l0 x4_1).f1)) ∧ w'.cell? ⟨(ad332.add ((x4_1).toNat * 3)).block, (ad332.add ((x4_1).toNat * 3)).off + 2, none⟩ = some (.string ((rd_T37 l0 x4_1).f2))) (ds := []) #[false, false, false, false, false, false, false, false, false, false, false, false, false, false, false, false, false, false, false, false, false, false, false, false, false] (by kernel_rfl) rfl rfl ⟨((cb_ HB.out hw332_0 :)), ((cb_ HB.out hw332_1 :)), ((cb_ HB.out hw332_2 :))⟩ (fun hHeld => ?_); refine with_tabW spec_TreeOk.tab5 spec_TreeOk.bits5 (fun HT_ HW_ => ?_)
       generalize wr.drew = w15 at HB hx332_0 hx332_1 hx332_2 hHeld ⊢
       refine pa_ 0 12 ?_
       refine pa_ 1 13 ?_
       refine pa_ 2 14 ?_
       refine ta3_ 3 15 hHeld ?_
       refine on_ 4 16 (fun K hK => ?_)
       refine goes_ Tryd.func58 (by kernel_rfl) rfl #[.agg #[.int .i64 ((rd_T37 l0 x4_1).f0), .int .i64 ((rd_T37 l0 x4_1).f1), .string ((rd_T37 l0 x4_1).f2)]] (by rfl) rfl rfl ar_ ?_
       with_reducible refine (spec_RowOk.calls k1 ((rd_T37 l0 x4_1).f0) ((rd_T37 l0 x4_1).f1) ((rd_T37 l0 x4_1).f2) false _ A5.out).mono ?_
       rintro e w16 ⟨rfl, hb⟩
       refine ⟨_, rfl, ?_⟩
       have n0_ := Aside0.mk (below_step (bel_) hb)
       clear HB
       have HB := n0_
       clear n0_
       (try clear hb)
       (try clear hb2)
       (try clear hk)
       (try clear hi)
       refine hK.out _ _ ⟨((cb_ HB.out hw332_0 :)), ((cb_ HB.out hw332_1 :)), ((cb_ HB.out hw332_2 :))⟩ (fun hHeld => ?_)
       clear hK K
       refine no_ 16 ?_
       refine pa_ 5 17 ?_
       refine pa_ 6 18 ?_
       refine po_ 7 19 ?_
       refine po_ 8 20 ?_
       refine po_ 9 21 ?_
       refine po_ 10 22 ?_
       refine po_ 11 23 ?_
       refine po_ 12 24 ?_
       refine po_ 13 25 ?_
       refine po_ 14 26 ?_
       refine po_ 15 27 ?_
       refine po_ 16 28 ?_
       refine po_ 17 29 ?_
       refine po_ 18 30 ?_
       refine po_ 19 31 ?_
       refine po_ 20 32 ?_
       refine po_ 21 33 ?_
       refine po_ 22 34 ?_
       refine po_ 23 35 ?_
       refine pa_ 24 36 ?_
       refine done_ (done_of HT_.out (by kernel_rfl)) ?_
       try go_wp2
       go_meet
       case rel => exact ⟨_, (true), (si_), H', ⟨by have := HK1.out; first | omega | exact Nat.le_refl _⟩, ⟨bel_⟩⟩
     ·rw [if_neg c4] at H
      exact absurd H (by simp)
    case rest =>
     clear HC3
     try clear c1
     try clear p2
     try clear p3
     try clear q3
     try clear hx3
     try clear c4
     try clear c5
     try clear c6
     try clear p6
     try clear c7
     try clear c7b0
     try clear c9
     try clear c10
     try clear hx332_0
     try clear hx332_1
     try clear hx332_2
     try clear hx334_0
     try clear hx334_1
     try clear hx334_2
     try clear hx335_0
     try clear hx335_1
     try clear hx335_2
     try clear p332
     try clear p335
     try clear q332
     try clear q335
     obtain ⟨kq, x36_2, rfl, HA, HJ2, HB⟩ := hcut
     cases kq with
     | zero => exact absurd HA.out (by simp [spec_TreeOk.j1])
     | succ kj2 =>
      have H := HA.out
      clear HA
      simp only [spec_TreeOk.j1] at H
      by_cases c17 : x36_2 = true
      ·subst c17
       have H1 : (some false) = some r := by rw [if_pos rfl] at H; exact H
       clear H
       have H := H1
       clear H1
       obtain rfl := Option.some.inj H
       go_wp2
       go_ret
       exact ⟨fi_, bel_⟩
      ·replace c17 := Bool.eq_false_iff.mpr c17
       subst c17
       have H1 : (if 0 ≤ x4_1 then (if x4_1 < (l0.length : Int) then ((spec_l1Root.f ((rd_T37 l0 x4_1).f0)).bind fun t337 => (if t337 = true then (if ((rd_T37 l0 x4_1).f0) = (wrap64 (x3_1 + 1)) then (spec_TreeOk.j2 kj2 l0 (wrap64 (x3_1 + 1)) x4_1) else (some false)) else (spec_TreeOk.j2 kj2 l0 x3_1 x4_1))) else (none)) else (none)) = some r := by rw [if_neg (show ¬ (false = true) by decide)] at H; exact H
       clear H
       have H := H1
       clear H1
       by_cases c18 : 0 ≤ x4_1
       ·rw [if_pos c18] at H
        have c18b0 : decide (0 ≤ x4_1) = true := decide_eq_true c18
        clear c18
        by_cases c19 : x4_1 < (l0.length : Int)
        ·rw [if_pos c19] at H
         have c19b0 : decide (x4_1 < (l0.length : Int)) = true := decide_eq_true c19
         clear c19
         replace H := Option.bind_eq_some_iff.mp H
         obtain ⟨t337, A200, H⟩ := H
         try dsimp only at H
         have A20 := Aside0.mk A200
         clear A200
         have HC21 := Aside0.mk H
         clear H
         have p336 : 0 ≤ (x4_1 : Int) := od_
         have q336 : x4_1 < (l0.length : Int) := od_
         obtain ⟨ad336, e336, hx336_0, hx336_1, hx336_2⟩ := at_T37 HR0.out x4_1 p336 q336
         cases e336
         replace hx336_0 := (cb_ HB.out hx336_0 :)
         replace hx336_1 := (cb_ HB.out hx336_1 :)
         replace hx336_2 := (cb_ HB.out hx336_2 :)
         replace p336 := eq_true p336
         replace q336 := eq_true q336
         go_upto_if 42 with (first | ((with_reducible refine gate_callee (f := 59) rfl ?_); refine gl_ 42 Tryd.func59 #[.int .i64 ((rd_T37 l0 x4_1).f0)] ?_; (with_reducible refine (spec_l1Root.calls ((rd_T37 l0 x4_1).f0) t337 _ A20.out).mono ?_); rintro e w' ⟨rfl, ⟨nd, rfl⟩⟩; refine ⟨_, rfl, ?_⟩))
         (try simp only [Act.put, List.setIfInBounds_toArray, List.set_cons_zero, List.set_cons_succ])
         go_cut [3] (fun v3 wc => ∃ (kq : Nat) (x3_20 : Int), v3 = .int .i64 x3_20 ∧ Aside0 (spec_TreeOk.j2 kq l0 x3_20 x4_1 = some r) ∧ Aside0 (kq ≤ kj2) ∧ Aside0 (Below w.heap.size w wc))
         case first =>
          have H := HC21.out
          clear HC21
          by_cases c22 : t337 = true
          ·subst c22
           have H1 : (if ((rd_T37 l0 x4_1).f0) = (wrap64 (x3_1 + 1)) then (spec_TreeOk.j2 kj2 l0 (wrap64 (x3_1 + 1)) x4_1) else (some false)) = some r := by rw [if_pos rfl] at H; exact H
           clear H
           have H := H1
           clear H1
           by_cases c23 : ((rd_T37 l0 x4_1).f0) = (wrap64 (x3_1 + 1))
           ·rw [if_pos c23] at H
            have c23b0 : (((rd_T37 l0 x4_1).f0) == (wrap64 (x3_1 + 1))) = true := beq_iff_eq.mpr c23
            have c23b1 : (((rd_T37 l0 x4_1).f0) != (wrap64 (x3_1 + 1))) = false := bne_eq_false_iff_eq.mpr c23
            clear c23
            (first | rw [c23b0] | (simp only [i64_w, i32_w]; rw [c23b0]) | skip)
            have H' := Aside0.mk H
            clear H
            have p338 : 0 ≤ (x4_1 : Int) := od_
            have q338 : x4_1 < (l0.length : Int) := od_
            obtain ⟨ad338, e338, hx338_0, hx338_1, hx338_2⟩ := at_T37 HR0.out x4_1 p338 q338
            obtain rfl : ad336 = ad338 := (by injection e338)
            replace hx338_0 := (cb_ HB.out hx338_0 :)
            replace hx338_1 := (cb_ HB.out hx338_1 :)
            replace hx338_2 := (cb_ HB.out hx338_2 :)
            replace p338 := eq_true p338
            replace q338 := eq_true q338
            go_wp2
            go_meet
            case rel => exact ⟨_, (wrap64 (x3_1 + 1)), (si_), H', ⟨by have := HK1.out; have := HJ2.out; first | omega | exact Nat.le_refl _⟩, ⟨bel_⟩⟩
           ·rw [if_neg c23] at H
            have c23b0 : (((rd_T37 l0 x4_1).f0) == (wrap64 (x3_1 + 1))) = false := beq_eq_false_iff_ne.mpr c23
            have c23b1 : (((rd_T37 l0 x4_1).f0) != (wrap64 (x3_1 + 1))) = true := bne_iff_ne.mpr c23
            (first | rw [c23b0] | (simp only [i64_w, i32_w]; rw [c23b0]) | skip)
            obtain rfl := Option.some.inj H
            have p338 : 0 ≤ (x4_1 : Int) := od_
            have q338 : x4_1 < (l0.length : Int) := od_
            obtain ⟨ad338, e338, hx338_0, hx338_1, hx338_2⟩ := at_T37 HR0.out x4_1 p338 q338
            obtain rfl : ad336 = ad338 := (by injection e338)
            replace hx338_0 := (cb_ HB.out hx338_0 :)
            replace hx338_1 := (cb_ HB.out hx338_1 :)
            replace hx338_2 := (cb_ HB.out hx338_2 :)
            replace p338 := eq_true p338
            replace q338 := eq_true q338
            go_wp2
            go_ret
            exact ⟨fi_, bel_⟩
          ·replace c22 := Bool.eq_false_iff.mpr c22
           subst c22
           have H1 : (spec_TreeOk.j2 kj2 l0 x3_1 x4_1) = some r := by rw [if_neg (show ¬ (false = true) by decide)] at H; exact H
           clear H
           have H := H1
           clear H1
           have H' := Aside0.mk H
           clear H
           go_wp2
           go_meet
           case rel => exact ⟨_, (x3_1), (si_), H', ⟨by have := HK1.out; have := HJ2.out; first | omega | exact Nat.le_refl _⟩, ⟨bel_⟩⟩
         case rest =>
          clear HC21
          try clear c1
          try clear c2
          try clear p2
          try clear p3
          try clear q3
          try clear hx3
          try clear c4
          try clear c5
          try clear c6
          try clear p6
          try clear c7
          try clear c7b0
          try clear c9
          try clear c10
          try clear c17
          try clear c18
          try clear c18b0
          try clear c19
          try clear c19b0
          try clear c22
          try clear c23
          try clear c23b0
          try clear c23b1
          try clear hx332_0
          try clear hx332_1
          try clear hx332_2
          try clear hx334_0
          try clear hx334_1
          try clear hx334_2
          try clear hx335_0
          try clear hx335_1
          try clear hx335_2
          try clear hx336_0
          try clear hx336_1
          try clear hx336_2
          try clear hx338_0
          try clear hx338_1
          try clear hx338_2
          try clear p2
          try clear p3
          try clear p332
          try clear p335
          try clear p336
          try clear p338
          try clear p6
          try clear q3
          try clear q332
          try clear q335
          try clear q336
          try clear q338
          obtain ⟨kq, x3_20, rfl, HA, HJ20, HB⟩ := hcut
          cases kq with
          | zero => exact absurd HA.out (by simp [spec_TreeOk.j2])
          | succ kj20 =>
           have H := HA.out
           clear HA
           simp only [spec_TreeOk.j2] at H
           have H' := Aside0.mk H
           clear H
           go_wp2
           go_loopg [5] kj20 (fun kq v5 w' => ∃ (x5_4 : Int), v5 = .int .i64 x5_4 ∧ Aside0 (spec_TreeOk.l1 kq l0 x3_20 x4_1 x5_4 = some r) ∧ Aside0 (kq ≤ kj20) ∧ Aside0 (Below w.heap.size w w'))
           case atStart => exact ⟨(0), (si_), H', ⟨Nat.le_refl _⟩, ⟨bel_⟩⟩
           case round =>
            clear H'
            try clear c1
            try clear c2
            try clear p2
            try clear p3
            try clear q3
            try clear hx3
            try clear c4
            try clear c5
            try clear c6
            try clear p6
            try clear c7
            try clear c7b0
            try clear c9
            try clear c10
            try clear c17
            try clear c18
            try clear c18b0
            try clear c19
            try clear c19b0
            try clear c22
            try clear c23
            try clear c23b0
            try clear c23b1
            try clear hx332_0
            try clear hx332_1
            try clear hx332_2
            try clear hx334_0
            try clear hx334_1
            try clear hx334_2
            try clear hx335_0
            try clear hx335_1
            try clear hx335_2
            try clear hx336_0
            try clear hx336_1
            try clear hx336_2
            try clear hx338_0
            try clear hx338_1
            try clear hx338_2
            try clear p2
            try clear p3
            try clear p332
            try clear p335
            try clear p336
            try clear p338
            try clear p6
            try clear q3
            try clear q332
            try clear q335
            try clear q336
            try clear q338
            obtain ⟨x5_4, rfl, HA, HK4, HB⟩ := hrel
            cases gk with
            | zero => exact absurd HA.out (by simp [spec_TreeOk.l1])
            | succ k4 =>
             have H := HA.out
             clear HA
             simp only [spec_TreeOk.l1] at H
             by_cases c24 : x5_4 < x4_1
             ·rw [if_pos c24] at H
              have c24b0 : decide (x5_4 < x4_1) = true := decide_eq_true c24
              clear c24
              by_cases c25 : 0 ≤ x5_4
              ·rw [if_pos c25] at H
               have c25b0 : decide (0 ≤ x5_4) = true := decide_eq_true c25
               clear c25
               by_cases c26 : x5_4 < (l0.length : Int)
               ·rw [if_pos c26] at H
                have c26b0 : decide (x5_4 < (l0.length : Int)) = true := decide_eq_true c26
                clear c26
                by_cases c27 : 0 ≤ x4_1
                ·rw [if_pos c27] at H
                 have c27b0 : decide (0 ≤ x4_1) = true := decide_eq_true c27
                 clear c27
                 by_cases c28 : x4_1 < (l0.length : Int)
                 ·rw [if_pos c28] at H
                  have c28b0 : decide (x4_1 < (l0.length : Int)) = true := decide_eq_true c28
                  clear c28
                  by_cases c29 : ((rd_T37 l0 x5_4).f0) = ((rd_T37 l0 x4_1).f0)
                  ·rw [if_pos c29] at H
                   have c29b0 : (((rd_T37 l0 x5_4).f0) == ((rd_T37 l0 x4_1).f0)) = true := beq_iff_eq.mpr c29
                   have c29b1 : (((rd_T37 l0 x5_4).f0) != ((rd_T37 l0 x4_1).f0)) = false := bne_eq_false_iff_eq.mpr c29
                   clear c29
                   obtain rfl := Option.some.inj H
                   try go_wp2
                   have n0_ := Aside0.mk (below_drew1 HB.out)
                   clear HB
                   have HB := n0_
                   clear n0_
                   have p339 : 0 ≤ (x5_4 : Int) := od_
                   have q339 : x5_4 < (l0.length : Int) := od_
                   obtain ⟨ad339, e339, hx339_0, hx339_1, hx339_2⟩ := at_T37 HR0.out x5_4 p339 q339
                   have hw339_2 := hx339_2
                   have hw339_1 := hx339_1
                   have hw339_0 := hx339_0
                   obtain rfl : ad336 = ad339 := (by injection e339)
                   replace hx339_0 := (cb_ HB.out hx339_0 :)
                   replace hx339_1 := (cb_ HB.out hx339_1 :)
                   replace hx339_2 := (cb_ HB.out hx339_2 :)
                   replace p339 := eq_true p339
                   replace q339 := eq_true q339
                   have p340 : 0 ≤ (x4_1 : Int) := od_
                   have q340 : x4_1 < (l0.length : Int) := od_
                   obtain ⟨ad340, e340, hx340_0, hx340_1, hx340_2⟩ := at_T37 HR0.out x4_1 p340 q340
                   have hw340_2 := hx340_2
                   have hw340_1 := hx340_1
                   have hw340_0 := hx340_0
                   obtain rfl : ad336 = ad340 := (by injection e340)
                   replace hx340_0 := (cb_ HB.out hx340_0 :)
                   replace hx340_1 := (cb_ HB.out hx340_1 :)
                   replace hx340_2 := (cb_ HB.out hx340_2 :)
                   replace p340 := eq_true p340
                   replace q340 := eq_true q340
                   refine start_ (n := 11) (S := fun w' => w'.cell? (ad336.add ((x5_4).toNat * 3)) = some (.int .i64 ((rd_T37 l0 x5_4).f0)) ∧ w'.cell? ⟨(ad336.add ((x5_4).toNat * 3)).block, (ad336.add ((x5_4).toNat * 3)).off + 1, none⟩ = some (.int .i64 ((rd_T37 l0 x5_4).f1)) ∧ w'.cell? ⟨(ad336.add ((x5_4).toNat * 3)).block, (ad336.add ((x5_4).toNat * 3)).off + 2, none⟩ = some (.string ((rd_T37 l0 x5_4).f2)) ∧ w'.cell? (ad336.add ((x4_1).toNat * 3)) = some (.int .i64 ((rd_T37 l0 x4_1).f0)) ∧ w'.cell? ⟨(ad336.add ((x4_1).toNat * 3)).block, (ad336.add ((x4_1).toNat * 3)).off + 1, none⟩ = some (.int .i64 ((rd_T37 l0 x4_1).f1)) ∧ w'.cell? ⟨(ad336.add ((x4_1).toNat * 3)).block, (ad336.add ((x4_1).toNat * 3)).off + 2, none⟩ = some (.string ((rd_T37 l0 x4_1).f2))) (ds := []) #[false, false, false, false, false, false, false, false, false, false, false] (by kernel_rfl) rfl rfl ⟨((cb_ HB.out hw339_0 :)), ((cb_ HB.out hw339_1 :)), ((cb_ HB.out hw339_2 :)), ((cb_ HB.out hw340_0 :)), ((cb_ HB.out hw340_1 :)), ((cb_ HB.out hw340_2 :))⟩ (fun hHeld => ?_); refine with_tabW spec_TreeOk.tab14 spec_TreeOk.bits14 (fun HT_ HW_ => ?_)
                   generalize wr.drew = w30 at HB hx339_0 hx339_1 hx339_2 hx340_0 hx340_1 hx340_2 hHeld ⊢
                   refine pa_ 0 57 ?_
                   refine pa_ 1 58 ?_
                   refine pa_ 2 59 ?_
                   refine pa_ 3 60 ?_
                   refine pa_ 5 62 ?_
                   refine pa_ 6 63 ?_
                   refine pa_ 7 64 ?_
                   refine pa_ 8 65 ?_
                   refine ta6_ 4 61 hHeld ?_
                   refine ta6_ 9 66 hHeld ?_
                   refine pa_ 10 67 ?_
                   refine done_ (done_of HT_.out (by kernel_rfl)) ?_
                   try go_wp2
                   go_ret
                   exact ⟨fi_, bel_⟩
                  ·rw [if_neg c29] at H
                   have c29b0 : (((rd_T37 l0 x5_4).f0) == ((rd_T37 l0 x4_1).f0)) = false := beq_eq_false_iff_ne.mpr c29
                   have c29b1 : (((rd_T37 l0 x5_4).f0) != ((rd_T37 l0 x4_1).f0)) = true := bne_iff_ne.mpr c29
                   have H' := Aside0.mk H
                   clear H
                   try go_wp2
                   have n0_ := Aside0.mk (below_drew1 HB.out)
                   clear HB
                   have HB := n0_
                   clear n0_
                   have p339 : 0 ≤ (x5_4 : Int) := od_
                   have q339 : x5_4 < (l0.length : Int) := od_
                   obtain ⟨ad339, e339, hx339_0, hx339_1, hx339_2⟩ := at_T37 HR0.out x5_4 p339 q339
                   have hw339_2 := hx339_2
                   have hw339_1 := hx339_1
                   have hw339_0 := hx339_0
                   obtain rfl : ad336 = ad339 := (by injection e339)
                   replace hx339_0 := (cb_ HB.out hx339_0 :)
                   replace hx339_1 := (cb_ HB.out hx339_1 :)
                   replace hx339_2 := (cb_ HB.out hx339_2 :)
                   replace p339 := eq_true p339
                   replace q339 := eq_true q339
                   have p340 : 0 ≤ (x4_1 : Int) := od_
                   have q340 : x4_1 < (l0.length : Int) := od_
                   obtain ⟨ad340, e340, hx340_0, hx340_1, hx340_2⟩ := at_T37 HR0.out x4_1 p340 q340
                   have hw340_2 := hx340_2
                   have hw340_1 := hx340_1
                   have hw340_0 := hx340_0
                   obtain rfl : ad336 = ad340 := (by injection e340)
                   replace hx340_0 := (cb_ HB.out hx340_0 :)
                   replace hx340_1 := (cb_ HB.out hx340_1 :)
                   replace hx340_2 := (cb_ HB.out hx340_2 :)
                   replace p340 := eq_true p340
                   replace q340 := eq_true q340
                   refine start_ (n := 11) (S := fun w' => w'.cell? (ad336.add ((x5_4).toNat * 3)) = some (.int .i64 ((rd_T37 l0 x5_4).f0)) ∧ w'.cell? ⟨(ad336.add ((x5_4).toNat * 3)).block, (ad336.add ((x5_4).toNat * 3)).off + 1, none⟩ = some (.int .i64 ((rd_T37 l0 x5_4).f1)) ∧ w'.cell? ⟨(ad336.add ((x5_4).toNat * 3)).block, (ad336.add ((x5_4).toNat * 3)).off + 2, none⟩ = some (.string ((rd_T37 l0 x5_4).f2)) ∧ w'.cell? (ad336.add ((x4_1).toNat * 3)) = some (.int .i64 ((rd_T37 l0 x4_1).f0)) ∧ w'.cell? ⟨(ad336.add ((x4_1).toNat * 3)).block, (ad336.add ((x4_1).toNat * 3)).off + 1, none⟩ = some (.int .i64 ((rd_T37 l0 x4_1).f1)) ∧ w'.cell? ⟨(ad336.add ((x4_1).toNat * 3)).block, (ad336.add ((x4_1).toNat * 3)).off + 2, none⟩ = some (.string ((rd_T37 l0 x4_1).f2))) (ds := []) #[false, false, false, false, false, false, false, false, false, false, false] (by kernel_rfl) rfl rfl ⟨((cb_ HB.out hw339_0 :)), ((cb_ HB.out hw339_1 :)), ((cb_ HB.out hw339_2 :)), ((cb_ HB.out hw340_0 :)), ((cb_ HB.out hw340_1 :)), ((cb_ HB.out hw340_2 :))⟩ (fun hHeld => ?_); refine with_tabW spec_TreeOk.tab14 spec_TreeOk.bits14 (fun HT_ HW_ => ?_)
                   generalize wr.drew = w31 at HB hx339_0 hx339_1 hx339_2 hx340_0 hx340_1 hx340_2 hHeld ⊢
                   refine pa_ 0 57 ?_
                   refine pa_ 1 58 ?_
                   refine pa_ 2 59 ?_
                   refine pa_ 3 60 ?_
                   refine pa_ 5 62 ?_
                   refine pa_ 6 63 ?_
                   refine pa_ 7 64 ?_
                   refine pa_ 8 65 ?_
                   refine ta6_ 4 61 hHeld ?_
                   refine ta6_ 9 66 hHeld ?_
                   refine pa_ 10 67 ?_
                   refine done_ (done_of HT_.out (by kernel_rfl)) ?_
                   try go_wp2
                   go_roundg k4
                   case measure => have := HK1.out; have := HJ2.out; have := HJ20.out; have := HK4.out; omega
                   case rel => exact ⟨(wrap64 (x5_4 + 1)), (si_), H', ⟨by have := HK1.out; have := HJ2.out; have := HJ20.out; have := HK4.out; omega⟩, ⟨bel_⟩⟩
                 ·rw [if_neg c28] at H
                  exact absurd H (by simp)
                ·rw [if_neg c27] at H
                 exact absurd H (by simp)
               ·rw [if_neg c26] at H
                exact absurd H (by simp)
              ·rw [if_neg c25] at H
               exact absurd H (by simp)
             ·rw [if_neg c24] at H
              have c24b0 : decide (x5_4 < x4_1) = false := decide_eq_false c24
              clear c24
              have H' := Aside0.mk H
              clear H
              go_wp2
              go_roundg k4
              case measure => have := HK1.out; have := HJ2.out; have := HJ20.out; have := HK4.out; omega
              case rel => exact ⟨(x3_20), (wrap64 (x4_1 + 1)), (si_), (si_), H', ⟨by have := HK1.out; have := HJ2.out; have := HJ20.out; have := HK4.out; omega⟩, ⟨bel_⟩⟩
        ·rw [if_neg c19] at H
         exact absurd H (by simp)
       ·rw [if_neg c18] at H
        exact absurd H (by simp)
   ·rw [if_neg c2] at H
    have c2b0 : decide (x4_1 < (l0.length : Int)) = false := decide_eq_false c2
    clear c2
    by_cases c32 : x3_1 = 3
    ·rw [if_pos c32] at H
     have c32b0 : (x3_1 == 3) = true := beq_iff_eq.mpr c32
     have c32b1 : (x3_1 != 3) = false := bne_eq_false_iff_eq.mpr c32
     clear c32
     by_cases c33 : 0 < (l0.length : Int)
     ·rw [if_pos c33] at H
      have c33b0 : decide (0 < (l0.length : Int)) = true := decide_eq_true c33
      have c33b1 : decide (0 < l0.length) = true := decide_eq_true (by omega)
      clear c33
      obtain rfl := Option.some.inj H
      have p331 : 0 ≤ (0 : Int) := (by omega)
      have q331 : 0 < (l0.length : Int) := od_
      obtain ⟨ad331, e331, hx331_0, hx331_1, hx331_2⟩ := at_T37 HR0.out 0 p331 q331
      cases e331
      have qi331 : (0 < l0.length) = True := eq_true (by omega)
      (try rw [show ((0 : Int)).toNat = 0 from rfl] at hx331_0)
      (try rw [show 0 * 3 = 0 from rfl] at hx331_0)
      (try rw [Addr.add_zero'] at hx331_0)
      (try rw [show ((0 : Int)).toNat = 0 from rfl] at hx331_1)
      (try rw [show 0 * 3 = 0 from rfl] at hx331_1)
      (try rw [Addr.add_zero'] at hx331_1)
      (try rw [show ((0 : Int)).toNat = 0 from rfl] at hx331_2)
      (try rw [show 0 * 3 = 0 from rfl] at hx331_2)
      (try rw [Addr.add_zero'] at hx331_2)
      replace hx331_0 := (cb_ HB.out hx331_0 :)
      replace hx331_1 := (cb_ HB.out hx331_1 :)
      replace hx331_2 := (cb_ HB.out hx331_2 :)
      replace p331 := eq_true p331
      replace q331 := eq_true q331
      go_wp2
      go_ret
      exact ⟨fi_, bel_⟩
     ·rw [if_neg c33] at H
      exact absurd H (by simp)
    ·rw [if_neg c32] at H
     have c32b0 : (x3_1 == 3) = false := beq_eq_false_iff_ne.mpr c32
     have c32b1 : (x3_1 != 3) = true := bne_iff_ne.mpr c32
     obtain rfl := Option.some.inj H
     go_wp2
     go_ret
     exact ⟨fi_, bel_⟩

theorem eqA37 (d : Nat) (w : World) (x0 y0 : Int) (x1 y1 : Int) (x2 y2 : ByteArray) :
  (Op.equalIn (d + 2) 37 (.agg #[.int .i64 x0, .int .i64 x1, .string x2]) (.agg #[.int .i64 y0, .int .i64 y1, .string y2])).run Tryd.prog w = .ok (x0 == y0 && (x1 == y1 && (x2.toList == y2.toList))) w := by
 refine eqA_of Tryd.underlying37 (by kernel_rfl) ?_
 refine eqf_cons (by rfl) (by go_simp; rfl) (by go_simp; rfl) (by go_simp) ?_
 refine eqf_cons (by rfl) (by go_simp; rfl) (by go_simp; rfl) (by go_simp) ?_
 exact eqf_last (by rfl) (by go_simp; rfl) (by go_simp; rfl) (by go_simp)
attribute [local go_sem high] eqA37
def laws_lpRows.l0 : Nat → List (S37) → List (S37) → Int → Option (Bool)
 | 0, _, _, _ => none
 | k + 1, x0, x1, x5 => if x5 < (x0.length : Int) then (if 0 ≤ x5 then (if x5 < (x1.length : Int) then (if (!(((rd_T37 x0 x5).f0) == ((rd_T37 x1 x5).f0)) || (!(((rd_T37 x0 x5).f1) == ((rd_T37 x1 x5).f1)) || (!((((rd_T37 x0 x5).f2).toList) == (((rd_T37 x1 x5).f2).toList))))) = true then (some false) else (laws_lpRows.l0 k x0 x1 (wrap64 (x5 + 1)))) else (none)) else (none)) else (some true)
def laws_lpRows.f (k : Nat) (l0 : List (S37)) (l1 : List (S37)) : Option (Bool) := if (l0.length : Int) = (l1.length : Int) then (laws_lpRows.l0 k l0 l1 0) else (some false)
theorem laws_lpRows.mono_l : ∀ k, (∀ y0 y1 y2, LeO (laws_lpRows.l0 k y0 y1 y2) (laws_lpRows.l0 (k + 1) y0 y1 y2))
 | 0 => fun _ _ _ r h => by simp [laws_lpRows.l0] at h
 | k + 1 => by
  have ih0 := laws_lpRows.mono_l k
  ·intro y0 y1 y2
   unfold laws_lpRows.l0
   repeat' first
   | (with_reducible exact ih0 _ _ _)
   | (with_reducible exact LeO.refl _)
   | (with_reducible exact LeO.none _)
   | (with_reducible refine LeO.ite ?_ ?_)
   | (with_reducible refine LeO.bind ?_ (fun _ => ?_))
   | exact ih0 _ _ _
   | exact LeO.none _
   | refine LeO.ite ?_ ?_
   | refine LeO.bind ?_ (fun _ => ?_)
theorem laws_lpRows.mono : ∀ a0 a1 k, LeO (laws_lpRows.f k a0 a1) (laws_lpRows.f (k + 1) a0 a1) := by
 intro a0 a1 k
 have ih0 := laws_lpRows.mono_l k
 unfold laws_lpRows.f
 repeat' first
   | (with_reducible exact ih0 _ _ _)
   | (with_reducible exact LeO.refl _)
   | (with_reducible exact LeO.none _)
   | (with_reducible refine LeO.ite ?_ ?_)
   | (with_reducible refine LeO.bind ?_ (fun _ => ?_))
   | exact ih0 _ _ _
   | exact LeO.none _
   | refine LeO.ite ?_ ?_
   | refine LeO.bind ?_ (fun _ => ?_)
set_option maxHeartbeats 8000000 in
set_option maxRecDepth 100000 in
theorem laws_lpRows.calls (k : Nat) (A0 : Option Addr) (c0 : Nat) (l0 : List (S37)) (A1 : Option Addr) (c1 : Nat) (l1 : List (S37)) (r : Bool) (w : World) (hr0 : Kd.C k37 w A0 l0.length l0) (hc0 : l0.length ≤ c0) (hr1 : Kd.C k37 w A1 l1.length l1) (hc1 : l1.length ≤ c1) (h : laws_lpRows.f k l0 l1 = some r) :
  Calls Tryd.prog 30 #[.slice A0 l0.length c0, .slice A1 l1.length c1] w fun e w' => e = .returned (.bool r) ∧ Drawn0 w w' := by
 have hu37 := Tryd.underlying37
 have HR0 := Aside0.mk hr0
 have HC0 := Aside0.mk hc0
 clear hr0 hc0
 have HR1 := Aside0.mk hr1
 have HC1 := Aside0.mk hc1
 clear hr1 hc1
 unfold laws_lpRows.f at h
 have H := h
 clear h
 by_cases c3 : (l0.length : Int) = (l1.length : Int)
 ·rw [if_pos c3] at H
  have c3b0 : ((l0.length : Int) == (l1.length : Int)) = true := beq_iff_eq.mpr c3
  have c3b1 : ((l0.length : Int) != (l1.length : Int)) = false := bne_eq_false_iff_eq.mpr c3
  have c3b2 : (l0.length == l1.length) = true := by first | simpa using c3 | (simp at c3 ⊢; omega)
  clear c3
  have H' := Aside0.mk H
  clear H
  go_enter Tryd.func30, Tryd.ntmps30
  go_wp2
  repeat (go_quiet (fail); try go_wp2)
  go_loopg [5] k (fun kq v5 w' => ∃ (x5_1 : Int), v5 = .int .i64 x5_1 ∧ Aside0 (laws_lpRows.l0 kq l0 l1 x5_1 = some r) ∧ Aside0 (kq ≤ k) ∧ Drawn0 w w')
  case atStart => exact ⟨(0), (si_), H', ⟨Nat.le_refl _⟩, by repeat (first | exact Drawn0.refl _ | apply Drawn0.step)⟩
  case round =>
   clear H'
   try clear c1
   try clear p2
   try clear c3
   try clear c3b0
   try clear c3b1
   try clear c3b2
   obtain ⟨x5_1, rfl, HA, HK1, ⟨m1, rfl⟩⟩ := hrel
   cases gk with
   | zero => exact absurd HA.out (by simp [laws_lpRows.l0])
   | succ k1 =>
    have H := HA.out
    clear HA
    simp only [laws_lpRows.l0] at H
    by_cases c4 : x5_1 < (l0.length : Int)
    ·rw [if_pos c4] at H
     have c4b0 : decide (x5_1 < (l0.length : Int)) = true := decide_eq_true c4
     clear c4
     by_cases c5 : 0 ≤ x5_1
     ·rw [if_pos c5] at H
      have c5b0 : decide (0 ≤ x5_1) = true := decide_eq_true c5
      clear c5
      by_cases c6 : x5_1 < (l1.length : Int)
      ·rw [if_pos c6] at H
       have c6b0 : decide (x5_1 < (l1.length : Int)) = true := decide_eq_true c6
       clear c6
       by_cases c7 : (!(((rd_T37 l0 x5_1).f0) == ((rd_T37 l1 x5_1).f0)) || (!(((rd_T37 l0 x5_1).f1) == ((rd_T37 l1 x5_1).f1)) || (!((((rd_T37 l0 x5_1).f2).toList) == (((rd_T37 l1 x5_1).f2).toList))))) = true
       ·rw [if_pos c7] at H
        have c7b0 : (!(((rd_T37 l0 x5_1).f0) == ((rd_T37 l1 x5_1).f0)) || (!(((rd_T37 l0 x5_1).f1) == ((rd_T37 l1 x5_1).f1)) || (!((((rd_T37 l0 x5_1).f2).toList) == (((rd_T37 l1 x5_1).f2).toList))))) = true := c7
        clear c7
        obtain rfl := Option.some.inj H
        have p485 : 0 ≤ (x5_1 : Int) := od_
        have q485 : x5_1 < (l0.length : Int) := od_
        obtain ⟨ad485, e485, hx485_0, hx485_1, hx485_2⟩ := at_T37 HR0.out x5_1 p485 q485
        cases e485
        replace p485 := eq_true p485
        replace q485 := eq_true q485
        have p486 : 0 ≤ (x5_1 : Int) := od_
        have q486 : x5_1 < (l1.length : Int) := od_
        obtain ⟨ad486, e486, hx486_0, hx486_1, hx486_2⟩ := at_T37 HR1.out x5_1 p486 q486
        cases e486
        replace p486 := eq_true p486
        replace q486 := eq_true q486
        go_wp2
        repeat (go_quiet (fail); try go_wp2)
        go_ret
        exact ⟨si_, by repeat (first | exact Drawn0.refl _ | apply Drawn0.step)⟩
       ·rw [if_neg c7] at H
        have c7b0 : (!(((rd_T37 l0 x5_1).f0) == ((rd_T37 l1 x5_1).f0)) || (!(((rd_T37 l0 x5_1).f1) == ((rd_T37 l1 x5_1).f1)) || (!((((rd_T37 l0 x5_1).f2).toList) == (((rd_T37 l1 x5_1).f2).toList))))) = false := by simpa using c7
        clear c7
        have H' := Aside0.mk H
        clear H
        have p485 : 0 ≤ (x5_1 : Int) := od_
        have q485 : x5_1 < (l0.length : Int) := od_
        obtain ⟨ad485, e485, hx485_0, hx485_1, hx485_2⟩ := at_T37 HR0.out x5_1 p485 q485
        cases e485
        replace p485 := eq_true p485
        replace q485 := eq_true q485
        have p486 : 0 ≤ (x5_1 : Int) := od_
        have q486 : x5_1 < (l1.length : Int) := od_
        obtain ⟨ad486, e486, hx486_0, hx486_1, hx486_2⟩ := at_T37 HR1.out x5_1 p486 q486
        cases e486
        replace p486 := eq_true p486
        replace q486 := eq_true q486
        go_wp2
        repeat (go_quiet (fail); try go_wp2)
        go_roundg k1
        case measure => have := HK1.out; omega
        case rel => exact ⟨(wrap64 (x5_1 + 1)), (si_), H', ⟨by have := HK1.out; omega⟩, by repeat (first | exact Drawn0.refl _ | apply Drawn0.step)⟩
      ·rw [if_neg c6] at H
       exact absurd H (by simp)
     ·rw [if_neg c5] at H
      exact absurd H (by simp)
    ·rw [if_neg c4] at H
     have c4b0 : decide (x5_1 < (l0.length : Int)) = false := decide_eq_false c4
     clear c4
     obtain rfl := Option.some.inj H
     go_wp2
     repeat (go_quiet (fail); try go_wp2)
     go_ret
     exact ⟨si_, by repeat (first | exact Drawn0.refl _ | apply Drawn0.step)⟩
 ·rw [if_neg c3] at H
  have c3b0 : ((l0.length : Int) == (l1.length : Int)) = false := beq_eq_false_iff_ne.mpr c3
  have c3b1 : ((l0.length : Int) != (l1.length : Int)) = true := bne_iff_ne.mpr c3
  have c3b2 : (l0.length == l1.length) = false := by first | simpa using c3 | (simp at c3 ⊢; omega)
  obtain rfl := Option.some.inj H
  go_enter Tryd.func30, Tryd.ntmps30
  go_wp2
  repeat (go_quiet (fail); try go_wp2)
  go_ret
  exact ⟨si_, by repeat (first | exact Drawn0.refl _ | apply Drawn0.step)⟩

def spec_l3Id.f (a0 : Int) : Option (Bool) := (spec_l1Root.f a0).bind fun t721 => (if t721 = true then (some true) else ((spec_l1Made.f a0).bind fun t722 => (some t722)))
set_option maxHeartbeats 8000000 in
set_option maxRecDepth 100000 in
theorem spec_l3Id.calls (a0 : Int) (r : Bool) (w : World) (h : spec_l3Id.f a0 = some r) :
  Calls Tryd.prog 88 #[.int .i64 a0] w fun e w' => e = .returned (.bool r) ∧ Drawn0 w w' := by
 unfold spec_l3Id.f at h
 have H := h
 clear h
 replace H := Option.bind_eq_some_iff.mp H
 obtain ⟨t721, A20, H⟩ := H
 try dsimp only at H
 have A2 := Aside0.mk A20
 clear A20
 by_cases c3 : t721 = true
 ·subst c3
  have H1 : (some true) = some r := by rw [if_pos rfl] at H; exact H
  clear H
  have H := H1
  clear H1
  obtain rfl := Option.some.inj H
  go_enter Tryd.func88, Tryd.ntmps88
  go_wp2_with (first | ((with_reducible refine gate_callee (f := 59) rfl ?_); refine gl_ 4 Tryd.func59 #[.int .i64 a0] ?_; (with_reducible refine (spec_l1Root.calls a0 true _ A2.out).mono ?_); rintro e w' ⟨rfl, ⟨nd, rfl⟩⟩; refine ⟨_, rfl, ?_⟩))
  go_ret
  exact ⟨si_, by repeat (first | exact Drawn0.refl _ | apply Drawn0.step)⟩
 ·replace c3 := Bool.eq_false_iff.mpr c3
  subst c3
  have H1 : ((spec_l1Made.f a0).bind fun t722 => (some t722)) = some r := by rw [if_neg (show ¬ (false = true) by decide)] at H; exact H
  clear H
  have H := H1
  clear H1
  replace H := Option.bind_eq_some_iff.mp H
  obtain ⟨t722, A40, H⟩ := H
  try dsimp only at H
  have A4 := Aside0.mk A40
  clear A40
  obtain rfl := Option.some.inj H
  go_enter Tryd.func88, Tryd.ntmps88
  go_wp2_with (first | ((with_reducible refine gate_callee (f := 59) rfl ?_); refine gl_ 4 Tryd.func59 #[.int .i64 a0] ?_; (with_reducible refine (spec_l1Root.calls a0 false _ A2.out).mono ?_); rintro e w' ⟨rfl, ⟨nd, rfl⟩⟩; refine ⟨_, rfl, ?_⟩) | (go_at_call 53; (with_reducible refine (spec_l1Made.calls a0 t722 _ A4.out).mono ?_); rintro e w' ⟨rfl, ⟨nd, rfl⟩⟩))
  go_ret
  exact ⟨si_, by repeat (first | exact Drawn0.refl _ | apply Drawn0.step)⟩

def spec_OpOk.j0 : Nat → Bool → Int → Int → Int → Int → ByteArray → Option (Bool)
 | 0, _, _, _, _, _, _ => none
 | k + 1, x12, x724000, x724001, x724002, x724003, x724004 => if x12 = true then (some false) else (if x724000 = 1 then ((spec_l3Id.f x724002).bind fun t726 => (if t726 = true then (if x724003 = 0 then (some true) else ((spec_l1Made.f x724003).bind fun t727 => (some t727))) else (some false))) else (if x724000 = 2 then (if x724002 = 0 then (some (x724003 == 0)) else (some false)) else (if x724000 = 3 then ((spec_l3Id.f x724002).bind fun t728 => (if t728 = true then (if x724003 = 0 then (some (x724004.toList == ([] : List UInt8))) else ((spec_l1Made.f x724003).bind fun t729 => (if t729 = true then (some (x724004.toList == ([] : List UInt8))) else (some false)))) else (some false))) else (some false))))
def spec_OpOk.f (k : Nat) (a0_0 : Int) (a0_1 : Int) (a0_2 : Int) (a0_3 : Int) (a0_4 : ByteArray) : Option (Bool) := (spec_l1Made.f a0_1).bind fun t724 => (if t724 = true then ((spec_l1Text.f k a0_4).bind fun t725 => (spec_OpOk.j0 k (!t725) a0_0 a0_1 a0_2 a0_3 a0_4)) else (spec_OpOk.j0 k true a0_0 a0_1 a0_2 a0_3 a0_4))
theorem spec_OpOk.mono_l : ∀ k, (∀ y0 y1 y2 y3 y4 y5, LeO (spec_OpOk.j0 k y0 y1 y2 y3 y4 y5) (spec_OpOk.j0 (k + 1) y0 y1 y2 y3 y4 y5))
 | 0 => fun _ _ _ _ _ _ r h => by simp [spec_OpOk.j0] at h
 | k + 1 => by
  have ih0 := spec_OpOk.mono_l k
  ·intro y0 y1 y2 y3 y4 y5
   unfold spec_OpOk.j0
   repeat' first
   | (with_reducible exact ih0 _ _ _ _ _ _)
   | (with_reducible exact spec_l1Text.mono _ _)
   | (with_reducible exact LeO.refl _)
   | (with_reducible exact LeO.none _)
   | (with_reducible refine LeO.ite ?_ ?_)
   | (with_reducible refine LeO.bind ?_ (fun _ => ?_))
   | exact ih0 _ _ _ _ _ _
   | exact spec_l1Text.mono _ _
   | exact LeO.none _
   | refine LeO.ite ?_ ?_
   | refine LeO.bind ?_ (fun _ => ?_)
theorem spec_OpOk.mono : ∀ a0 a1 a2 a3 a4 k, LeO (spec_OpOk.f k a0 a1 a2 a3 a4) (spec_OpOk.f (k + 1) a0 a1 a2 a3 a4) := by
 intro a0 a1 a2 a3 a4 k
 have ih0 := spec_OpOk.mono_l k
 unfold spec_OpOk.f
 repeat' first
   | (with_reducible exact ih0 _ _ _ _ _ _)
   | (with_reducible exact spec_l1Text.mono _ _)
   | (with_reducible exact LeO.refl _)
   | (with_reducible exact LeO.none _)
   | (with_reducible refine LeO.ite ?_ ?_)
   | (with_reducible refine LeO.bind ?_ (fun _ => ?_))
   | exact ih0 _ _ _ _ _ _
   | exact spec_l1Text.mono _ _
   | exact LeO.none _
   | refine LeO.ite ?_ ?_
   | refine LeO.bind ?_ (fun _ => ?_)
set_option maxHeartbeats 8000000 in
set_option maxRecDepth 100000 in
theorem spec_OpOk.calls (k : Nat) (a0_0 : Int) (a0_1 : Int) (a0_2 : Int) (a0_3 : Int) (a0_4 : ByteArray) (r : Bool) (w : World) (h : spec_OpOk.f k a0_0 a0_1 a0_2 a0_3 a0_4 = some r) :
  Calls Tryd.prog 47 #[.agg #[.int .i64 a0_0, .int .i64 a0_1, .int .i64 a0_2, .int .i64 a0_3, .string a0_4]] w fun e w' => e = .returned (.bool r) ∧ Below w.heap.size w w' := by
 have hu27 := Tryd.underlying27
 have HB := Aside0.mk (Below.refl w.heap.size w)
 unfold spec_OpOk.f at h
 have H := h
 clear h
 have HC2 := Aside0.mk H
 clear H
 go_enter Tryd.func47, Tryd.ntmps47
 go_upto_region 1 with (first | ((with_reducible refine gate_dst (N := 1) rfl ?_); refine bx_ 1 (#[.int .i64 a0_0, .int .i64 a0_1, .int .i64 a0_2, .int .i64 a0_3, .string a0_4]) 27 ?_; intro gb723 hg w3 hbox hb; have n0_ := Aside0.mk (below_step (bel_) hb); have n1_ := Aside0.mk (hbox); have n2_ := Aside0.mk ((by rw [hg]; exact (below_size (bel_)) : w.heap.size ≤ gb723)); have n3_ := Aside0.mk ((by rw [hg]; exact (below_size (bel_)) : w.heap.size ≤ gb723)); clear HB; have HB := n0_; have BK723 := n1_; have GW723 := n2_; have GE723 := n3_; clear n0_ n1_ n2_ n3_; clear hb hbox hg))
 (try simp only [Act.put, List.setIfInBounds_toArray, List.set_cons_zero, List.set_cons_succ])
 go_cut [12] (fun v12 wc => ∃ (kq : Nat) (x12_1 : Bool), v12 = .bool x12_1 ∧ Aside0 (spec_OpOk.j0 kq x12_1 a0_0 a0_1 a0_2 a0_3 a0_4 = some r) ∧ Aside0 (kq ≤ k) ∧ Aside0 (wc.heap[gb723]? = some (.cells #[.int .i64 a0_0, .int .i64 a0_1, .int .i64 a0_2, .int .i64 a0_3, .string a0_4] 27 (0, 0))) ∧ Aside0 (Below w.heap.size w wc))
 case first =>
  have H := HC2.out
  clear HC2
  replace H := Option.bind_eq_some_iff.mp H
  obtain ⟨t724, A40, H⟩ := H
  try dsimp only at H
  have A4 := Aside0.mk A40
  clear A40
  by_cases c5 : t724 = true
  ·subst c5
   have H1 : ((spec_l1Text.f k a0_4).bind fun t725 => (spec_OpOk.j0 k (!t725) a0_0 a0_1 a0_2 a0_3 a0_4)) = some r := by rw [if_pos rfl] at H; exact H
   clear H
   have H := H1
   clear H1
   replace H := Option.bind_eq_some_iff.mp H
   obtain ⟨t725, A60, H⟩ := H
   try dsimp only at H
   have A6 := Aside0.mk A60
   clear A60
   have H' := Aside0.mk H
   clear H
   have hcz7_0 := cz_ BK723.out 0 (.int .i64 a0_0)
   have hcz7_1 := cz_ BK723.out 1 (.int .i64 a0_1)
   have hcz7_2 := cz_ BK723.out 2 (.int .i64 a0_2)
   have hcz7_3 := cz_ BK723.out 3 (.int .i64 a0_3)
   have hcz7_4 := cz_ BK723.out 4 (.string a0_4)
   have hfz7_0 := blk_frozen BK723.out 0
   have hfz7_1 := blk_frozen BK723.out 1
   have hfz7_2 := blk_frozen BK723.out 2
   have hfz7_3 := blk_frozen BK723.out 3
   have hfz7_4 := blk_frozen BK723.out 4
   go_wp2_with (first | ((with_reducible refine gate_callee (f := 53) rfl ?_); refine gl_ 5 Tryd.func53 #[.int .i64 a0_1] ?_; (with_reducible refine (spec_l1Made.calls a0_1 true _ A4.out).mono ?_); rintro e w' ⟨rfl, ⟨nd, rfl⟩⟩; refine ⟨_, rfl, ?_⟩) | (go_at_call 87; (with_reducible refine (spec_l1Text.calls k a0_4 t725 _ A6.out).mono ?_); rintro e w' ⟨rfl, ⟨nd, rfl⟩⟩))
   go_meet
   case rel => exact ⟨_, (!t725), (si_), H', ⟨by first | omega | exact Nat.le_refl _⟩, ⟨by (with_reducible repeat (first | refine blk_drewN ?_ _ | refine blk_drew ?_ | refine blk_alloc ?_ _)); exact BK723.out⟩, ⟨bel_⟩⟩
  ·replace c5 := Bool.eq_false_iff.mpr c5
   subst c5
   have H1 : (spec_OpOk.j0 k true a0_0 a0_1 a0_2 a0_3 a0_4) = some r := by rw [if_neg (show ¬ (false = true) by decide)] at H; exact H
   clear H
   have H := H1
   clear H1
   have H' := Aside0.mk H
   clear H
   have hcz8_0 := cz_ BK723.out 0 (.int .i64 a0_0)
   have hcz8_1 := cz_ BK723.out 1 (.int .i64 a0_1)
   have hcz8_2 := cz_ BK723.out 2 (.int .i64 a0_2)
   have hcz8_3 := cz_ BK723.out 3 (.int .i64 a0_3)
   have hcz8_4 := cz_ BK723.out 4 (.string a0_4)
   have hfz8_0 := blk_frozen BK723.out 0
   have hfz8_1 := blk_frozen BK723.out 1
   have hfz8_2 := blk_frozen BK723.out 2
   have hfz8_3 := blk_frozen BK723.out 3
   have hfz8_4 := blk_frozen BK723.out 4
   go_wp2_with (first | ((with_reducible refine gate_callee (f := 53) rfl ?_); refine gl_ 5 Tryd.func53 #[.int .i64 a0_1] ?_; (with_reducible refine (spec_l1Made.calls a0_1 false _ A4.out).mono ?_); rintro e w' ⟨rfl, ⟨nd, rfl⟩⟩; refine ⟨_, rfl, ?_⟩))
   go_meet
   case rel => exact ⟨_, (true), (si_), H', ⟨by first | omega | exact Nat.le_refl _⟩, ⟨by (with_reducible repeat (first | refine blk_drewN ?_ _ | refine blk_drew ?_ | refine blk_alloc ?_ _)); exact BK723.out⟩, ⟨bel_⟩⟩
 case rest =>
  clear HC2
  try clear p2
  try clear c4
  try clear c5
  try clear hcz7_0
  try clear hcz7_1
  try clear hcz7_2
  try clear hcz7_3
  try clear hcz7_4
  try clear hcz8_0
  try clear hcz8_1
  try clear hcz8_2
  try clear hcz8_3
  try clear hcz8_4
  try clear hfz7_0
  try clear hfz7_1
  try clear hfz7_2
  try clear hfz7_3
  try clear hfz7_4
  try clear hfz8_0
  try clear hfz8_1
  try clear hfz8_2
  try clear hfz8_3
  try clear hfz8_4
  obtain ⟨kq, x12_1, rfl, HA, HJ1, BK723, HB⟩ := hcut
  cases kq with
  | zero => exact absurd HA.out (by simp [spec_OpOk.j0])
  | succ kj1 =>
   have H := HA.out
   clear HA
   simp only [spec_OpOk.j0] at H
   by_cases c9 : x12_1 = true
   ·subst c9
    have H1 : (some false) = some r := by rw [if_pos rfl] at H; exact H
    clear H
    have H := H1
    clear H1
    obtain rfl := Option.some.inj H
    go_wp2
    go_ret
    exact ⟨fi_, bel_⟩
   ·replace c9 := Bool.eq_false_iff.mpr c9
    subst c9
    have H1 : (if a0_0 = 1 then ((spec_l3Id.f a0_2).bind fun t726 => (if t726 = true then (if a0_3 = 0 then (some true) else ((spec_l1Made.f a0_3).bind fun t727 => (some t727))) else (some false))) else (if a0_0 = 2 then (if a0_2 = 0 then (some (a0_3 == 0)) else (some false)) else (if a0_0 = 3 then ((spec_l3Id.f a0_2).bind fun t728 => (if t728 = true then (if a0_3 = 0 then (some (a0_4.toList == ([] : List UInt8))) else ((spec_l1Made.f a0_3).bind fun t729 => (if t729 = true then (some (a0_4.toList == ([] : List UInt8))) else (some false)))) else (some false))) else (some false)))) = some r := by rw [if_neg (show ¬ (false = true) by decide)] at H; exact H
    clear H
    have H := H1
    clear H1
    by_cases c10 : a0_0 = 1
    ·rw [if_pos c10] at H
     have c10b0 : (a0_0 == 1) = true := beq_iff_eq.mpr c10
     have c10b1 : (a0_0 != 1) = false := bne_eq_false_iff_eq.mpr c10
     clear c10
     replace H := Option.bind_eq_some_iff.mp H
     obtain ⟨t726, A110, H⟩ := H
     try dsimp only at H
     have A11 := Aside0.mk A110
     clear A110
     by_cases c12 : t726 = true
     ·subst c12
      have H1 : (if a0_3 = 0 then (some true) else ((spec_l1Made.f a0_3).bind fun t727 => (some t727))) = some r := by rw [if_pos rfl] at H; exact H
      clear H
      have H := H1
      clear H1
      by_cases c13 : a0_3 = 0
      ·rw [if_pos c13] at H
       have c13b0 : (a0_3 == 0) = true := beq_iff_eq.mpr c13
       have c13b1 : (a0_3 != 0) = false := bne_eq_false_iff_eq.mpr c13
       clear c13
       obtain rfl := Option.some.inj H
       have hcz14_0 : wc.cell? ⟨gb723, 0, none⟩ = some (.int .i64 a0_0) := (blk_cell BK723.out 0).trans rfl
       have hcz14_1 : wc.cell? ⟨gb723, 1, none⟩ = some (.int .i64 a0_1) := (blk_cell BK723.out 1).trans rfl
       have hcz14_2 : wc.cell? ⟨gb723, 2, none⟩ = some (.int .i64 a0_2) := (blk_cell BK723.out 2).trans rfl
       have hcz14_3 : wc.cell? ⟨gb723, 3, none⟩ = some (.int .i64 a0_3) := (blk_cell BK723.out 3).trans rfl
       have hcz14_4 : wc.cell? ⟨gb723, 4, none⟩ = some (.string a0_4) := (blk_cell BK723.out 4).trans rfl
       have hfz14_0 := blk_frozen BK723.out 0
       have hfz14_1 := blk_frozen BK723.out 1
       have hfz14_2 := blk_frozen BK723.out 2
       have hfz14_3 := blk_frozen BK723.out 3
       have hfz14_4 := blk_frozen BK723.out 4
       go_wp2_with (first | ((with_reducible refine gate_callee (f := 88) rfl ?_); refine gl_ 19 Tryd.func88 #[.int .i64 a0_2] ?_; (with_reducible refine (spec_l3Id.calls a0_2 true _ A11.out).mono ?_); rintro e w' ⟨rfl, ⟨nd, rfl⟩⟩; refine ⟨_, rfl, ?_⟩))
       go_ret
       exact ⟨fi_, bel_⟩
      ·rw [if_neg c13] at H
       have c13b0 : (a0_3 == 0) = false := beq_eq_false_iff_ne.mpr c13
       have c13b1 : (a0_3 != 0) = true := bne_iff_ne.mpr c13
       replace H := Option.bind_eq_some_iff.mp H
       obtain ⟨t727, A150, H⟩ := H
       try dsimp only at H
       have A15 := Aside0.mk A150
       clear A150
       obtain rfl := Option.some.inj H
       have hcz16_0 : wc.cell? ⟨gb723, 0, none⟩ = some (.int .i64 a0_0) := (blk_cell BK723.out 0).trans rfl
       have hcz16_1 : wc.cell? ⟨gb723, 1, none⟩ = some (.int .i64 a0_1) := (blk_cell BK723.out 1).trans rfl
       have hcz16_2 : wc.cell? ⟨gb723, 2, none⟩ = some (.int .i64 a0_2) := (blk_cell BK723.out 2).trans rfl
       have hcz16_3 : wc.cell? ⟨gb723, 3, none⟩ = some (.int .i64 a0_3) := (blk_cell BK723.out 3).trans rfl
       have hcz16_4 : wc.cell? ⟨gb723, 4, none⟩ = some (.string a0_4) := (blk_cell BK723.out 4).trans rfl
       have hfz16_0 := blk_frozen BK723.out 0
       have hfz16_1 := blk_frozen BK723.out 1
       have hfz16_2 := blk_frozen BK723.out 2
       have hfz16_3 := blk_frozen BK723.out 3
       have hfz16_4 := blk_frozen BK723.out 4
       go_wp2_with (first | ((with_reducible refine gate_callee (f := 88) rfl ?_); refine gl_ 19 Tryd.func88 #[.int .i64 a0_2] ?_; (with_reducible refine (spec_l3Id.calls a0_2 true _ A11.out).mono ?_); rintro e w' ⟨rfl, ⟨nd, rfl⟩⟩; refine ⟨_, rfl, ?_⟩) | (go_at_call 53; (with_reducible refine (spec_l1Made.calls a0_3 t727 _ A15.out).mono ?_); rintro e w' ⟨rfl, ⟨nd, rfl⟩⟩))
       go_ret
       exact ⟨fi_, bel_⟩
     ·replace c12 := Bool.eq_false_iff.mpr c12
      subst c12
      have H1 : (some false) = some r := by rw [if_neg (show ¬ (false = true) by decide)] at H; exact H
      clear H
      have H := H1
      clear H1
      obtain rfl := Option.some.inj H
      have hcz17_0 : wc.cell? ⟨gb723, 0, none⟩ = some (.int .i64 a0_0) := (blk_cell BK723.out 0).trans rfl
      have hcz17_1 : wc.cell? ⟨gb723, 1, none⟩ = some (.int .i64 a0_1) := (blk_cell BK723.out 1).trans rfl
      have hcz17_2 : wc.cell? ⟨gb723, 2, none⟩ = some (.int .i64 a0_2) := (blk_cell BK723.out 2).trans rfl
      have hcz17_3 : wc.cell? ⟨gb723, 3, none⟩ = some (.int .i64 a0_3) := (blk_cell BK723.out 3).trans rfl
      have hcz17_4 : wc.cell? ⟨gb723, 4, none⟩ = some (.string a0_4) := (blk_cell BK723.out 4).trans rfl
      have hfz17_0 := blk_frozen BK723.out 0
      have hfz17_1 := blk_frozen BK723.out 1
      have hfz17_2 := blk_frozen BK723.out 2
      have hfz17_3 := blk_frozen BK723.out 3
      have hfz17_4 := blk_frozen BK723.out 4
      go_wp2_with (first | ((with_reducible refine gate_callee (f := 88) rfl ?_); refine gl_ 19 Tryd.func88 #[.int .i64 a0_2] ?_; (with_reducible refine (spec_l3Id.calls a0_2 false _ A11.out).mono ?_); rintro e w' ⟨rfl, ⟨nd, rfl⟩⟩; refine ⟨_, rfl, ?_⟩))
      go_ret
      exact ⟨fi_, bel_⟩
    ·rw [if_neg c10] at H
     have c10b0 : (a0_0 == 1) = false := beq_eq_false_iff_ne.mpr c10
     have c10b1 : (a0_0 != 1) = true := bne_iff_ne.mpr c10
     by_cases c18 : a0_0 = 2
     ·rw [if_pos c18] at H
      have c18b0 : (a0_0 == 2) = true := beq_iff_eq.mpr c18
      have c18b1 : (a0_0 != 2) = false := bne_eq_false_iff_eq.mpr c18
      clear c18
      by_cases c19 : a0_2 = 0
      ·rw [if_pos c19] at H
       have c19b0 : (a0_2 == 0) = true := beq_iff_eq.mpr c19
       have c19b1 : (a0_2 != 0) = false := bne_eq_false_iff_eq.mpr c19
       clear c19
       obtain rfl := Option.some.inj H
       have hcz20_0 : wc.cell? ⟨gb723, 0, none⟩ = some (.int .i64 a0_0) := (blk_cell BK723.out 0).trans rfl
       have hcz20_1 : wc.cell? ⟨gb723, 1, none⟩ = some (.int .i64 a0_1) := (blk_cell BK723.out 1).trans rfl
       have hcz20_2 : wc.cell? ⟨gb723, 2, none⟩ = some (.int .i64 a0_2) := (blk_cell BK723.out 2).trans rfl
       have hcz20_3 : wc.cell? ⟨gb723, 3, none⟩ = some (.int .i64 a0_3) := (blk_cell BK723.out 3).trans rfl
       have hcz20_4 : wc.cell? ⟨gb723, 4, none⟩ = some (.string a0_4) := (blk_cell BK723.out 4).trans rfl
       have hfz20_0 := blk_frozen BK723.out 0
       have hfz20_1 := blk_frozen BK723.out 1
       have hfz20_2 := blk_frozen BK723.out 2
       have hfz20_3 := blk_frozen BK723.out 3
       have hfz20_4 := blk_frozen BK723.out 4
       go_wp2
       go_ret
       exact ⟨fi_, bel_⟩
      ·rw [if_neg c19] at H
       have c19b0 : (a0_2 == 0) = false := beq_eq_false_iff_ne.mpr c19
       have c19b1 : (a0_2 != 0) = true := bne_iff_ne.mpr c19
       obtain rfl := Option.some.inj H
       have hcz21_0 : wc.cell? ⟨gb723, 0, none⟩ = some (.int .i64 a0_0) := (blk_cell BK723.out 0).trans rfl
       have hcz21_1 : wc.cell? ⟨gb723, 1, none⟩ = some (.int .i64 a0_1) := (blk_cell BK723.out 1).trans rfl
       have hcz21_2 : wc.cell? ⟨gb723, 2, none⟩ = some (.int .i64 a0_2) := (blk_cell BK723.out 2).trans rfl
       have hcz21_3 : wc.cell? ⟨gb723, 3, none⟩ = some (.int .i64 a0_3) := (blk_cell BK723.out 3).trans rfl
       have hcz21_4 : wc.cell? ⟨gb723, 4, none⟩ = some (.string a0_4) := (blk_cell BK723.out 4).trans rfl
       have hfz21_0 := blk_frozen BK723.out 0
       have hfz21_1 := blk_frozen BK723.out 1
       have hfz21_2 := blk_frozen BK723.out 2
       have hfz21_3 := blk_frozen BK723.out 3
       have hfz21_4 := blk_frozen BK723.out 4
       go_wp2
       go_ret
       exact ⟨fi_, bel_⟩
     ·rw [if_neg c18] at H
      have c18b0 : (a0_0 == 2) = false := beq_eq_false_iff_ne.mpr c18
      have c18b1 : (a0_0 != 2) = true := bne_iff_ne.mpr c18
      by_cases c22 : a0_0 = 3
      ·rw [if_pos c22] at H
       have c22b0 : (a0_0 == 3) = true := beq_iff_eq.mpr c22
       have c22b1 : (a0_0 != 3) = false := bne_eq_false_iff_eq.mpr c22
       clear c22
       replace H := Option.bind_eq_some_iff.mp H
       obtain ⟨t728, A230, H⟩ := H
       try dsimp only at H
       have A23 := Aside0.mk A230
       clear A230
       by_cases c24 : t728 = true
       ·subst c24
        have H1 : (if a0_3 = 0 then (some (a0_4.toList == ([] : List UInt8))) else ((spec_l1Made.f a0_3).bind fun t729 => (if t729 = true then (some (a0_4.toList == ([] : List UInt8))) else (some false)))) = some r := by rw [if_pos rfl] at H; exact H
        clear H
        have H := H1
        clear H1
        by_cases c25 : a0_3 = 0
        ·rw [if_pos c25] at H
         have c25b0 : (a0_3 == 0) = true := beq_iff_eq.mpr c25
         have c25b1 : (a0_3 != 0) = false := bne_eq_false_iff_eq.mpr c25
         clear c25
         obtain rfl := Option.some.inj H
         have hcz26_0 : wc.cell? ⟨gb723, 0, none⟩ = some (.int .i64 a0_0) := (blk_cell BK723.out 0).trans rfl
         have hcz26_1 : wc.cell? ⟨gb723, 1, none⟩ = some (.int .i64 a0_1) := (blk_cell BK723.out 1).trans rfl
         have hcz26_2 : wc.cell? ⟨gb723, 2, none⟩ = some (.int .i64 a0_2) := (blk_cell BK723.out 2).trans rfl
         have hcz26_3 : wc.cell? ⟨gb723, 3, none⟩ = some (.int .i64 a0_3) := (blk_cell BK723.out 3).trans rfl
         have hcz26_4 : wc.cell? ⟨gb723, 4, none⟩ = some (.string a0_4) := (blk_cell BK723.out 4).trans rfl
         have hfz26_0 := blk_frozen BK723.out 0
         have hfz26_1 := blk_frozen BK723.out 1
         have hfz26_2 := blk_frozen BK723.out 2
         have hfz26_3 := blk_frozen BK723.out 3
         have hfz26_4 := blk_frozen BK723.out 4
         go_wp2_with (first | ((with_reducible refine gate_callee (f := 88) rfl ?_); refine gl_ 44 Tryd.func88 #[.int .i64 a0_2] ?_; (with_reducible refine (spec_l3Id.calls a0_2 true _ A23.out).mono ?_); rintro e w' ⟨rfl, ⟨nd, rfl⟩⟩; refine ⟨_, rfl, ?_⟩))
         go_ret
         exact ⟨fi_, bel_⟩
        ·rw [if_neg c25] at H
         have c25b0 : (a0_3 == 0) = false := beq_eq_false_iff_ne.mpr c25
         have c25b1 : (a0_3 != 0) = true := bne_iff_ne.mpr c25
         replace H := Option.bind_eq_some_iff.mp H
         obtain ⟨t729, A270, H⟩ := H
         try dsimp only at H
         have A27 := Aside0.mk A270
         clear A270
         by_cases c28 : t729 = true
         ·subst c28
          have H1 : (some (a0_4.toList == ([] : List UInt8))) = some r := by rw [if_pos rfl] at H; exact H
          clear H
          have H := H1
          clear H1
          obtain rfl := Option.some.inj H
          have hcz29_0 : wc.cell? ⟨gb723, 0, none⟩ = some (.int .i64 a0_0) := (blk_cell BK723.out 0).trans rfl
          have hcz29_1 : wc.cell? ⟨gb723, 1, none⟩ = some (.int .i64 a0_1) := (blk_cell BK723.out 1).trans rfl
          have hcz29_2 : wc.cell? ⟨gb723, 2, none⟩ = some (.int .i64 a0_2) := (blk_cell BK723.out 2).trans rfl
          have hcz29_3 : wc.cell? ⟨gb723, 3, none⟩ = some (.int .i64 a0_3) := (blk_cell BK723.out 3).trans rfl
          have hcz29_4 : wc.cell? ⟨gb723, 4, none⟩ = some (.string a0_4) := (blk_cell BK723.out 4).trans rfl
          have hfz29_0 := blk_frozen BK723.out 0
          have hfz29_1 := blk_frozen BK723.out 1
          have hfz29_2 := blk_frozen BK723.out 2
          have hfz29_3 := blk_frozen BK723.out 3
          have hfz29_4 := blk_frozen BK723.out 4
          go_wp2_with (first | ((with_reducible refine gate_callee (f := 88) rfl ?_); refine gl_ 44 Tryd.func88 #[.int .i64 a0_2] ?_; (with_reducible refine (spec_l3Id.calls a0_2 true _ A23.out).mono ?_); rintro e w' ⟨rfl, ⟨nd, rfl⟩⟩; refine ⟨_, rfl, ?_⟩) | (go_at_call 53; (with_reducible refine (spec_l1Made.calls a0_3 true _ A27.out).mono ?_); rintro e w' ⟨rfl, ⟨nd, rfl⟩⟩))
          go_ret
          exact ⟨fi_, bel_⟩
         ·replace c28 := Bool.eq_false_iff.mpr c28
          subst c28
          have H1 : (some false) = some r := by rw [if_neg (show ¬ (false = true) by decide)] at H; exact H
          clear H
          have H := H1
          clear H1
          obtain rfl := Option.some.inj H
          have hcz30_0 : wc.cell? ⟨gb723, 0, none⟩ = some (.int .i64 a0_0) := (blk_cell BK723.out 0).trans rfl
          have hcz30_1 : wc.cell? ⟨gb723, 1, none⟩ = some (.int .i64 a0_1) := (blk_cell BK723.out 1).trans rfl
          have hcz30_2 : wc.cell? ⟨gb723, 2, none⟩ = some (.int .i64 a0_2) := (blk_cell BK723.out 2).trans rfl
          have hcz30_3 : wc.cell? ⟨gb723, 3, none⟩ = some (.int .i64 a0_3) := (blk_cell BK723.out 3).trans rfl
          have hcz30_4 : wc.cell? ⟨gb723, 4, none⟩ = some (.string a0_4) := (blk_cell BK723.out 4).trans rfl
          have hfz30_0 := blk_frozen BK723.out 0
          have hfz30_1 := blk_frozen BK723.out 1
          have hfz30_2 := blk_frozen BK723.out 2
          have hfz30_3 := blk_frozen BK723.out 3
          have hfz30_4 := blk_frozen BK723.out 4
          go_wp2_with (first | ((with_reducible refine gate_callee (f := 88) rfl ?_); refine gl_ 44 Tryd.func88 #[.int .i64 a0_2] ?_; (with_reducible refine (spec_l3Id.calls a0_2 true _ A23.out).mono ?_); rintro e w' ⟨rfl, ⟨nd, rfl⟩⟩; refine ⟨_, rfl, ?_⟩) | (go_at_call 53; (with_reducible refine (spec_l1Made.calls a0_3 false _ A27.out).mono ?_); rintro e w' ⟨rfl, ⟨nd, rfl⟩⟩))
          go_ret
          exact ⟨fi_, bel_⟩
       ·replace c24 := Bool.eq_false_iff.mpr c24
        subst c24
        have H1 : (some false) = some r := by rw [if_neg (show ¬ (false = true) by decide)] at H; exact H
        clear H
        have H := H1
        clear H1
        obtain rfl := Option.some.inj H
        have hcz31_0 : wc.cell? ⟨gb723, 0, none⟩ = some (.int .i64 a0_0) := (blk_cell BK723.out 0).trans rfl
        have hcz31_1 : wc.cell? ⟨gb723, 1, none⟩ = some (.int .i64 a0_1) := (blk_cell BK723.out 1).trans rfl
        have hcz31_2 : wc.cell? ⟨gb723, 2, none⟩ = some (.int .i64 a0_2) := (blk_cell BK723.out 2).trans rfl
        have hcz31_3 : wc.cell? ⟨gb723, 3, none⟩ = some (.int .i64 a0_3) := (blk_cell BK723.out 3).trans rfl
        have hcz31_4 : wc.cell? ⟨gb723, 4, none⟩ = some (.string a0_4) := (blk_cell BK723.out 4).trans rfl
        have hfz31_0 := blk_frozen BK723.out 0
        have hfz31_1 := blk_frozen BK723.out 1
        have hfz31_2 := blk_frozen BK723.out 2
        have hfz31_3 := blk_frozen BK723.out 3
        have hfz31_4 := blk_frozen BK723.out 4
        go_wp2_with (first | ((with_reducible refine gate_callee (f := 88) rfl ?_); refine gl_ 44 Tryd.func88 #[.int .i64 a0_2] ?_; (with_reducible refine (spec_l3Id.calls a0_2 false _ A23.out).mono ?_); rintro e w' ⟨rfl, ⟨nd, rfl⟩⟩; refine ⟨_, rfl, ?_⟩))
        go_ret
        exact ⟨fi_, bel_⟩
      ·rw [if_neg c22] at H
       have c22b0 : (a0_0 == 3) = false := beq_eq_false_iff_ne.mpr c22
       have c22b1 : (a0_0 != 3) = true := bne_iff_ne.mpr c22
       obtain rfl := Option.some.inj H
       have hcz32_0 : wc.cell? ⟨gb723, 0, none⟩ = some (.int .i64 a0_0) := (blk_cell BK723.out 0).trans rfl
       have hcz32_1 : wc.cell? ⟨gb723, 1, none⟩ = some (.int .i64 a0_1) := (blk_cell BK723.out 1).trans rfl
       have hcz32_2 : wc.cell? ⟨gb723, 2, none⟩ = some (.int .i64 a0_2) := (blk_cell BK723.out 2).trans rfl
       have hcz32_3 : wc.cell? ⟨gb723, 3, none⟩ = some (.int .i64 a0_3) := (blk_cell BK723.out 3).trans rfl
       have hcz32_4 : wc.cell? ⟨gb723, 4, none⟩ = some (.string a0_4) := (blk_cell BK723.out 4).trans rfl
       have hfz32_0 := blk_frozen BK723.out 0
       have hfz32_1 := blk_frozen BK723.out 1
       have hfz32_2 := blk_frozen BK723.out 2
       have hfz32_3 := blk_frozen BK723.out 3
       have hfz32_4 := blk_frozen BK723.out 4
       go_wp2
       go_ret
       exact ⟨fi_, bel_⟩

mutual
def spec_l71Op.j1 : Nat → List Int → Int → Int → Int → Int → Int → ByteArray → Option (Int × Int × Int × Int × ByteArray × Int)
 | 0, _, _, _, _, _, _, _ => none
 | k + 1, x1000, x1001, x836000, x836001, x836002, x836003, x836004 => (spec_l6Rd_pick.f k x1000 x1001 30).bind fun bt854 => (if bt854.1 = 0 then ((spec_l6Rd_pick.f k x1000 bt854.2 5).bind fun bt856 => (some (bt856.1, x836001, x836002, x836003, x836004, bt856.2))) else (if bt854.1 = 1 then ((spec_l6Rd_pick.f k x1000 bt854.2 50).bind fun bt858 => (some (x836000, bt858.1, x836002, x836003, x836004, bt858.2))) else (if bt854.1 = 2 then ((spec_l6Rd_pick.f k x1000 bt854.2 50).bind fun bt860 => (some (x836000, x836001, bt860.1, x836003, x836004, bt860.2))) else (if bt854.1 = 3 then ((spec_l6Rd_pick.f k x1000 bt854.2 50).bind fun bt862 => (some (x836000, x836001, x836002, bt862.1, x836004, bt862.2))) else (some (x836000, x836001, x836002, x836003, x836004, bt854.2))))))
def spec_l71Op.j0 : Nat → Int → Int → Int → Bool → List Int → Int → Int → Int → Int → Int → ByteArray → Option (Int × Int × Int × Int × ByteArray × Int)
 | 0, _, _, _, _, _, _, _, _, _, _, _ => none
 | k + 1, x4, x5, x26, x27, x1000, x1001, x836000, x836001, x836002, x836003, x836004 => if x27 = true then (spec_l71Op.j1 k x1000 x1001 1 x836001 x4 x5 x836004) else (if x26 = 2 then (spec_l71Op.j1 k x1000 x1001 3 x836001 x4 x5 (⟨#[]⟩ : ByteArray)) else (if x26 = 3 then (spec_l71Op.j1 k x1000 x1001 3 x836001 x4 x5 (⟨#[]⟩ : ByteArray)) else (spec_l71Op.j1 k x1000 x1001 x836000 x836001 x836002 x836003 x836004)))
end
def spec_l71Op.f (k : Nat) (s0_0 : List Int) (s0_1 : Int) : Option (Int × Int × Int × Int × ByteArray × Int) := (spec_l71Id.f k s0_0 s0_1).bind fun bt831 => ((spec_l71Text.f k s0_0 bt831.2).bind fun bt833 => ((spec_l71Id.f k s0_0 bt833.2).bind fun bt836 => ((some (([1, 1, bt836.1, 2, 3] : List Int) : List Int)).bind fun y838 => ((spec_l6Rd_pick.f k s0_0 bt836.2 5).bind fun bt841 => (if 0 ≤ bt841.1 then (if bt841.1 < (y838.length : Int) then ((spec_l71Id.f k s0_0 bt841.2).bind fun bt844 => ((some (([0, bt844.1] : List Int) : List Int)).bind fun y846 => ((spec_l6Rd_pick.f k s0_0 bt844.2 2).bind fun bt849 => (if 0 ≤ bt849.1 then (if bt849.1 < (y846.length : Int) then ((spec_l6Rd_pick.f k s0_0 bt849.2 5).bind fun bt852 => (if bt852.1 = 0 then (spec_l71Op.j0 k (rd y838 bt841.1) (rd y846 bt849.1) bt852.1 (bt852.1 == 0) s0_0 bt852.2 2 bt831.1 0 0 bt833.1) else (spec_l71Op.j0 k (rd y838 bt841.1) (rd y846 bt849.1) bt852.1 (bt852.1 == 1) s0_0 bt852.2 2 bt831.1 0 0 bt833.1))) else (none)) else (none))))) else (none)) else (none))))))
theorem spec_l71Op.mono_l : ∀ k, (∀ y0 y1 y2 y3 y4 y5 y6, LeO (spec_l71Op.j1 k y0 y1 y2 y3 y4 y5 y6) (spec_l71Op.j1 (k + 1) y0 y1 y2 y3 y4 y5 y6)) ∧ (∀ y0 y1 y2 y3 y4 y5 y6 y7 y8 y9 y10, LeO (spec_l71Op.j0 k y0 y1 y2 y3 y4 y5 y6 y7 y8 y9 y10) (spec_l71Op.j0 (k + 1) y0 y1 y2 y3 y4 y5 y6 y7 y8 y9 y10))
 | 0 => ⟨fun _ _ _ _ _ _ _ r h => by simp [spec_l71Op.j1] at h, fun _ _ _ _ _ _ _ _ _ _ _ r h => by simp [spec_l71Op.j0] at h⟩
 | k + 1 => by
  obtain ⟨ih0, ih1⟩ := spec_l71Op.mono_l k
  refine ⟨?_, ?_⟩
  all_goals intros
  all_goals first | unfold spec_l71Op.j1 | unfold spec_l71Op.j0
  all_goals repeat' first
  | (with_reducible exact ih0 _ _ _ _ _ _ _)
  | (with_reducible exact ih1 _ _ _ _ _ _ _ _ _ _ _)
  | (with_reducible exact spec_l6Rd_pick.mono _ _ _ _)
  | (with_reducible exact spec_l71Id.mono _ _ _)
  | (with_reducible exact spec_l71Text.mono _ _ _)
  | (with_reducible exact LeO.refl _)
  | (with_reducible exact LeO.none _)
  | (with_reducible refine LeO.ite ?_ ?_)
  | (with_reducible refine LeO.bind ?_ (fun _ => ?_))
  | exact ih0 _ _ _ _ _ _ _
  | exact ih1 _ _ _ _ _ _ _ _ _ _ _
  | exact spec_l6Rd_pick.mono _ _ _ _
  | exact spec_l71Id.mono _ _ _
  | exact spec_l71Text.mono _ _ _
  | exact LeO.none _
  | refine LeO.ite ?_ ?_
  | refine LeO.bind ?_ (fun _ => ?_)
theorem spec_l71Op.mono : ∀ a0 a1 k, LeO (spec_l71Op.f k a0 a1) (spec_l71Op.f (k + 1) a0 a1) := by
 intro a0 a1 k
 obtain ⟨ih0, ih1⟩ := spec_l71Op.mono_l k
 unfold spec_l71Op.f
 repeat' first
   | (with_reducible exact ih0 _ _ _ _ _ _ _)
   | (with_reducible exact ih1 _ _ _ _ _ _ _ _ _ _ _)
   | (with_reducible exact spec_l6Rd_pick.mono _ _ _ _)
   | (with_reducible exact spec_l71Id.mono _ _ _)
   | (with_reducible exact spec_l71Text.mono _ _ _)
   | (with_reducible exact LeO.refl _)
   | (with_reducible exact LeO.none _)
   | (with_reducible refine LeO.ite ?_ ?_)
   | (with_reducible refine LeO.bind ?_ (fun _ => ?_))
   | exact ih0 _ _ _ _ _ _ _
   | exact ih1 _ _ _ _ _ _ _ _ _ _ _
   | exact spec_l6Rd_pick.mono _ _ _ _
   | exact spec_l71Id.mono _ _ _
   | exact spec_l71Text.mono _ _ _
   | exact LeO.none _
   | refine LeO.ite ?_ ?_
   | refine LeO.bind ?_ (fun _ => ?_)
set_option maxHeartbeats 8000000 in
set_option maxRecDepth 100000 in
theorem spec_l71Op.calls (k : Nat) (g : Nat) (s0_0 : List Int) (s0_1 : Int) (r1 : Int) (r2 : Int) (r3 : Int) (r4 : Int) (r5 : ByteArray) (r6 : Int) (w0 w : World) (hI : IsS102 w0 w g s0_0 s0_1) (hB : Below w0.heap.size w0 w) (h : spec_l71Op.f k s0_0 s0_1 = some (r1, r2, r3, r4, r5, r6)) :
  Calls Tryd.prog 109 #[.pointer (some ⟨g, 0, none⟩)] w fun e w' => e = .returned (.agg #[.int .i64 r1, .int .i64 r2, .int .i64 r3, .int .i64 r4, .string r5]) ∧ IsS102 w0 w' g s0_0 r6 ∧ Below w0.heap.size w0 w' ∧ KeepBut w w' g none := by
 have hu27 := Tryd.underlying27
 have HI0 := Aside0.mk hI
 have HK := Aside0.mk (KeepBut.refl w g none)
 have HL := Aside0.mk hB.size
 clear hI
 have HW0 := Aside0.mk hB.size
 have HB := Aside0.mk hB
 clear hB
 unfold spec_l71Op.f at h
 have H := h
 clear h
 replace H := Option.bind_eq_some_iff.mp H
 obtain ⟨⟨t831, t832⟩, A20, H⟩ := H
 try dsimp only at H
 have A2 := Aside0.mk A20
 clear A20
 replace H := Option.bind_eq_some_iff.mp H
 obtain ⟨⟨t833, t834⟩, A30, H⟩ := H
 try dsimp only at H
 have A3 := Aside0.mk A30
 clear A30
 replace H := Option.bind_eq_some_iff.mp H
 obtain ⟨⟨t836, t837⟩, A40, H⟩ := H
 try dsimp only at H
 have A4 := Aside0.mk A40
 clear A40
 obtain ⟨y838, hy838⟩ : ∃ y_ : List Int, y_ = (([1, 1, t836, 2, 3] : List Int)) := ⟨_, rfl⟩
 replace H : ((spec_l6Rd_pick.f k s0_0 t837 5).bind fun bt841 => (if 0 ≤ bt841.1 then (if bt841.1 < (y838.length : Int) then ((spec_l71Id.f k s0_0 bt841.2).bind fun bt844 => ((some (([0, bt844.1] : List Int) : List Int)).bind fun y846 => ((spec_l6Rd_pick.f k s0_0 bt844.2 2).bind fun bt849 => (if 0 ≤ bt849.1 then (if bt849.1 < (y846.length : Int) then ((spec_l6Rd_pick.f k s0_0 bt849.2 5).bind fun bt852 => (if bt852.1 = 0 then (spec_l71Op.j0 k (rd y838 bt841.1) (rd y846 bt849.1) bt852.1 (bt852.1 == 0) s0_0 bt852.2 2 t831 0 0 t833) else (spec_l71Op.j0 k (rd y838 bt841.1) (rd y846 bt849.1) bt852.1 (bt852.1 == 1) s0_0 bt852.2 2 t831 0 0 t833))) else (none)) else (none))))) else (none)) else (none))) = some (r1, r2, r3, r4, r5, r6) := by first | (rw [hy838]; with_reducible exact H) | (have H2_ := (Option.bind_some _ _).symm.trans H; rw [hy838]; with_reducible exact H2_) | (have H2_ := (Option.bind_some _ _).symm.trans H; with_reducible exact H2_) | with_reducible exact H | (rw [hy838]; exact H) | exact H
 have Ny838 := Aside0.mk hy838
 clear hy838
 replace H := Option.bind_eq_some_iff.mp H
 obtain ⟨⟨t841, t842⟩, A50, H⟩ := H
 try dsimp only at H
 have A5 := Aside0.mk A50
 clear A50
 by_cases c6 : 0 ≤ t841
 ·rw [if_pos c6] at H
  have c6b0 : decide (0 ≤ t841) = true := decide_eq_true c6
  clear c6
  by_cases c7 : t841 < (y838.length : Int)
  ·rw [if_pos c7] at H
   have c7b0 : decide (t841 < (y838.length : Int)) = true := decide_eq_true c7
   clear c7
   replace H := Option.bind_eq_some_iff.mp H
   obtain ⟨⟨t844, t845⟩, A80, H⟩ := H
   try dsimp only at H
   have A8 := Aside0.mk A80
   clear A80
   obtain ⟨y846, hy846⟩ : ∃ y_ : List Int, y_ = (([0, t844] : List Int)) := ⟨_, rfl⟩
   replace H : ((spec_l6Rd_pick.f k s0_0 t845 2).bind fun bt849 => (if 0 ≤ bt849.1 then (if bt849.1 < (y846.length : Int) then ((spec_l6Rd_pick.f k s0_0 bt849.2 5).bind fun bt852 => (if bt852.1 = 0 then (spec_l71Op.j0 k (rd y838 t841) (rd y846 bt849.1) bt852.1 (bt852.1 == 0) s0_0 bt852.2 2 t831 0 0 t833) else (spec_l71Op.j0 k (rd y838 t841) (rd y846 bt849.1) bt852.1 (bt852.1 == 1) s0_0 bt852.2 2 t831 0 0 t833))) else (none)) else (none))) = some (r1, r2, r3, r4, r5, r6) := by first | (rw [hy846]; with_reducible exact H) | (have H2_ := (Option.bind_some _ _).symm.trans H; rw [hy846]; with_reducible exact H2_) | (have H2_ := (Option.bind_some _ _).symm.trans H; with_reducible exact H2_) | with_reducible exact H | (rw [hy846]; exact H) | exact H
   have Ny846 := Aside0.mk hy846
   clear hy846
   replace H := Option.bind_eq_some_iff.mp H
   obtain ⟨⟨t849, t850⟩, A90, H⟩ := H
   try dsimp only at H
   have A9 := Aside0.mk A90
   clear A90
   by_cases c10 : 0 ≤ t849
   ·rw [if_pos c10] at H
    have c10b0 : decide (0 ≤ t849) = true := decide_eq_true c10
    clear c10
    by_cases c11 : t849 < (y846.length : Int)
    ·rw [if_pos c11] at H
     have c11b0 : decide (t849 < (y846.length : Int)) = true := decide_eq_true c11
     clear c11
     replace H := Option.bind_eq_some_iff.mp H
     obtain ⟨⟨t852, t853⟩, A120, H⟩ := H
     try dsimp only at H
     have A12 := Aside0.mk A120
     clear A120
     have HC13 := Aside0.mk H
     clear H
     go_enter Tryd.func109, Tryd.ntmps109
     go_upto_block 0 with (first | ((with_reducible refine gate_dst (N := 2) rfl ?_); refine bx_ 2 (#[.int .i64 0, .int .i64 0, .int .i64 0, .int .i64 0, .string (⟨#[]⟩ : ByteArray)]) 27 ?_; intro gb830 hg w14 hbox hb; have n0_ := Aside0.mk (IsS102.below (is_HI0) hb); have n1_ := Aside0.mk (KeepBut.trans (ke_) (KeepBut.of_below hb g none) (.inl rfl)); have n2_ := Aside0.mk (below_step (bel_) hb); have n3_ := Aside0.mk (hbox); have n4_ := Aside0.mk ((by rw [hg]; exact (keep_size (w := w) (g := g) (row := none) (ke_)) : w.heap.size ≤ gb830)); have n5_ := Aside0.mk ((Nat.le_trans HW0.out (by rw [hg]; exact (keep_size (w := w) (g := g) (row := none) (ke_)) : w.heap.size ≤ gb830) : w0.heap.size ≤ gb830)); have n6_ := Aside0.mk ((by rw [hg]; exact Nat.ne_of_lt (IsS102.lt (show IsS102 w0 _ g s0_0 s0_1 from is_HI0)) : g ≠ gb830)); have n7_ := Aside0.mk ((by rw [hg]; exact Nat.ne_of_gt (IsS102.lt (show IsS102 w0 _ g s0_0 s0_1 from is_HI0)) : gb830 ≠ g)); clear HI0; clear HK; clear HB; have HI0 := n0_; have HK := n1_; have HB := n2_; have BK830 := n3_; have GW830 := n4_; have GE830 := n5_; have NB0_830 := n6_; have NB830_0 := n7_; clear n0_ n1_ n2_ n3_ n4_ n5_ n6_ n7_; clear hb hbox hg) | ((with_reducible refine gate_callee (f := 91) rfl ?_); refine gl_ 7 Tryd.func91 #[.pointer (some ⟨g, 0, none⟩)] ?_; (with_reducible refine (spec_l71Id.calls k g s0_0 s0_1 t831 t832 w0 _ ?side1 ?side2 A2.out).mono ?_); (case side1 => exact is_HI0); (case side2 => exact bel_); rintro e w15 ⟨rfl, hi, hb, hk⟩; refine ⟨_, rfl, ?_⟩; replace BK830 := Aside0.mk (kb_ hk BK830.out NB830_0.out); replace HK := Aside0.mk (KeepBut.trans (kf_ HK.out) hk (.inl rfl)); replace HB := Aside0.mk (hb); replace HI0 := Aside0.mk (hi); (try clear hb hk hi)) | ((with_reducible refine gate_callee (f := 112) rfl ?_); refine gl_ 9 Tryd.func112 #[.pointer (some ⟨g, 0, none⟩)] ?_; (with_reducible refine (spec_l71Text.calls k g s0_0 t832 t833 t834 w0 _ ?side1 ?side2 A3.out).mono ?_); (case side1 => exact is_HI0); (case side2 => exact bel_); rintro e w16 ⟨rfl, hi, hb, hk⟩; refine ⟨_, rfl, ?_⟩; replace BK830 := Aside0.mk (kb_ hk BK830.out NB830_0.out); replace HK := Aside0.mk (KeepBut.trans (kf_ HK.out) hk (.inl rfl)); replace HB := Aside0.mk (hb); replace HI0 := Aside0.mk (hi); (try clear hb hk hi)) | ((with_reducible refine gate_dst (N := 3) rfl ?_); refine bx_ 3 (#[.int .i64 0, .int .i64 0, .int .i64 0, .int .i64 0, .string (⟨#[]⟩ : ByteArray)]) 27 ?_; intro gb835 hg w17 hbox hb; have n0_ := Aside0.mk (IsS102.below (is_HI0) hb); have n1_ := Aside0.mk (bb_ BK830.out hb); have n2_ := Aside0.mk (KeepBut.trans (kf_ HK.out) (KeepBut.of_below hb g none) (.inl rfl)); have n3_ := Aside0.mk (below_step (bel_) hb); have n4_ := Aside0.mk (hbox); have n5_ := Aside0.mk ((by rw [hg]; exact (keep_size (w := w) (g := g) (row := none) (kf_ HK.out)) : w.heap.size ≤ gb835)); have n6_ := Aside0.mk ((Nat.le_trans HW0.out (by rw [hg]; exact (keep_size (w := w) (g := g) (row := none) (kf_ HK.out)) : w.heap.size ≤ gb835) : w0.heap.size ≤ gb835)); have n7_ := Aside0.mk ((by rw [hg]; exact Nat.ne_of_lt (blk_lt (g := gb830) (o := .cells #[.int .i64 0, .int .i64 0, .int .i64 0, .int .i64 0, .string (⟨#[]⟩ : ByteArray)] 27 (0, 0)) (bp_ BK830.out)) : gb830 ≠ gb835)); have n8_ := Aside0.mk ((by rw [hg]; exact Nat.ne_of_gt (blk_lt (g := gb830) (o := .cells #[.int .i64 0, .int .i64 0, .int .i64 0, .int .i64 0, .string (⟨#[]⟩ : ByteArray)] 27 (0, 0)) (bp_ BK830.out)) : gb835 ≠ gb830)); have n9_ := Aside0.mk ((by rw [hg]; exact Nat.ne_of_lt (IsS102.lt (show IsS102 w0 _ g s0_0 t834 from is_HI0)) : g ≠ gb835)); have n10_ := Aside0.mk ((by rw [hg]; exact Nat.ne_of_gt (IsS102.lt (show IsS102 w0 _ g s0_0 t834 from is_HI0)) : gb835 ≠ g)); clear HI0; clear BK830; clear HK; clear HB; have HI0 := n0_; have BK830 := n1_; have HK := n2_; have HB := n3_; have BK835 := n4_; have GW835 := n5_; have GE835 := n6_; have NB830_835 := n7_; have NB835_830 := n8_; have NB0_835 := n9_; have NB835_0 := n10_; clear n0_ n1_ n2_ n3_ n4_ n5_ n6_ n7_ n8_ n9_ n10_; clear hb hbox hg; have hnb18 := NB835_830.out; have hnc18 := NB830_835.out; have hnb19 := NB835_0.out; have hnc19 := NB0_835.out; have hcz20_0 := cz_ BK835.out 0 (.int .i64 0); have hcz20_1 := cz_ BK835.out 1 (.int .i64 0); have hcz20_2 := cz_ BK835.out 2 (.int .i64 0); have hcz20_3 := cz_ BK835.out 3 (.int .i64 0); have hcz20_4 := cz_ BK835.out 4 (.string (⟨#[]⟩ : ByteArray)); have hfz20_0 := blk_frozen BK835.out 0; have hfz20_1 := blk_frozen BK835.out 1; have hfz20_2 := blk_frozen BK835.out 2; have hfz20_3 := blk_frozen BK835.out 3; have hfz20_4 := blk_frozen BK835.out 4) | ((with_reducible refine gate_callee (f := 91) rfl ?_); refine gl_ 12 Tryd.func91 #[.pointer (some ⟨g, 0, none⟩)] ?_; (with_reducible refine (spec_l71Id.calls k g s0_0 t834 t836 t837 w0 _ ?side1 ?side2 A4.out).mono ?_); (case side1 => exact is_HI0); (case side2 => exact bel_); rintro e w21 ⟨rfl, hi, hb, hk⟩; refine ⟨_, rfl, ?_⟩; have n0_ := Aside0.mk (KeepBut.blk hk (g' := gb830) (o := .cells #[.int .i64 0, .int .i64 0, .int .i64 0, .int .i64 0, .string (⟨#[]⟩ : ByteArray)] 27 (0, 0)) (by (with_reducible repeat (first | refine blk_drewN ?_ _ | refine blk_drew ?_ | refine blk_alloc ?_ _)); refine blk_far ?_ NB830_835.out _; (with_reducible repeat (first | refine blk_drewN ?_ _ | refine blk_drew ?_ | refine blk_alloc ?_ _)); refine blk_far ?_ NB830_835.out _; (with_reducible repeat (first | refine blk_drewN ?_ _ | refine blk_drew ?_ | refine blk_alloc ?_ _)); refine blk_far ?_ NB830_835.out _; (with_reducible repeat (first | refine blk_drewN ?_ _ | refine blk_drew ?_ | refine blk_alloc ?_ _)); refine blk_far ?_ NB830_835.out _; (with_reducible repeat (first | refine blk_drewN ?_ _ | refine blk_drew ?_ | refine blk_alloc ?_ _)); refine blk_far ?_ NB830_835.out _; (with_reducible repeat (first | refine blk_drewN ?_ _ | refine blk_drew ?_ | refine blk_alloc ?_ _)); exact BK830.out) NB830_0.out (by simp)); have n1_ := Aside0.mk (KeepBut.blk hk (g' := gb835) (o := .cells #[.int .i64 2, .int .i64 t831, .int .i64 0, .int .i64 0, .string t833] 27 (0, 0)) (by (with_reducible repeat (first | refine blk_drewN ?_ _ | refine blk_drew ?_ | refine blk_alloc ?_ _)); refine blk_put (cs := #[.int .i64 2, .int .i64 t831, .int .i64 0, .int .i64 0, .string (⟨#[]⟩ : ByteArray)]) ?_ 4 _ rfl; (with_reducible repeat (first | refine blk_drewN ?_ _ | refine blk_drew ?_ | refine blk_alloc ?_ _)); refine blk_put (cs := #[.int .i64 2, .int .i64 t831, .int .i64 0, .int .i64 0, .string (⟨#[]⟩ : ByteArray)]) ?_ 3 _ rfl; (with_reducible repeat (first | refine blk_drewN ?_ _ | refine blk_drew ?_ | refine blk_alloc ?_ _)); refine blk_put (cs := #[.int .i64 2, .int .i64 t831, .int .i64 0, .int .i64 0, .string (⟨#[]⟩ : ByteArray)]) ?_ 2 _ rfl; (with_reducible repeat (first | refine blk_drewN ?_ _ | refine blk_drew ?_ | refine blk_alloc ?_ _)); refine blk_put (cs := #[.int .i64 2, .int .i64 0, .int .i64 0, .int .i64 0, .string (⟨#[]⟩ : ByteArray)]) ?_ 1 _ rfl; (with_reducible repeat (first | refine blk_drewN ?_ _ | refine blk_drew ?_ | refine blk_alloc ?_ _)); refine blk_put (cs := #[.int .i64 0, .int .i64 0, .int .i64 0, .int .i64 0, .string (⟨#[]⟩ : ByteArray)]) ?_ 0 _ rfl; (with_reducible repeat (first | refine blk_drewN ?_ _ | refine blk_drew ?_ | refine blk_alloc ?_ _)); exact BK835.out) NB835_0.out (by simp)); have n2_ := Aside0.mk (KeepBut.trans (kf_ HK.out) hk (.inl rfl)); have n3_ := Aside0.mk (hb); have n4_ := Aside0.mk (hi); clear BK830; clear BK835; clear HK; clear HB; clear HI0; have BK830 := n0_; have BK835 := n1_; have HK := n2_; have HB := n3_; have HI0 := n4_; clear n0_ n1_ n2_ n3_ n4_; (try clear hb hk hi)) | ((with_reducible refine gate_dst (N := 13) rfl ?_); refine Kd.R_lit (Kd.int .i64) _ 3 ?hg (N := 13) ?hd (xs := ([1, 1, t836, 2, 3] : List Int)) (inner := [.int .i64 1, .int .i64 1, .int .i64 t836, .int .i64 2, .int .i64 3]) (ok := fun _ => True) (okp := fun _ => True) ?hr ?hp (fun _ hk => hk) trivial (Below.refl _ _) (Nat.le_refl _) (by simp) ?_; (case hd => rfl); (case hg => rfl); (case hr => first | (go_simp; done) | (go_simp; rfl)); (case hp => exact (Reps.one (show Kd.M (Kd.int .i64) _ _ _ 1 [.int .i64 1] from rfl) (Reps.one (show Kd.M (Kd.int .i64) _ _ _ 1 [.int .i64 1] from rfl) (Reps.one (show Kd.M (Kd.int .i64) _ _ _ t836 [.int .i64 t836] from rfl) (Reps.one (show Kd.M (Kd.int .i64) _ _ _ 2 [.int .i64 2] from rfl) (Reps.one (show Kd.M (Kd.int .i64) _ _ _ 3 [.int .i64 3] from rfl) (Reps.none _ _))))))); intro v839 w22 ho23 hb hg_ hnew_; clear hg_ hnew_; (first | rw [← Ny838.out] at ho23 | (simp only [Int.reduceToNat] at ho23; rw [← Ny838.out] at ho23)); have HO840 := Aside0.mk (Kd.R_lower ho23 (keep_size (w := w) (g := g) (row := none) (kf_ HK.out))); replace HK := Aside0.mk (KeepBut.trans (kf_ HK.out) (KeepBut.of_below hb g none) (.inl rfl)); replace HB := Aside0.mk (below_step (bel_) hb); replace HI0 := Aside0.mk (IsS102.below (is_HI0) hb); replace BK830 := Aside0.mk (bb_ BK830.out hb); replace BK835 := Aside0.mk (bb_ BK835.out hb); clear hb ho23) | ((with_reducible refine gate_callee (f := 73) rfl ?_); refine gl_ 15 Tryd.func73 #[.pointer (some ⟨g, 0, none⟩), .int .i64 5] ?_; (with_reducible refine (spec_l6Rd_pick.calls k g s0_0 t837 5 t841 t842 w0 _ ?side1 ?side2 A5.out).mono ?_); (case side1 => exact is_HI0); (case side2 => exact bel_); rintro e w24 ⟨rfl, hi, hb, hk⟩; refine ⟨_, rfl, ?_⟩; replace BK830 := Aside0.mk (kb_ hk BK830.out NB830_0.out); replace BK835 := Aside0.mk (kb_ hk BK835.out NB835_0.out); replace HO840 := Aside0.mk (Kd.R_mono (Kd.R_keep (IsS102.apart (show IsS102 w0 _ g s0_0 t837 from is_HI0) (rp_ HO840.out) (by decide)) hk (fun _ h => h.2)) (fun _ h => h.1)); replace HK := Aside0.mk (KeepBut.trans (kf_ HK.out) hk (.inl rfl)); replace HB := Aside0.mk (hb); replace HI0 := Aside0.mk (hi); (try clear hb hk hi); obtain ⟨Ao25, co25, eo25⟩ := Kd.R_slice HO840.out; subst eo25; have p843 : 0 ≤ (t841 : Int) := od_; have q843 : t841 < (y838.length : Int) := od_; obtain ⟨ad843, e843, hx843_0⟩ := Kd.at_int (Kd.R_reads' HO840.out).2.2 t841 p843 q843; cases e843; replace p843 := eq_true p843; replace q843 := eq_true q843) | ((with_reducible refine gate_callee (f := 91) rfl ?_); refine gl_ 19 Tryd.func91 #[.pointer (some ⟨g, 0, none⟩)] ?_; (with_reducible refine (spec_l71Id.calls k g s0_0 t842 t844 t845 w0 _ ?side1 ?side2 A8.out).mono ?_); (case side1 => exact is_HI0); (case side2 => exact bel_); rintro e w26 ⟨rfl, hi, hb, hk⟩; refine ⟨_, rfl, ?_⟩; replace BK830 := Aside0.mk (kb_ hk BK830.out NB830_0.out); replace BK835 := Aside0.mk (kb_ hk BK835.out NB835_0.out); replace HO840 := Aside0.mk (Kd.R_mono (Kd.R_keep (IsS102.apart (show IsS102 w0 _ g s0_0 t842 from is_HI0) (rp_ HO840.out) (by decide)) hk (fun _ h => h.2)) (fun _ h => h.1)); replace HK := Aside0.mk (KeepBut.trans (kf_ HK.out) hk (.inl rfl)); replace HB := Aside0.mk (hb); replace HI0 := Aside0.mk (hi); (try clear hb hk hi)) | ((with_reducible refine gate_dst (N := 20) rfl ?_); refine Kd.R_lit (Kd.int .i64) _ 3 ?hg (N := 20) ?hd (xs := ([0, t844] : List Int)) (inner := [.int .i64 0, .int .i64 t844]) (ok := fun _ => True) (okp := fun _ => True) ?hr ?hp (fun _ hk => hk) trivial (Below.refl _ _) (Nat.le_refl _) (by simp) ?_; (case hd => rfl); (case hg => rfl); (case hr => first | (go_simp; done) | (go_simp; rfl)); (case hp => exact (Reps.one (show Kd.M (Kd.int .i64) _ _ _ 0 [.int .i64 0] from rfl) (Reps.one (show Kd.M (Kd.int .i64) _ _ _ t844 [.int .i64 t844] from rfl) (Reps.none _ _)))); intro v847 w27 ho28 hb hg_ hnew_; clear hg_ hnew_; (first | rw [← Ny846.out] at ho28 | (simp only [Int.reduceToNat] at ho28; rw [← Ny846.out] at ho28)); have HO848 := Aside0.mk (Kd.R_lower (Kd.R_new' ho28 (Kd.R_lt (rp_ HO840.out))) (keep_size (w := w) (g := g) (row := none) (kf_ HK.out))); replace HO840 := Aside0.mk (Kd.R_elder' (rp_ HO840.out) (Kd.R_base ho28) hb); replace HK := Aside0.mk (KeepBut.trans (kf_ HK.out) (KeepBut.of_below hb g none) (.inl rfl)); replace HB := Aside0.mk (below_step (bel_) hb); replace HI0 := Aside0.mk (IsS102.below (is_HI0) hb); replace BK830 := Aside0.mk (bb_ BK830.out hb); replace BK835 := Aside0.mk (bb_ BK835.out hb); clear hb ho28) | ((with_reducible refine gate_callee (f := 73) rfl ?_); refine gl_ 22 Tryd.func73 #[.pointer (some ⟨g, 0, none⟩), .int .i64 2] ?_; (with_reducible refine (spec_l6Rd_pick.calls k g s0_0 t845 2 t849 t850 w0 _ ?side1 ?side2 A9.out).mono ?_); (case side1 => exact is_HI0); (case side2 => exact bel_); rintro e w29 ⟨rfl, hi, hb, hk⟩; refine ⟨_, rfl, ?_⟩; replace BK830 := Aside0.mk (kb_ hk BK830.out NB830_0.out); replace BK835 := Aside0.mk (kb_ hk BK835.out NB835_0.out); replace HO840 := Aside0.mk (Kd.R_mono (Kd.R_keep (IsS102.apart (show IsS102 w0 _ g s0_0 t845 from is_HI0) (rp_ HO840.out) (by decide)) hk (fun _ h => h.2)) (fun _ h => h.1)); replace HO848 := Aside0.mk (Kd.R_mono (Kd.R_keep (IsS102.apart (show IsS102 w0 _ g s0_0 t845 from is_HI0) (rp_ HO848.out) (by decide)) hk (fun _ h => h.2)) (fun _ h => h.1)); replace HK := Aside0.mk (KeepBut.trans (kf_ HK.out) hk (.inl rfl)); replace HB := Aside0.mk (hb); replace HI0 := Aside0.mk (hi); (try clear hb hk hi); obtain ⟨Ao30, co30, eo30⟩ := Kd.R_slice HO848.out; subst eo30; have p851 : 0 ≤ (t849 : Int) := od_; have q851 : t849 < (y846.length : Int) := od_; obtain ⟨ad851, e851, hx851_0⟩ := Kd.at_int (Kd.R_reads' HO848.out).2.2 t849 p851 q851; cases e851; replace p851 := eq_true p851; replace q851 := eq_true q851) | ((with_reducible refine gate_callee (f := 73) rfl ?_); refine gl_ 26 Tryd.func73 #[.pointer (some ⟨g, 0, none⟩), .int .i64 5] ?_; (with_reducible refine (spec_l6Rd_pick.calls k g s0_0 t850 5 t852 t853 w0 _ ?side1 ?side2 A12.out).mono ?_); (case side1 => exact is_HI0); (case side2 => exact bel_); rintro e w31 ⟨rfl, hi, hb, hk⟩; refine ⟨_, rfl, ?_⟩; replace BK830 := Aside0.mk (kb_ hk BK830.out NB830_0.out); replace BK835 := Aside0.mk (kb_ hk BK835.out NB835_0.out); replace HO840 := Aside0.mk (Kd.R_mono (Kd.R_keep (IsS102.apart (show IsS102 w0 _ g s0_0 t850 from is_HI0) (rp_ HO840.out) (by decide)) hk (fun _ h => h.2)) (fun _ h => h.1)); replace HO848 := Aside0.mk (Kd.R_mono (Kd.R_keep (IsS102.apart (show IsS102 w0 _ g s0_0 t850 from is_HI0) (rp_ HO848.out) (by decide)) hk (fun _ h => h.2)) (fun _ h => h.1)); replace HK := Aside0.mk (KeepBut.trans (kf_ HK.out) hk (.inl rfl)); replace HB := Aside0.mk (hb); replace HI0 := Aside0.mk (hi); (try clear hb hk hi)))
     (try simp only [Act.put, List.setIfInBounds_toArray, List.set_cons_zero, List.set_cons_succ])
     go_cut [] (fun wc => ∃ (kq : Nat) (x836000_12 : Int) (x836001_12 : Int) (x836002_12 : Int) (x836003_12 : Int) (x836004_12 : ByteArray), Aside0 (spec_l71Op.j1 kq s0_0 t853 x836000_12 x836001_12 x836002_12 x836003_12 x836004_12 = some (r1, r2, r3, r4, r5, r6)) ∧ Aside0 (kq ≤ k) ∧ Aside0 (wc.heap[gb830]? = some (.cells #[.int .i64 0, .int .i64 0, .int .i64 0, .int .i64 0, .string (⟨#[]⟩ : ByteArray)] 27 (0, 0))) ∧ Aside0 (wc.heap[gb835]? = some (.cells #[.int .i64 x836000_12, .int .i64 x836001_12, .int .i64 x836002_12, .int .i64 x836003_12, .string x836004_12] 27 (0, 0))) ∧ Aside0 (IsS102 w0 wc g s0_0 t853) ∧ Aside0 (KeepBut w wc g none) ∧ Aside0 (Below w0.heap.size w0 wc))
     case first =>
      have H := HC13.out
      clear HC13
      have HC32 := Aside0.mk H
      clear H
      go_upto_if 27 with (fail)
      go_cut [27] (fun v27 wc => ∃ (kq : Nat) (x27_31 : Bool), v27 = .bool x27_31 ∧ Aside0 (spec_l71Op.j0 kq (rd y838 t841) (rd y846 t849) t852 x27_31 s0_0 t853 2 t831 0 0 t833 = some (r1, r2, r3, r4, r5, r6)) ∧ Aside0 (kq ≤ k) ∧ Aside0 (wc.heap[gb830]? = some (.cells #[.int .i64 0, .int .i64 0, .int .i64 0, .int .i64 0, .string (⟨#[]⟩ : ByteArray)] 27 (0, 0))) ∧ Aside0 (wc.heap[gb835]? = some (.cells #[.int .i64 2, .int .i64 t831, .int .i64 0, .int .i64 0, .string t833] 27 (0, 0))) ∧ Aside0 (IsS102 w0 wc g s0_0 t853) ∧ Aside0 (KeepBut w wc g none) ∧ Aside0 (Below w0.heap.size w0 wc))
      case first =>
       have H := HC32.out
       clear HC32
       by_cases c33 : t852 = 0
       ·rw [if_pos c33] at H
        have c33b0 : (t852 == 0) = true := beq_iff_eq.mpr c33
        have c33b1 : (t852 != 0) = false := bne_eq_false_iff_eq.mpr c33
        clear c33
        (first | rw [c33b0] | (simp only [i64_w, i32_w]; rw [c33b0]) | skip)
        have H' := Aside0.mk H
        clear H
        go_wp2
        go_meet
        case rel => exact ⟨_, ((t852 == 0)), (si_), H', ⟨by first | omega | exact Nat.le_refl _⟩, ⟨by (with_reducible repeat (first | refine blk_drewN ?_ _ | refine blk_drew ?_ | refine blk_alloc ?_ _)); exact BK830.out⟩, ⟨by (with_reducible repeat (first | refine blk_drewN ?_ _ | refine blk_drew ?_ | refine blk_alloc ?_ _)); exact BK835.out⟩, ⟨is_HI0⟩, ⟨kf_ HK.out⟩, ⟨bel_⟩⟩
       ·rw [if_neg c33] at H
        have c33b0 : (t852 == 0) = false := beq_eq_false_iff_ne.mpr c33
        have c33b1 : (t852 != 0) = true := bne_iff_ne.mpr c33
        (first | rw [c33b0] | (simp only [i64_w, i32_w]; rw [c33b0]) | skip)
        have H' := Aside0.mk H
        clear H
        go_wp2
        go_meet
        case rel => exact ⟨_, ((t852 == 1)), (si_), H', ⟨by first | omega | exact Nat.le_refl _⟩, ⟨by (with_reducible repeat (first | refine blk_drewN ?_ _ | refine blk_drew ?_ | refine blk_alloc ?_ _)); exact BK830.out⟩, ⟨by (with_reducible repeat (first | refine blk_drewN ?_ _ | refine blk_drew ?_ | refine blk_alloc ?_ _)); exact BK835.out⟩, ⟨is_HI0⟩, ⟨kf_ HK.out⟩, ⟨bel_⟩⟩
      case rest =>
       clear HC32
       try clear c1
       try clear p2
       try clear c3
       try clear c6
       try clear c6b0
       try clear c7
       try clear c7b0
       try clear p8
       try clear q8
       try clear hx8
       try clear c9
       try clear c10
       try clear c10b0
       try clear c11
       try clear c11b0
       try clear c18
       try clear c19
       try clear c33
       try clear c33b0
       try clear c33b1
       try clear hcz20_0
       try clear hcz20_1
       try clear hcz20_2
       try clear hcz20_3
       try clear hcz20_4
       try clear hfz20_0
       try clear hfz20_1
       try clear hfz20_2
       try clear hfz20_3
       try clear hfz20_4
       try clear hx843_0
       try clear hx851_0
       try clear p843
       try clear p851
       try clear q843
       try clear q851
       obtain ⟨kq, x27_31, rfl, HA, HJ31, BK830, BK835, HI0, HK, HB⟩ := hcut
       cases kq with
       | zero => exact absurd HA.out (by simp [spec_l71Op.j0])
       | succ kj31 =>
        have H := HA.out
        clear HA
        simp only [spec_l71Op.j0] at H
        by_cases c34 : x27_31 = true
        ·subst c34
         have H1 : (spec_l71Op.j1 kj31 s0_0 t853 1 t831 (rd y838 t841) (rd y846 t849) t833) = some (r1, r2, r3, r4, r5, r6) := by rw [if_pos rfl] at H; exact H
         clear H
         have H := H1
         clear H1
         have H' := Aside0.mk H
         clear H
         have hnb35 := NB835_830.out
         have hnc35 := NB830_835.out
         have hnb36 := NB835_0.out
         have hnc36 := NB0_835.out
         have hcz37_0 : wc.cell? ⟨gb835, 0, none⟩ = some (.int .i64 2) := (blk_cell BK835.out 0).trans rfl
         have hcz37_1 : wc.cell? ⟨gb835, 1, none⟩ = some (.int .i64 t831) := (blk_cell BK835.out 1).trans rfl
         have hcz37_2 : wc.cell? ⟨gb835, 2, none⟩ = some (.int .i64 0) := (blk_cell BK835.out 2).trans rfl
         have hcz37_3 : wc.cell? ⟨gb835, 3, none⟩ = some (.int .i64 0) := (blk_cell BK835.out 3).trans rfl
         have hcz37_4 : wc.cell? ⟨gb835, 4, none⟩ = some (.string t833) := (blk_cell BK835.out 4).trans rfl
         have hfz37_0 := blk_frozen BK835.out 0
         have hfz37_1 := blk_frozen BK835.out 1
         have hfz37_2 := blk_frozen BK835.out 2
         have hfz37_3 := blk_frozen BK835.out 3
         have hfz37_4 := blk_frozen BK835.out 4
         go_wp2
         go_meet
         case rel => exact ⟨_, (1), (t831), ((rd y838 t841)), ((rd y846 t849)), (t833), H', ⟨by have := HJ31.out; first | omega | exact Nat.le_refl _⟩, ⟨by (with_reducible repeat (first | refine blk_drewN ?_ _ | refine blk_drew ?_ | refine blk_alloc ?_ _)); refine blk_far ?_ NB830_835.out _; (with_reducible repeat (first | refine blk_drewN ?_ _ | refine blk_drew ?_ | refine blk_alloc ?_ _)); refine blk_far ?_ NB830_835.out _; (with_reducible repeat (first | refine blk_drewN ?_ _ | refine blk_drew ?_ | refine blk_alloc ?_ _)); refine blk_far ?_ NB830_835.out _; (with_reducible repeat (first | refine blk_drewN ?_ _ | refine blk_drew ?_ | refine blk_alloc ?_ _)); refine blk_far ?_ NB830_835.out _; (with_reducible repeat (first | refine blk_drewN ?_ _ | refine blk_drew ?_ | refine blk_alloc ?_ _)); refine blk_far ?_ NB830_835.out _; (with_reducible repeat (first | refine blk_drewN ?_ _ | refine blk_drew ?_ | refine blk_alloc ?_ _)); exact BK830.out⟩, ⟨by (with_reducible repeat (first | refine blk_drewN ?_ _ | refine blk_drew ?_ | refine blk_alloc ?_ _)); refine blk_put (cs := #[.int .i64 1, .int .i64 t831, .int .i64 (rd y838 t841), .int .i64 (rd y846 t849), .string t833]) ?_ 4 _ rfl; (with_reducible repeat (first | refine blk_drewN ?_ _ | refine blk_drew ?_ | refine blk_alloc ?_ _)); refine blk_put (cs := #[.int .i64 1, .int .i64 t831, .int .i64 (rd y838 t841), .int .i64 0, .string t833]) ?_ 3 _ rfl; (with_reducible repeat (first | refine blk_drewN ?_ _ | refine blk_drew ?_ | refine blk_alloc ?_ _)); refine blk_put (cs := #[.int .i64 1, .int .i64 t831, .int .i64 0, .int .i64 0, .string t833]) ?_ 2 _ rfl; (with_reducible repeat (first | refine blk_drewN ?_ _ | refine blk_drew ?_ | refine blk_alloc ?_ _)); refine blk_put (cs := #[.int .i64 1, .int .i64 t831, .int .i64 0, .int .i64 0, .string t833]) ?_ 1 _ rfl; (with_reducible repeat (first | refine blk_drewN ?_ _ | refine blk_drew ?_ | refine blk_alloc ?_ _)); refine blk_put (cs := #[.int .i64 2, .int .i64 t831, .int .i64 0, .int .i64 0, .string t833]) ?_ 0 _ rfl; (with_reducible repeat (first | refine blk_drewN ?_ _ | refine blk_drew ?_ | refine blk_alloc ?_ _)); exact BK835.out⟩, ⟨is_HI0⟩, ⟨kf_ HK.out⟩, ⟨bel_⟩⟩
        ·replace c34 := Bool.eq_false_iff.mpr c34
         subst c34
         have H1 : (if t852 = 2 then (spec_l71Op.j1 kj31 s0_0 t853 3 t831 (rd y838 t841) (rd y846 t849) (⟨#[]⟩ : ByteArray)) else (if t852 = 3 then (spec_l71Op.j1 kj31 s0_0 t853 3 t831 (rd y838 t841) (rd y846 t849) (⟨#[]⟩ : ByteArray)) else (spec_l71Op.j1 kj31 s0_0 t853 2 t831 0 0 t833))) = some (r1, r2, r3, r4, r5, r6) := by rw [if_neg (show ¬ (false = true) by decide)] at H; exact H
         clear H
         have H := H1
         clear H1
         by_cases c38 : t852 = 2
         ·rw [if_pos c38] at H
          have c38b0 : (t852 == 2) = true := beq_iff_eq.mpr c38
          have c38b1 : (t852 != 2) = false := bne_eq_false_iff_eq.mpr c38
          clear c38
          have H' := Aside0.mk H
          clear H
          have hnb39 := NB835_830.out
          have hnc39 := NB830_835.out
          have hnb40 := NB835_0.out
          have hnc40 := NB0_835.out
          have hcz41_0 : wc.cell? ⟨gb835, 0, none⟩ = some (.int .i64 2) := (blk_cell BK835.out 0).trans rfl
          have hcz41_1 : wc.cell? ⟨gb835, 1, none⟩ = some (.int .i64 t831) := (blk_cell BK835.out 1).trans rfl
          have hcz41_2 : wc.cell? ⟨gb835, 2, none⟩ = some (.int .i64 0) := (blk_cell BK835.out 2).trans rfl
          have hcz41_3 : wc.cell? ⟨gb835, 3, none⟩ = some (.int .i64 0) := (blk_cell BK835.out 3).trans rfl
          have hcz41_4 : wc.cell? ⟨gb835, 4, none⟩ = some (.string t833) := (blk_cell BK835.out 4).trans rfl
          have hfz41_0 := blk_frozen BK835.out 0
          have hfz41_1 := blk_frozen BK835.out 1
          have hfz41_2 := blk_frozen BK835.out 2
          have hfz41_3 := blk_frozen BK835.out 3
          have hfz41_4 := blk_frozen BK835.out 4
          go_wp2
          go_meet
          case rel => exact ⟨_, (3), (t831), ((rd y838 t841)), ((rd y846 t849)), ((⟨#[]⟩ : ByteArray)), H', ⟨by have := HJ31.out; first | omega | exact Nat.le_refl _⟩, ⟨by (with_reducible repeat (first | refine blk_drewN ?_ _ | refine blk_drew ?_ | refine blk_alloc ?_ _)); refine blk_far ?_ NB830_835.out _; (with_reducible repeat (first | refine blk_drewN ?_ _ | refine blk_drew ?_ | refine blk_alloc ?_ _)); refine blk_far ?_ NB830_835.out _; (with_reducible repeat (first | refine blk_drewN ?_ _ | refine blk_drew ?_ | refine blk_alloc ?_ _)); refine blk_far ?_ NB830_835.out _; (with_reducible repeat (first | refine blk_drewN ?_ _ | refine blk_drew ?_ | refine blk_alloc ?_ _)); refine blk_far ?_ NB830_835.out _; (with_reducible repeat (first | refine blk_drewN ?_ _ | refine blk_drew ?_ | refine blk_alloc ?_ _)); refine blk_far ?_ NB830_835.out _; (with_reducible repeat (first | refine blk_drewN ?_ _ | refine blk_drew ?_ | refine blk_alloc ?_ _)); exact BK830.out⟩, ⟨by (with_reducible repeat (first | refine blk_drewN ?_ _ | refine blk_drew ?_ | refine blk_alloc ?_ _)); refine blk_put (cs := #[.int .i64 3, .int .i64 t831, .int .i64 (rd y838 t841), .int .i64 (rd y846 t849), .string t833]) ?_ 4 _ rfl; (with_reducible repeat (first | refine blk_drewN ?_ _ | refine blk_drew ?_ | refine blk_alloc ?_ _)); refine blk_put (cs := #[.int .i64 3, .int .i64 t831, .int .i64 (rd y838 t841), .int .i64 0, .string t833]) ?_ 3 _ rfl; (with_reducible repeat (first | refine blk_drewN ?_ _ | refine blk_drew ?_ | refine blk_alloc ?_ _)); refine blk_put (cs := #[.int .i64 3, .int .i64 t831, .int .i64 0, .int .i64 0, .string t833]) ?_ 2 _ rfl; (with_reducible repeat (first | refine blk_drewN ?_ _ | refine blk_drew ?_ | refine blk_alloc ?_ _)); refine blk_put (cs := #[.int .i64 3, .int .i64 t831, .int .i64 0, .int .i64 0, .string t833]) ?_ 1 _ rfl; (with_reducible repeat (first | refine blk_drewN ?_ _ | refine blk_drew ?_ | refine blk_alloc ?_ _)); refine blk_put (cs := #[.int .i64 2, .int .i64 t831, .int .i64 0, .int .i64 0, .string t833]) ?_ 0 _ rfl; (with_reducible repeat (first | refine blk_drewN ?_ _ | refine blk_drew ?_ | refine blk_alloc ?_ _)); exact BK835.out⟩, ⟨is_HI0⟩, ⟨kf_ HK.out⟩, ⟨bel_⟩⟩
         ·rw [if_neg c38] at H
          have c38b0 : (t852 == 2) = false := beq_eq_false_iff_ne.mpr c38
          have c38b1 : (t852 != 2) = true := bne_iff_ne.mpr c38
          by_cases c42 : t852 = 3
          ·rw [if_pos c42] at H
           have c42b0 : (t852 == 3) = true := beq_iff_eq.mpr c42
           have c42b1 : (t852 != 3) = false := bne_eq_false_iff_eq.mpr c42
           clear c42
           have H' := Aside0.mk H
           clear H
           have hnb43 := NB835_830.out
           have hnc43 := NB830_835.out
           have hnb44 := NB835_0.out
           have hnc44 := NB0_835.out
           have hcz45_0 : wc.cell? ⟨gb835, 0, none⟩ = some (.int .i64 2) := (blk_cell BK835.out 0).trans rfl
           have hcz45_1 : wc.cell? ⟨gb835, 1, none⟩ = some (.int .i64 t831) := (blk_cell BK835.out 1).trans rfl
           have hcz45_2 : wc.cell? ⟨gb835, 2, none⟩ = some (.int .i64 0) := (blk_cell BK835.out 2).trans rfl
           have hcz45_3 : wc.cell? ⟨gb835, 3, none⟩ = some (.int .i64 0) := (blk_cell BK835.out 3).trans rfl
           have hcz45_4 : wc.cell? ⟨gb835, 4, none⟩ = some (.string t833) := (blk_cell BK835.out 4).trans rfl
           have hfz45_0 := blk_frozen BK835.out 0
           have hfz45_1 := blk_frozen BK835.out 1
           have hfz45_2 := blk_frozen BK835.out 2
           have hfz45_3 := blk_frozen BK835.out 3
           have hfz45_4 := blk_frozen BK835.out 4
           go_wp2
           go_meet
           case rel => exact ⟨_, (3), (t831), ((rd y838 t841)), ((rd y846 t849)), ((⟨#[]⟩ : ByteArray)), H', ⟨by have := HJ31.out; first | omega | exact Nat.le_refl _⟩, ⟨by (with_reducible repeat (first | refine blk_drewN ?_ _ | refine blk_drew ?_ | refine blk_alloc ?_ _)); refine blk_far ?_ NB830_835.out _; (with_reducible repeat (first | refine blk_drewN ?_ _ | refine blk_drew ?_ | refine blk_alloc ?_ _)); refine blk_far ?_ NB830_835.out _; (with_reducible repeat (first | refine blk_drewN ?_ _ | refine blk_drew ?_ | refine blk_alloc ?_ _)); refine blk_far ?_ NB830_835.out _; (with_reducible repeat (first | refine blk_drewN ?_ _ | refine blk_drew ?_ | refine blk_alloc ?_ _)); refine blk_far ?_ NB830_835.out _; (with_reducible repeat (first | refine blk_drewN ?_ _ | refine blk_drew ?_ | refine blk_alloc ?_ _)); refine blk_far ?_ NB830_835.out _; (with_reducible repeat (first | refine blk_drewN ?_ _ | refine blk_drew ?_ | refine blk_alloc ?_ _)); exact BK830.out⟩, ⟨by (with_reducible repeat (first | refine blk_drewN ?_ _ | refine blk_drew ?_ | refine blk_alloc ?_ _)); refine blk_put (cs := #[.int .i64 3, .int .i64 t831, .int .i64 (rd y838 t841), .int .i64 (rd y846 t849), .string t833]) ?_ 4 _ rfl; (with_reducible repeat (first | refine blk_drewN ?_ _ | refine blk_drew ?_ | refine blk_alloc ?_ _)); refine blk_put (cs := #[.int .i64 3, .int .i64 t831, .int .i64 (rd y838 t841), .int .i64 0, .string t833]) ?_ 3 _ rfl; (with_reducible repeat (first | refine blk_drewN ?_ _ | refine blk_drew ?_ | refine blk_alloc ?_ _)); refine blk_put (cs := #[.int .i64 3, .int .i64 t831, .int .i64 0, .int .i64 0, .string t833]) ?_ 2 _ rfl; (with_reducible repeat (first | refine blk_drewN ?_ _ | refine blk_drew ?_ | refine blk_alloc ?_ _)); refine blk_put (cs := #[.int .i64 3, .int .i64 t831, .int .i64 0, .int .i64 0, .string t833]) ?_ 1 _ rfl; (with_reducible repeat (first | refine blk_drewN ?_ _ | refine blk_drew ?_ | refine blk_alloc ?_ _)); refine blk_put (cs := #[.int .i64 2, .int .i64 t831, .int .i64 0, .int .i64 0, .string t833]) ?_ 0 _ rfl; (with_reducible repeat (first | refine blk_drewN ?_ _ | refine blk_drew ?_ | refine blk_alloc ?_ _)); exact BK835.out⟩, ⟨is_HI0⟩, ⟨kf_ HK.out⟩, ⟨bel_⟩⟩
          ·rw [if_neg c42] at H
           have c42b0 : (t852 == 3) = false := beq_eq_false_iff_ne.mpr c42
           have c42b1 : (t852 != 3) = true := bne_iff_ne.mpr c42
           have H' := Aside0.mk H
           clear H
           go_wp2
           go_meet
           case rel => exact ⟨_, (2), (t831), (0), (0), (t833), H', ⟨by have := HJ31.out; first | omega | exact Nat.le_refl _⟩, ⟨by (with_reducible repeat (first | refine blk_drewN ?_ _ | refine blk_drew ?_ | refine blk_alloc ?_ _)); exact BK830.out⟩, ⟨by (with_reducible repeat (first | refine blk_drewN ?_ _ | refine blk_drew ?_ | refine blk_alloc ?_ _)); exact BK835.out⟩, ⟨is_HI0⟩, ⟨kf_ HK.out⟩, ⟨bel_⟩⟩
     case rest =>
      clear HC13
      try clear c1
      try clear p2
      try clear c3
      try clear c4
      try clear c6
      try clear c6b0
      try clear c7
      try clear c7b0
      try clear p8
      try clear q8
      try clear hx8
      try clear c9
      try clear c10
      try clear c10b0
      try clear c11
      try clear c11b0
      try clear c18
      try clear c19
      try clear c33
      try clear c33b0
      try clear c33b1
      try clear c34
      try clear c35
      try clear c36
      try clear c38
      try clear c38b0
      try clear c38b1
      try clear c39
      try clear c40
      try clear c42
      try clear c42b0
      try clear c42b1
      try clear c43
      try clear c44
      try clear hcz20_0
      try clear hcz20_1
      try clear hcz20_2
      try clear hcz20_3
      try clear hcz20_4
      try clear hcz37_0
      try clear hcz37_1
      try clear hcz37_2
      try clear hcz37_3
      try clear hcz37_4
      try clear hcz41_0
      try clear hcz41_1
      try clear hcz41_2
      try clear hcz41_3
      try clear hcz41_4
      try clear hcz45_0
      try clear hcz45_1
      try clear hcz45_2
      try clear hcz45_3
      try clear hcz45_4
      try clear hfz20_0
      try clear hfz20_1
      try clear hfz20_2
      try clear hfz20_3
      try clear hfz20_4
      try clear hfz37_0
      try clear hfz37_1
      try clear hfz37_2
      try clear hfz37_3
      try clear hfz37_4
      try clear hfz41_0
      try clear hfz41_1
      try clear hfz41_2
      try clear hfz41_3
      try clear hfz41_4
      try clear hfz45_0
      try clear hfz45_1
      try clear hfz45_2
      try clear hfz45_3
      try clear hfz45_4
      try clear hx843_0
      try clear hx851_0
      try clear p2
      try clear p8
      try clear p843
      try clear p851
      try clear q8
      try clear q843
      try clear q851
      obtain ⟨kq, x836000_12, x836001_12, x836002_12, x836003_12, x836004_12, HA, HJ12, BK830, BK835, HI0, HK, HB⟩ := hcut
      cases kq with
      | zero => exact absurd HA.out (by simp [spec_l71Op.j1])
      | succ kj12 =>
       have H := HA.out
       clear HA
       simp only [spec_l71Op.j1] at H
       replace H := Option.bind_eq_some_iff.mp H
       obtain ⟨⟨t854, t855⟩, A460, H⟩ := H
       try dsimp only at H
       have A46 := Aside0.mk A460
       clear A460
       by_cases c47 : t854 = 0
       ·rw [if_pos c47] at H
        have c47b0 : (t854 == 0) = true := beq_iff_eq.mpr c47
        have c47b1 : (t854 != 0) = false := bne_eq_false_iff_eq.mpr c47
        clear c47
        replace H := Option.bind_eq_some_iff.mp H
        obtain ⟨⟨t856, t857⟩, A480, H⟩ := H
        try dsimp only at H
        have A48 := Aside0.mk A480
        clear A480
        simp only [Option.some.injEq, Prod.mk.injEq] at H
        obtain ⟨rfl, rfl, rfl, rfl, rfl, rfl⟩ := H
        go_wp2_with (first | ((with_reducible refine gate_callee (f := 73) rfl ?_); refine gl_ 46 Tryd.func73 #[.pointer (some ⟨g, 0, none⟩), .int .i64 30] ?_; (with_reducible refine (spec_l6Rd_pick.calls kj12 g s0_0 t853 30 t854 t855 w0 _ ?side1 ?side2 A46.out).mono ?_); (case side1 => exact is_HI0); (case side2 => exact bel_); rintro e w49 ⟨rfl, hi, hb, hk⟩; refine ⟨_, rfl, ?_⟩; replace BK830 := Aside0.mk (kb_ hk BK830.out NB830_0.out); replace BK835 := Aside0.mk (kb_ hk BK835.out NB835_0.out); replace HK := Aside0.mk (KeepBut.trans (kf_ HK.out) hk (.inl rfl)); replace HB := Aside0.mk (hb); replace HI0 := Aside0.mk (hi); (try clear hb hk hi)) | ((with_reducible refine gate_callee (f := 73) rfl ?_); refine gl_ 50 Tryd.func73 #[.pointer (some ⟨g, 0, none⟩), .int .i64 5] ?_; (with_reducible refine (spec_l6Rd_pick.calls kj12 g s0_0 t855 5 t856 t857 w0 _ ?side1 ?side2 A48.out).mono ?_); (case side1 => exact is_HI0); (case side2 => exact bel_); rintro e w50 ⟨rfl, hi, hb, hk⟩; refine ⟨_, rfl, ?_⟩; replace BK830 := Aside0.mk (kb_ hk BK830.out NB830_0.out); replace BK835 := Aside0.mk (kb_ hk BK835.out NB835_0.out); replace HK := Aside0.mk (KeepBut.trans (kf_ HK.out) hk (.inl rfl)); replace HB := Aside0.mk (hb); replace HI0 := Aside0.mk (hi); (try clear hb hk hi); have hnb51 := NB835_830.out; have hnc51 := NB830_835.out; have hnb52 := NB835_0.out; have hnc52 := NB0_835.out; have hcz53_0 := cz_ BK835.out 0 (.int .i64 x836000_12); have hcz53_1 := cz_ BK835.out 1 (.int .i64 x836001_12); have hcz53_2 := cz_ BK835.out 2 (.int .i64 x836002_12); have hcz53_3 := cz_ BK835.out 3 (.int .i64 x836003_12); have hcz53_4 := cz_ BK835.out 4 (.string x836004_12); have hfz53_0 := blk_frozen BK835.out 0; have hfz53_1 := blk_frozen BK835.out 1; have hfz53_2 := blk_frozen BK835.out 2; have hfz53_3 := blk_frozen BK835.out 3; have hfz53_4 := blk_frozen BK835.out 4; have hnb54 := NB830_0.out; have hnc54 := NB0_830.out; have hcz55_0 := cz_ BK830.out 0 (.int .i64 0); have hcz55_1 := cz_ BK830.out 1 (.int .i64 0); have hcz55_2 := cz_ BK830.out 2 (.int .i64 0); have hcz55_3 := cz_ BK830.out 3 (.int .i64 0); have hcz55_4 := cz_ BK830.out 4 (.string (⟨#[]⟩ : ByteArray)); have hfz55_0 := blk_frozen BK830.out 0; have hfz55_1 := blk_frozen BK830.out 1; have hfz55_2 := blk_frozen BK830.out 2; have hfz55_3 := blk_frozen BK830.out 3; have hfz55_4 := blk_frozen BK830.out 4))
        refine bodyPost_ret (results_cell_row rfl _ _ gb830 27 #[.int .i64 t856, .int .i64 x836001_12, .int .i64 x836002_12, .int .i64 x836003_12, .string x836004_12] (0, 0) _ rfl (by (with_reducible repeat (first | refine blk_drewN ?_ _ | refine blk_drew ?_ | refine blk_alloc ?_ _)); refine blk_put (cs := #[.int .i64 t856, .int .i64 x836001_12, .int .i64 x836002_12, .int .i64 x836003_12, .string (⟨#[]⟩ : ByteArray)]) ?_ 4 _ rfl; (with_reducible repeat (first | refine blk_drewN ?_ _ | refine blk_drew ?_ | refine blk_alloc ?_ _)); refine blk_put (cs := #[.int .i64 t856, .int .i64 x836001_12, .int .i64 x836002_12, .int .i64 0, .string (⟨#[]⟩ : ByteArray)]) ?_ 3 _ rfl; (with_reducible repeat (first | refine blk_drewN ?_ _ | refine blk_drew ?_ | refine blk_alloc ?_ _)); refine blk_put (cs := #[.int .i64 t856, .int .i64 x836001_12, .int .i64 0, .int .i64 0, .string (⟨#[]⟩ : ByteArray)]) ?_ 2 _ rfl; (with_reducible repeat (first | refine blk_drewN ?_ _ | refine blk_drew ?_ | refine blk_alloc ?_ _)); refine blk_put (cs := #[.int .i64 t856, .int .i64 0, .int .i64 0, .int .i64 0, .string (⟨#[]⟩ : ByteArray)]) ?_ 1 _ rfl; (with_reducible repeat (first | refine blk_drewN ?_ _ | refine blk_drew ?_ | refine blk_alloc ?_ _)); refine blk_put (cs := #[.int .i64 0, .int .i64 0, .int .i64 0, .int .i64 0, .string (⟨#[]⟩ : ByteArray)]) ?_ 0 _ rfl; (with_reducible repeat (first | refine blk_drewN ?_ _ | refine blk_drew ?_ | refine blk_alloc ?_ _)); refine blk_far ?_ NB830_835.out _; (with_reducible repeat (first | refine blk_drewN ?_ _ | refine blk_drew ?_ | refine blk_alloc ?_ _)); exact BK830.out) Tryd.underlying27 rfl (by kernel_rfl)) rfl ?_
        exact ⟨fi_, is_HI0, bel_, kf_ HK.out⟩
       ·rw [if_neg c47] at H
        have c47b0 : (t854 == 0) = false := beq_eq_false_iff_ne.mpr c47
        have c47b1 : (t854 != 0) = true := bne_iff_ne.mpr c47
        by_cases c56 : t854 = 1
        ·rw [if_pos c56] at H
         have c56b0 : (t854 == 1) = true := beq_iff_eq.mpr c56
         have c56b1 : (t854 != 1) = false := bne_eq_false_iff_eq.mpr c56
         clear c56
         replace H := Option.bind_eq_some_iff.mp H
         obtain ⟨⟨t858, t859⟩, A570, H⟩ := H
         try dsimp only at H
         have A57 := Aside0.mk A570
         clear A570
         simp only [Option.some.injEq, Prod.mk.injEq] at H
         obtain ⟨rfl, rfl, rfl, rfl, rfl, rfl⟩ := H
         go_wp2_with (first | ((with_reducible refine gate_callee (f := 73) rfl ?_); refine gl_ 46 Tryd.func73 #[.pointer (some ⟨g, 0, none⟩), .int .i64 30] ?_; (with_reducible refine (spec_l6Rd_pick.calls kj12 g s0_0 t853 30 t854 t855 w0 _ ?side1 ?side2 A46.out).mono ?_); (case side1 => exact is_HI0); (case side2 => exact bel_); rintro e w58 ⟨rfl, hi, hb, hk⟩; refine ⟨_, rfl, ?_⟩; replace BK830 := Aside0.mk (kb_ hk BK830.out NB830_0.out); replace BK835 := Aside0.mk (kb_ hk BK835.out NB835_0.out); replace HK := Aside0.mk (KeepBut.trans (kf_ HK.out) hk (.inl rfl)); replace HB := Aside0.mk (hb); replace HI0 := Aside0.mk (hi); (try clear hb hk hi)) | ((with_reducible refine gate_callee (f := 73) rfl ?_); refine gl_ 55 Tryd.func73 #[.pointer (some ⟨g, 0, none⟩), .int .i64 50] ?_; (with_reducible refine (spec_l6Rd_pick.calls kj12 g s0_0 t855 50 t858 t859 w0 _ ?side1 ?side2 A57.out).mono ?_); (case side1 => exact is_HI0); (case side2 => exact bel_); rintro e w59 ⟨rfl, hi, hb, hk⟩; refine ⟨_, rfl, ?_⟩; replace BK830 := Aside0.mk (kb_ hk BK830.out NB830_0.out); replace BK835 := Aside0.mk (kb_ hk BK835.out NB835_0.out); replace HK := Aside0.mk (KeepBut.trans (kf_ HK.out) hk (.inl rfl)); replace HB := Aside0.mk (hb); replace HI0 := Aside0.mk (hi); (try clear hb hk hi); have hnb60 := NB835_830.out; have hnc60 := NB830_835.out; have hnb61 := NB835_0.out; have hnc61 := NB0_835.out; have hcz62_0 := cz_ BK835.out 0 (.int .i64 x836000_12); have hcz62_1 := cz_ BK835.out 1 (.int .i64 x836001_12); have hcz62_2 := cz_ BK835.out 2 (.int .i64 x836002_12); have hcz62_3 := cz_ BK835.out 3 (.int .i64 x836003_12); have hcz62_4 := cz_ BK835.out 4 (.string x836004_12); have hfz62_0 := blk_frozen BK835.out 0; have hfz62_1 := blk_frozen BK835.out 1; have hfz62_2 := blk_frozen BK835.out 2; have hfz62_3 := blk_frozen BK835.out 3; have hfz62_4 := blk_frozen BK835.out 4; have hnb63 := NB830_0.out; have hnc63 := NB0_830.out; have hcz64_0 := cz_ BK830.out 0 (.int .i64 0); have hcz64_1 := cz_ BK830.out 1 (.int .i64 0); have hcz64_2 := cz_ BK830.out 2 (.int .i64 0); have hcz64_3 := cz_ BK830.out 3 (.int .i64 0); have hcz64_4 := cz_ BK830.out 4 (.string (⟨#[]⟩ : ByteArray)); have hfz64_0 := blk_frozen BK830.out 0; have hfz64_1 := blk_frozen BK830.out 1; have hfz64_2 := blk_frozen BK830.out 2; have hfz64_3 := blk_frozen BK830.out 3; have hfz64_4 := blk_frozen BK830.out 4))
         refine bodyPost_ret (results_cell_row rfl _ _ gb830 27 #[.int .i64 x836000_12, .int .i64 t858, .int .i64 x836002_12, .int .i64 x836003_12, .string x836004_12] (0, 0) _ rfl (by (with_reducible repeat (first | refine blk_drewN ?_ _ | refine blk_drew ?_ | refine blk_alloc ?_ _)); refine blk_put (cs := #[.int .i64 x836000_12, .int .i64 t858, .int .i64 x836002_12, .int .i64 x836003_12, .string (⟨#[]⟩ : ByteArray)]) ?_ 4 _ rfl; (with_reducible repeat (first | refine blk_drewN ?_ _ | refine blk_drew ?_ | refine blk_alloc ?_ _)); refine blk_put (cs := #[.int .i64 x836000_12, .int .i64 t858, .int .i64 x836002_12, .int .i64 0, .string (⟨#[]⟩ : ByteArray)]) ?_ 3 _ rfl; (with_reducible repeat (first | refine blk_drewN ?_ _ | refine blk_drew ?_ | refine blk_alloc ?_ _)); refine blk_put (cs := #[.int .i64 x836000_12, .int .i64 t858, .int .i64 0, .int .i64 0, .string (⟨#[]⟩ : ByteArray)]) ?_ 2 _ rfl; (with_reducible repeat (first | refine blk_drewN ?_ _ | refine blk_drew ?_ | refine blk_alloc ?_ _)); refine blk_put (cs := #[.int .i64 x836000_12, .int .i64 0, .int .i64 0, .int .i64 0, .string (⟨#[]⟩ : ByteArray)]) ?_ 1 _ rfl; (with_reducible repeat (first | refine blk_drewN ?_ _ | refine blk_drew ?_ | refine blk_alloc ?_ _)); refine blk_put (cs := #[.int .i64 0, .int .i64 0, .int .i64 0, .int .i64 0, .string (⟨#[]⟩ : ByteArray)]) ?_ 0 _ rfl; (with_reducible repeat (first | refine blk_drewN ?_ _ | refine blk_drew ?_ | refine blk_alloc ?_ _)); refine blk_far ?_ NB830_835.out _; (with_reducible repeat (first | refine blk_drewN ?_ _ | refine blk_drew ?_ | refine blk_alloc ?_ _)); exact BK830.out) Tryd.underlying27 rfl (by kernel_rfl)) rfl ?_
         exact ⟨fi_, is_HI0, bel_, kf_ HK.out⟩
        ·rw [if_neg c56] at H
         have c56b0 : (t854 == 1) = false := beq_eq_false_iff_ne.mpr c56
         have c56b1 : (t854 != 1) = true := bne_iff_ne.mpr c56
         by_cases c65 : t854 = 2
         ·rw [if_pos c65] at H
          have c65b0 : (t854 == 2) = true := beq_iff_eq.mpr c65
          have c65b1 : (t854 != 2) = false := bne_eq_false_iff_eq.mpr c65
          clear c65
          replace H := Option.bind_eq_some_iff.mp H
          obtain ⟨⟨t860, t861⟩, A660, H⟩ := H
          try dsimp only at H
          have A66 := Aside0.mk A660
          clear A660
          simp only [Option.some.injEq, Prod.mk.injEq] at H
          obtain ⟨rfl, rfl, rfl, rfl, rfl, rfl⟩ := H
          go_wp2_with (first | ((with_reducible refine gate_callee (f := 73) rfl ?_); refine gl_ 46 Tryd.func73 #[.pointer (some ⟨g, 0, none⟩), .int .i64 30] ?_; (with_reducible refine (spec_l6Rd_pick.calls kj12 g s0_0 t853 30 t854 t855 w0 _ ?side1 ?side2 A46.out).mono ?_); (case side1 => exact is_HI0); (case side2 => exact bel_); rintro e w67 ⟨rfl, hi, hb, hk⟩; refine ⟨_, rfl, ?_⟩; replace BK830 := Aside0.mk (kb_ hk BK830.out NB830_0.out); replace BK835 := Aside0.mk (kb_ hk BK835.out NB835_0.out); replace HK := Aside0.mk (KeepBut.trans (kf_ HK.out) hk (.inl rfl)); replace HB := Aside0.mk (hb); replace HI0 := Aside0.mk (hi); (try clear hb hk hi)) | ((with_reducible refine gate_callee (f := 73) rfl ?_); refine gl_ 60 Tryd.func73 #[.pointer (some ⟨g, 0, none⟩), .int .i64 50] ?_; (with_reducible refine (spec_l6Rd_pick.calls kj12 g s0_0 t855 50 t860 t861 w0 _ ?side1 ?side2 A66.out).mono ?_); (case side1 => exact is_HI0); (case side2 => exact bel_); rintro e w68 ⟨rfl, hi, hb, hk⟩; refine ⟨_, rfl, ?_⟩; replace BK830 := Aside0.mk (kb_ hk BK830.out NB830_0.out); replace BK835 := Aside0.mk (kb_ hk BK835.out NB835_0.out); replace HK := Aside0.mk (KeepBut.trans (kf_ HK.out) hk (.inl rfl)); replace HB := Aside0.mk (hb); replace HI0 := Aside0.mk (hi); (try clear hb hk hi); have hnb69 := NB835_830.out; have hnc69 := NB830_835.out; have hnb70 := NB835_0.out; have hnc70 := NB0_835.out; have hcz71_0 := cz_ BK835.out 0 (.int .i64 x836000_12); have hcz71_1 := cz_ BK835.out 1 (.int .i64 x836001_12); have hcz71_2 := cz_ BK835.out 2 (.int .i64 x836002_12); have hcz71_3 := cz_ BK835.out 3 (.int .i64 x836003_12); have hcz71_4 := cz_ BK835.out 4 (.string x836004_12); have hfz71_0 := blk_frozen BK835.out 0; have hfz71_1 := blk_frozen BK835.out 1; have hfz71_2 := blk_frozen BK835.out 2; have hfz71_3 := blk_frozen BK835.out 3; have hfz71_4 := blk_frozen BK835.out 4; have hnb72 := NB830_0.out; have hnc72 := NB0_830.out; have hcz73_0 := cz_ BK830.out 0 (.int .i64 0); have hcz73_1 := cz_ BK830.out 1 (.int .i64 0); have hcz73_2 := cz_ BK830.out 2 (.int .i64 0); have hcz73_3 := cz_ BK830.out 3 (.int .i64 0); have hcz73_4 := cz_ BK830.out 4 (.string (⟨#[]⟩ : ByteArray)); have hfz73_0 := blk_frozen BK830.out 0; have hfz73_1 := blk_frozen BK830.out 1; have hfz73_2 := blk_frozen BK830.out 2; have hfz73_3 := blk_frozen BK830.out 3; have hfz73_4 := blk_frozen BK830.out 4))
          refine bodyPost_ret (results_cell_row rfl _ _ gb830 27 #[.int .i64 x836000_12, .int .i64 x836001_12, .int .i64 t860, .int .i64 x836003_12, .string x836004_12] (0, 0) _ rfl (by (with_reducible repeat (first | refine blk_drewN ?_ _ | refine blk_drew ?_ | refine blk_alloc ?_ _)); refine blk_put (cs := #[.int .i64 x836000_12, .int .i64 x836001_12, .int .i64 t860, .int .i64 x836003_12, .string (⟨#[]⟩ : ByteArray)]) ?_ 4 _ rfl; (with_reducible repeat (first | refine blk_drewN ?_ _ | refine blk_drew ?_ | refine blk_alloc ?_ _)); refine blk_put (cs := #[.int .i64 x836000_12, .int .i64 x836001_12, .int .i64 t860, .int .i64 0, .string (⟨#[]⟩ : ByteArray)]) ?_ 3 _ rfl; (with_reducible repeat (first | refine blk_drewN ?_ _ | refine blk_drew ?_ | refine blk_alloc ?_ _)); refine blk_put (cs := #[.int .i64 x836000_12, .int .i64 x836001_12, .int .i64 0, .int .i64 0, .string (⟨#[]⟩ : ByteArray)]) ?_ 2 _ rfl; (with_reducible repeat (first | refine blk_drewN ?_ _ | refine blk_drew ?_ | refine blk_alloc ?_ _)); refine blk_put (cs := #[.int .i64 x836000_12, .int .i64 0, .int .i64 0, .int .i64 0, .string (⟨#[]⟩ : ByteArray)]) ?_ 1 _ rfl; (with_reducible repeat (first | refine blk_drewN ?_ _ | refine blk_drew ?_ | refine blk_alloc ?_ _)); refine blk_put (cs := #[.int .i64 0, .int .i64 0, .int .i64 0, .int .i64 0, .string (⟨#[]⟩ : ByteArray)]) ?_ 0 _ rfl; (with_reducible repeat (first | refine blk_drewN ?_ _ | refine blk_drew ?_ | refine blk_alloc ?_ _)); refine blk_far ?_ NB830_835.out _; (with_reducible repeat (first | refine blk_drewN ?_ _ | refine blk_drew ?_ | refine blk_alloc ?_ _)); exact BK830.out) Tryd.underlying27 rfl (by kernel_rfl)) rfl ?_
          exact ⟨fi_, is_HI0, bel_, kf_ HK.out⟩
         ·rw [if_neg c65] at H
          have c65b0 : (t854 == 2) = false := beq_eq_false_iff_ne.mpr c65
          have c65b1 : (t854 != 2) = true := bne_iff_ne.mpr c65
          by_cases c74 : t854 = 3
          ·rw [if_pos c74] at H
           have c74b0 : (t854 == 3) = true := beq_iff_eq.mpr c74
           have c74b1 : (t854 != 3) = false := bne_eq_false_iff_eq.mpr c74
           clear c74
           replace H := Option.bind_eq_some_iff.mp H
           obtain ⟨⟨t862, t863⟩, A750, H⟩ := H
           try dsimp only at H
           have A75 := Aside0.mk A750
           clear A750
           simp only [Option.some.injEq, Prod.mk.injEq] at H
           obtain ⟨rfl, rfl, rfl, rfl, rfl, rfl⟩ := H
           go_wp2_with (first | ((with_reducible refine gate_callee (f := 73) rfl ?_); refine gl_ 46 Tryd.func73 #[.pointer (some ⟨g, 0, none⟩), .int .i64 30] ?_; (with_reducible refine (spec_l6Rd_pick.calls kj12 g s0_0 t853 30 t854 t855 w0 _ ?side1 ?side2 A46.out).mono ?_); (case side1 => exact is_HI0); (case side2 => exact bel_); rintro e w76 ⟨rfl, hi, hb, hk⟩; refine ⟨_, rfl, ?_⟩; replace BK830 := Aside0.mk (kb_ hk BK830.out NB830_0.out); replace BK835 := Aside0.mk (kb_ hk BK835.out NB835_0.out); replace HK := Aside0.mk (KeepBut.trans (kf_ HK.out) hk (.inl rfl)); replace HB := Aside0.mk (hb); replace HI0 := Aside0.mk (hi); (try clear hb hk hi)) | ((with_reducible refine gate_callee (f := 73) rfl ?_); refine gl_ 65 Tryd.func73 #[.pointer (some ⟨g, 0, none⟩), .int .i64 50] ?_; (with_reducible refine (spec_l6Rd_pick.calls kj12 g s0_0 t855 50 t862 t863 w0 _ ?side1 ?side2 A75.out).mono ?_); (case side1 => exact is_HI0); (case side2 => exact bel_); rintro e w77 ⟨rfl, hi, hb, hk⟩; refine ⟨_, rfl, ?_⟩; replace BK830 := Aside0.mk (kb_ hk BK830.out NB830_0.out); replace BK835 := Aside0.mk (kb_ hk BK835.out NB835_0.out); replace HK := Aside0.mk (KeepBut.trans (kf_ HK.out) hk (.inl rfl)); replace HB := Aside0.mk (hb); replace HI0 := Aside0.mk (hi); (try clear hb hk hi); have hnb78 := NB835_830.out; have hnc78 := NB830_835.out; have hnb79 := NB835_0.out; have hnc79 := NB0_835.out; have hcz80_0 := cz_ BK835.out 0 (.int .i64 x836000_12); have hcz80_1 := cz_ BK835.out 1 (.int .i64 x836001_12); have hcz80_2 := cz_ BK835.out 2 (.int .i64 x836002_12); have hcz80_3 := cz_ BK835.out 3 (.int .i64 x836003_12); have hcz80_4 := cz_ BK835.out 4 (.string x836004_12); have hfz80_0 := blk_frozen BK835.out 0; have hfz80_1 := blk_frozen BK835.out 1; have hfz80_2 := blk_frozen BK835.out 2; have hfz80_3 := blk_frozen BK835.out 3; have hfz80_4 := blk_frozen BK835.out 4; have hnb81 := NB830_0.out; have hnc81 := NB0_830.out; have hcz82_0 := cz_ BK830.out 0 (.int .i64 0); have hcz82_1 := cz_ BK830.out 1 (.int .i64 0); have hcz82_2 := cz_ BK830.out 2 (.int .i64 0); have hcz82_3 := cz_ BK830.out 3 (.int .i64 0); have hcz82_4 := cz_ BK830.out 4 (.string (⟨#[]⟩ : ByteArray)); have hfz82_0 := blk_frozen BK830.out 0; have hfz82_1 := blk_frozen BK830.out 1; have hfz82_2 := blk_frozen BK830.out 2; have hfz82_3 := blk_frozen BK830.out 3; have hfz82_4 := blk_frozen BK830.out 4))
           refine bodyPost_ret (results_cell_row rfl _ _ gb830 27 #[.int .i64 x836000_12, .int .i64 x836001_12, .int .i64 x836002_12, .int .i64 t862, .string x836004_12] (0, 0) _ rfl (by (with_reducible repeat (first | refine blk_drewN ?_ _ | refine blk_drew ?_ | refine blk_alloc ?_ _)); refine blk_put (cs := #[.int .i64 x836000_12, .int .i64 x836001_12, .int .i64 x836002_12, .int .i64 t862, .string (⟨#[]⟩ : ByteArray)]) ?_ 4 _ rfl; (with_reducible repeat (first | refine blk_drewN ?_ _ | refine blk_drew ?_ | refine blk_alloc ?_ _)); refine blk_put (cs := #[.int .i64 x836000_12, .int .i64 x836001_12, .int .i64 x836002_12, .int .i64 0, .string (⟨#[]⟩ : ByteArray)]) ?_ 3 _ rfl; (with_reducible repeat (first | refine blk_drewN ?_ _ | refine blk_drew ?_ | refine blk_alloc ?_ _)); refine blk_put (cs := #[.int .i64 x836000_12, .int .i64 x836001_12, .int .i64 0, .int .i64 0, .string (⟨#[]⟩ : ByteArray)]) ?_ 2 _ rfl; (with_reducible repeat (first | refine blk_drewN ?_ _ | refine blk_drew ?_ | refine blk_alloc ?_ _)); refine blk_put (cs := #[.int .i64 x836000_12, .int .i64 0, .int .i64 0, .int .i64 0, .string (⟨#[]⟩ : ByteArray)]) ?_ 1 _ rfl; (with_reducible repeat (first | refine blk_drewN ?_ _ | refine blk_drew ?_ | refine blk_alloc ?_ _)); refine blk_put (cs := #[.int .i64 0, .int .i64 0, .int .i64 0, .int .i64 0, .string (⟨#[]⟩ : ByteArray)]) ?_ 0 _ rfl; (with_reducible repeat (first | refine blk_drewN ?_ _ | refine blk_drew ?_ | refine blk_alloc ?_ _)); refine blk_far ?_ NB830_835.out _; (with_reducible repeat (first | refine blk_drewN ?_ _ | refine blk_drew ?_ | refine blk_alloc ?_ _)); exact BK830.out) Tryd.underlying27 rfl (by kernel_rfl)) rfl ?_
           exact ⟨fi_, is_HI0, bel_, kf_ HK.out⟩
          ·rw [if_neg c74] at H
           have c74b0 : (t854 == 3) = false := beq_eq_false_iff_ne.mpr c74
           have c74b1 : (t854 != 3) = true := bne_iff_ne.mpr c74
           simp only [Option.some.injEq, Prod.mk.injEq] at H
           obtain ⟨rfl, rfl, rfl, rfl, rfl, rfl⟩ := H
           go_wp2_with (first | ((with_reducible refine gate_callee (f := 73) rfl ?_); refine gl_ 46 Tryd.func73 #[.pointer (some ⟨g, 0, none⟩), .int .i64 30] ?_; (with_reducible refine (spec_l6Rd_pick.calls kj12 g s0_0 t853 30 t854 t855 w0 _ ?side1 ?side2 A46.out).mono ?_); (case side1 => exact is_HI0); (case side2 => exact bel_); rintro e w83 ⟨rfl, hi, hb, hk⟩; refine ⟨_, rfl, ?_⟩; replace BK830 := Aside0.mk (kb_ hk BK830.out NB830_0.out); replace BK835 := Aside0.mk (kb_ hk BK835.out NB835_0.out); replace HK := Aside0.mk (KeepBut.trans (kf_ HK.out) hk (.inl rfl)); replace HB := Aside0.mk (hb); replace HI0 := Aside0.mk (hi); (try clear hb hk hi); have hnb84 := NB835_830.out; have hnc84 := NB830_835.out; have hnb85 := NB835_0.out; have hnc85 := NB0_835.out; have hcz86_0 := cz_ BK835.out 0 (.int .i64 x836000_12); have hcz86_1 := cz_ BK835.out 1 (.int .i64 x836001_12); have hcz86_2 := cz_ BK835.out 2 (.int .i64 x836002_12); have hcz86_3 := cz_ BK835.out 3 (.int .i64 x836003_12); have hcz86_4 := cz_ BK835.out 4 (.string x836004_12); have hfz86_0 := blk_frozen BK835.out 0; have hfz86_1 := blk_frozen BK835.out 1; have hfz86_2 := blk_frozen BK835.out 2; have hfz86_3 := blk_frozen BK835.out 3; have hfz86_4 := blk_frozen BK835.out 4; have hnb87 := NB830_0.out; have hnc87 := NB0_830.out; have hcz88_0 := cz_ BK830.out 0 (.int .i64 0); have hcz88_1 := cz_ BK830.out 1 (.int .i64 0); have hcz88_2 := cz_ BK830.out 2 (.int .i64 0); have hcz88_3 := cz_ BK830.out 3 (.int .i64 0); have hcz88_4 := cz_ BK830.out 4 (.string (⟨#[]⟩ : ByteArray)); have hfz88_0 := blk_frozen BK830.out 0; have hfz88_1 := blk_frozen BK830.out 1; have hfz88_2 := blk_frozen BK830.out 2; have hfz88_3 := blk_frozen BK830.out 3; have hfz88_4 := blk_frozen BK830.out 4))
           refine bodyPost_ret (results_cell_row rfl _ _ gb830 27 #[.int .i64 x836000_12, .int .i64 x836001_12, .int .i64 x836002_12, .int .i64 x836003_12, .string x836004_12] (0, 0) _ rfl (by (with_reducible repeat (first | refine blk_drewN ?_ _ | refine blk_drew ?_ | refine blk_alloc ?_ _)); refine blk_put (cs := #[.int .i64 x836000_12, .int .i64 x836001_12, .int .i64 x836002_12, .int .i64 x836003_12, .string (⟨#[]⟩ : ByteArray)]) ?_ 4 _ rfl; (with_reducible repeat (first | refine blk_drewN ?_ _ | refine blk_drew ?_ | refine blk_alloc ?_ _)); refine blk_put (cs := #[.int .i64 x836000_12, .int .i64 x836001_12, .int .i64 x836002_12, .int .i64 0, .string (⟨#[]⟩ : ByteArray)]) ?_ 3 _ rfl; (with_reducible repeat (first | refine blk_drewN ?_ _ | refine blk_drew ?_ | refine blk_alloc ?_ _)); refine blk_put (cs := #[.int .i64 x836000_12, .int .i64 x836001_12, .int .i64 0, .int .i64 0, .string (⟨#[]⟩ : ByteArray)]) ?_ 2 _ rfl; (with_reducible repeat (first | refine blk_drewN ?_ _ | refine blk_drew ?_ | refine blk_alloc ?_ _)); refine blk_put (cs := #[.int .i64 x836000_12, .int .i64 0, .int .i64 0, .int .i64 0, .string (⟨#[]⟩ : ByteArray)]) ?_ 1 _ rfl; (with_reducible repeat (first | refine blk_drewN ?_ _ | refine blk_drew ?_ | refine blk_alloc ?_ _)); refine blk_put (cs := #[.int .i64 0, .int .i64 0, .int .i64 0, .int .i64 0, .string (⟨#[]⟩ : ByteArray)]) ?_ 0 _ rfl; (with_reducible repeat (first | refine blk_drewN ?_ _ | refine blk_drew ?_ | refine blk_alloc ?_ _)); exact BK830.out) Tryd.underlying27 rfl (by kernel_rfl)) rfl ?_
           exact ⟨fi_, is_HI0, bel_, kf_ HK.out⟩
    ·rw [if_neg c11] at H
     exact absurd H (by simp)
   ·rw [if_neg c10] at H
    exact absurd H (by simp)
  ·rw [if_neg c7] at H
   exact absurd H (by simp)
 ·rw [if_neg c6] at H
  exact absurd H (by simp)

mutual
def spec_l71Fits.j0 : Nat → List (S37) → Int → Bool → List Int → Int → Int → Int → Int → Int → ByteArray → Option ((List (S37)) × Int × Int × Int × Int × ByteArray × Int)
 | 0, _, _, _, _, _, _, _, _, _, _ => none
 | k + 1, x4, x5, x26, x1000, x1001, x877000, x877001, x877002, x877003, x877004 => if x26 = true then (spec_l71Fits.j1 k x4 x1000 x1001 x877000 x5 x877002 x877003 x877004) else (spec_l71Fits.j1 k x4 x1000 x1001 x877000 x877001 x877002 x877003 x877004)
def spec_l71Fits.j1 : Nat → List (S37) → List Int → Int → Int → Int → Int → Int → ByteArray → Option ((List (S37)) × Int × Int × Int × Int × ByteArray × Int)
 | 0, _, _, _, _, _, _, _, _ => none
 | k + 1, x4, x1000, x1001, x877000, x877001, x877002, x877003, x877004 => (spec_l6Rd_pick.f k x1000 x1001 3).bind fun bt880 => (if bt880.1 = 0 then (if x877000 = 3 then (spec_l71Fits.j2 k x4 true x1000 bt880.2 x877000 x877001 x877002 x877003 x877004) else (spec_l71Fits.j2 k x4 (x877000 == 1) x1000 bt880.2 x877000 x877001 x877002 x877003 x877004)) else (spec_l71Fits.j2 k x4 false x1000 bt880.2 x877000 x877001 x877002 x877003 x877004))
def spec_l71Fits.j2 : Nat → List (S37) → Bool → List Int → Int → Int → Int → Int → Int → ByteArray → Option ((List (S37)) × Int × Int × Int × Int × ByteArray × Int)
 | 0, _, _, _, _, _, _, _, _, _ => none
 | k + 1, x4, x41, x1000, x1001, x877000, x877001, x877002, x877003, x877004 => if x41 = true then ((spec_l6Rd_pick.f k x1000 x1001 (x4.length : Int)).bind fun bt882 => (if 0 ≤ bt882.1 then (if bt882.1 < (x4.length : Int) then ((spec_l2Kids.f k x4 ((rd_T37 x4 bt882.1).f0)).bind fun t885 => (if (t885.length : Int) > 0 then ((spec_l6Rd_pick.f k x1000 bt882.2 (t885.length : Int)).bind fun bt888 => (if 0 ≤ bt888.1 then (if bt888.1 < (t885.length : Int) then (some (x4, x877000, x877001, (rd_T37 x4 bt882.1).f0, rd t885 bt888.1, x877004, bt888.2)) else (none)) else (none))) else (some (x4, x877000, x877001, (rd_T37 x4 bt882.1).f0, x877003, x877004, bt882.2)))) else (none)) else (none))) else (some (x4, x877000, x877001, x877002, x877003, x877004, x1001))
end
def spec_l71Fits.f (k : Nat) (s0_0 : List Int) (s0_1 : Int) : Option ((List (S37)) × Int × Int × Int × Int × ByteArray × Int) := (spec_l71Row.f k s0_0 s0_1).bind fun bt865 => ((spec_l71Op.f k s0_0 bt865.2.2).bind fun bt870 => ((spec_l6Rd_pick.f k s0_0 bt870.2.2.2.2.2 5).bind fun bt877 => (if bt877.1 > 0 then (if bt870.1 = 1 then (spec_l71Fits.j0 k bt865.1 bt865.2.1 false s0_0 bt877.2 bt870.1 bt870.2.1 bt870.2.2.1 bt870.2.2.2.1 bt870.2.2.2.2.1) else ((spec_l1Made.f bt865.2.1).bind fun t879 => (spec_l71Fits.j0 k bt865.1 bt865.2.1 t879 s0_0 bt877.2 bt870.1 bt870.2.1 bt870.2.2.1 bt870.2.2.2.1 bt870.2.2.2.2.1))) else (spec_l71Fits.j0 k bt865.1 bt865.2.1 false s0_0 bt877.2 bt870.1 bt870.2.1 bt870.2.2.1 bt870.2.2.2.1 bt870.2.2.2.2.1))))
theorem spec_l71Fits.mono_l : ∀ k, (∀ y0 y1 y2 y3 y4 y5 y6 y7 y8 y9, LeO (spec_l71Fits.j0 k y0 y1 y2 y3 y4 y5 y6 y7 y8 y9) (spec_l71Fits.j0 (k + 1) y0 y1 y2 y3 y4 y5 y6 y7 y8 y9)) ∧ (∀ y0 y1 y2 y3 y4 y5 y6 y7, LeO (spec_l71Fits.j1 k y0 y1 y2 y3 y4 y5 y6 y7) (spec_l71Fits.j1 (k + 1) y0 y1 y2 y3 y4 y5 y6 y7)) ∧ (∀ y0 y1 y2 y3 y4 y5 y6 y7 y8, LeO (spec_l71Fits.j2 k y0 y1 y2 y3 y4 y5 y6 y7 y8) (spec_l71Fits.j2 (k + 1) y0 y1 y2 y3 y4 y5 y6 y7 y8))
 | 0 => ⟨fun _ _ _ _ _ _ _ _ _ _ r h => by simp [spec_l71Fits.j0] at h, fun _ _ _ _ _ _ _ _ r h => by simp [spec_l71Fits.j1] at h, fun _ _ _ _ _ _ _ _ _ r h => by simp [spec_l71Fits.j2] at h⟩
 | k + 1 => by
  obtain ⟨ih0, ih1, ih2⟩ := spec_l71Fits.mono_l k
  refine ⟨?_, ?_, ?_⟩
  all_goals intros
  all_goals first | unfold spec_l71Fits.j0 | unfold spec_l71Fits.j1 | unfold spec_l71Fits.j2
  all_goals repeat' first
  | (with_reducible exact ih0 _ _ _ _ _ _ _ _ _ _)
  | (with_reducible exact ih1 _ _ _ _ _ _ _ _)
  | (with_reducible exact ih2 _ _ _ _ _ _ _ _ _)
  | (with_reducible exact spec_l2Kids.mono _ _ _)
  | (with_reducible exact spec_l6Rd_pick.mono _ _ _ _)
  | (with_reducible exact spec_l71Op.mono _ _ _)
  | (with_reducible exact spec_l71Row.mono _ _ _)
  | (with_reducible exact LeO.refl _)
  | (with_reducible exact LeO.none _)
  | (with_reducible refine LeO.ite ?_ ?_)
  | (with_reducible refine LeO.bind ?_ (fun _ => ?_))
  | exact ih0 _ _ _ _ _ _ _ _ _ _
  | exact ih1 _ _ _ _ _ _ _ _
  | exact ih2 _ _ _ _ _ _ _ _ _
  | exact spec_l2Kids.mono _ _ _
  | exact spec_l6Rd_pick.mono _ _ _ _
  | exact spec_l71Op.mono _ _ _
  | exact spec_l71Row.mono _ _ _
  | exact LeO.none _
  | refine LeO.ite ?_ ?_
  | refine LeO.bind ?_ (fun _ => ?_)
theorem spec_l71Fits.mono : ∀ a0 a1 k, LeO (spec_l71Fits.f k a0 a1) (spec_l71Fits.f (k + 1) a0 a1) := by
 intro a0 a1 k
 obtain ⟨ih0, ih1, ih2⟩ := spec_l71Fits.mono_l k
 unfold spec_l71Fits.f
 repeat' first
   | (with_reducible exact ih0 _ _ _ _ _ _ _ _ _ _)
   | (with_reducible exact ih1 _ _ _ _ _ _ _ _)
   | (with_reducible exact ih2 _ _ _ _ _ _ _ _ _)
   | (with_reducible exact spec_l2Kids.mono _ _ _)
   | (with_reducible exact spec_l6Rd_pick.mono _ _ _ _)
   | (with_reducible exact spec_l71Op.mono _ _ _)
   | (with_reducible exact spec_l71Row.mono _ _ _)
   | (with_reducible exact LeO.refl _)
   | (with_reducible exact LeO.none _)
   | (with_reducible refine LeO.ite ?_ ?_)
   | (with_reducible refine LeO.bind ?_ (fun _ => ?_))
   | exact ih0 _ _ _ _ _ _ _ _ _ _
   | exact ih1 _ _ _ _ _ _ _ _
   | exact ih2 _ _ _ _ _ _ _ _ _
   | exact spec_l2Kids.mono _ _ _
   | exact spec_l6Rd_pick.mono _ _ _ _
   | exact spec_l71Op.mono _ _ _
   | exact spec_l71Row.mono _ _ _
   | exact LeO.none _
   | refine LeO.ite ?_ ?_
   | refine LeO.bind ?_ (fun _ => ?_)
end Go.Proofs.YtlkheeegkifblaaDoor.P
