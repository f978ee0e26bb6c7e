/- Joined by a program (wip/shake.py): the declarations that 'YtnclcbjagleoeaaDoorCardFnFallNews' reaches. -/
import Derived.Test.YtnclcbjagleoeaaDoorZQ31
namespace Go.Proofs.YtnclcbjagleoeaaDoor.P
open Go.RowKit Go.Proofs.YtnclcbjagleoeaaDoorW.PrintWords Go.Proofs.YtnclcbjagleoeaaDoorW.PrintLast
set_option linter.unusedVariables false
set_option linter.unusedSimpArgs false
mutual
def spec_l72Op.j0 : Nat → Int → Int → Int → Int → List Int → Int → Bool → List Int → Int → Option (Int × Int × Int × Int × ByteArray × Int)
 | 0, _, _, _, _, _, _, _, _, _ => none
 | k + 1, x2, x3, x9, x10, x11, x12, x40, x1000, x1001 => if x40 = true then ((spec_l6Rd_pick.f k x1000 x1001 (x11.length : Int)).bind fun bt505 => (if 0 ≤ bt505.1 then (if bt505.1 < (x11.length : Int) then (spec_l72Op.j1 k x2 x3 x9 x10 (rd x11 bt505.1) x1000 bt505.2) else (none)) else (none))) else (spec_l72Op.j1 k x2 x3 x9 x10 x12 x1000 x1001)
def spec_l72Op.j1 : Nat → Int → Int → Int → Int → Int → List Int → Int → Option (Int × Int × Int × Int × ByteArray × Int)
 | 0, _, _, _, _, _, _, _ => none
 | k + 1, x2, x3, x9, x10, x12, x1000, x1001 => (spec_l71Text.f k x1000 x1001).bind fun bt508 => ((spec_l1Text.f k bt508.1).bind fun t510 => (if t510 = true then (spec_l72Op.j2 k x2 x3 x9 x10 x12 bt508.1 x1000 bt508.2) else (spec_l72Op.j2 k x2 x3 x9 x10 x12 (⟨#[97]⟩ : ByteArray) x1000 bt508.2)))
def spec_l72Op.j2 : Nat → Int → Int → Int → Int → Int → ByteArray → List Int → Int → Option (Int × Int × Int × Int × ByteArray × Int)
 | 0, _, _, _, _, _, _, _, _ => none
 | k + 1, x2, x3, x9, x10, x12, x13, x1000, x1001 => (spec_l6Rd_pick.f k x1000 x1001 6).bind fun bt511 => (if bt511.1 = 0 then ((spec_l71Id.f k x1000 bt511.2).bind fun bt513 => (spec_l72Op.j3 k x2 x3 x9 bt513.1 x12 x13 x1000 bt513.2)) else (spec_l72Op.j3 k x2 x3 x9 x10 x12 x13 x1000 bt511.2))
def spec_l72Op.j3 : Nat → Int → Int → Int → Int → Int → ByteArray → List Int → Int → Option (Int × Int × Int × Int × ByteArray × Int)
 | 0, _, _, _, _, _, _, _, _ => none
 | k + 1, x2, x3, x9, x10, x12, x13, x1000, x1001 => if x3 < 6 then ((spec_l6Rd_pick.f k x1000 x1001 3).bind fun bt515 => (if bt515.1 = 0 then (spec_l72Op.j4 k x2 x3 x9 x10 x12 x13 true x1000 bt515.2) else ((spec_l1Made.f x9).bind fun t517 => (spec_l72Op.j4 k x2 x3 x9 x10 x12 x13 (!t517) x1000 bt515.2)))) else (spec_l72Op.j4 k x2 x3 x9 x10 x12 x13 false x1000 x1001)
def spec_l72Op.j4 : Nat → Int → Int → Int → Int → Int → ByteArray → Bool → List Int → Int → Option (Int × Int × Int × Int × ByteArray × Int)
 | 0, _, _, _, _, _, _, _, _, _ => none
 | k + 1, x2, x3, x9, x10, x12, x13, x69, x1000, x1001 => if x69 = true then ((spec_RowMade.f x2 (wrap64 (x3 + 1))).bind fun t518 => (some (1, t518, x10, x12, x13, x1001))) else ((spec_l1Made.f x9).bind fun t519 => (if t519 = true then ((spec_l6Rd_pick.f k x1000 x1001 3).bind fun bt520 => (if bt520.1 = 0 then (some (2, x9, 0, 0, x13, bt520.2)) else (some (3, x9, x10, x12, (⟨#[]⟩ : ByteArray), bt520.2)))) else ((spec_l71Id.f k x1000 x1001).bind fun bt522 => ((spec_l6Rd_pick.f k x1000 bt522.2 3).bind fun bt524 => (if bt524.1 = 0 then (some (2, bt522.1, 0, 0, x13, bt524.2)) else (some (3, bt522.1, x10, x12, (⟨#[]⟩ : ByteArray), bt524.2)))))))
end
def spec_l72Op.f (k : Nat) (s0_0 : List Int) (s0_1 : Int) (l1 : List (S120)) (a2 : Int) (a3 : Int) : Option (Int × Int × Int × Int × ByteArray × Int) := (spec_l6Rd_pick.f k s0_0 s0_1 (l1.length : Int)).bind fun bt494 => (if 0 ≤ bt494.1 then (if bt494.1 < (l1.length : Int) then ((spec_l6Rd_pick.f k s0_0 bt494.2 (l1.length : Int)).bind fun bt497 => (if 0 ≤ bt497.1 then (if bt497.1 < (l1.length : Int) then ((spec_l2Kids.f k l1 ((rd_T120 l1 bt497.1).f0)).bind fun t500 => (if (t500.length : Int) > 0 then ((spec_l6Rd_pick.f k s0_0 bt497.2 2).bind fun bt503 => (spec_l72Op.j0 k a2 a3 ((rd_T120 l1 bt494.1).f0) ((rd_T120 l1 bt497.1).f0) t500 0 (bt503.1 == 0) s0_0 bt503.2)) else (spec_l72Op.j0 k a2 a3 ((rd_T120 l1 bt494.1).f0) ((rd_T120 l1 bt497.1).f0) t500 0 false s0_0 bt497.2))) else (none)) else (none))) else (none)) else (none))
theorem spec_l72Op.mono_l : ∀ k, (∀ y0 y1 y2 y3 y4 y5 y6 y7 y8, LeO (spec_l72Op.j0 k y0 y1 y2 y3 y4 y5 y6 y7 y8) (spec_l72Op.j0 (k + 1) y0 y1 y2 y3 y4 y5 y6 y7 y8)) ∧ (∀ y0 y1 y2 y3 y4 y5 y6, LeO (spec_l72Op.j1 k y0 y1 y2 y3 y4 y5 y6) (spec_l72Op.j1 (k + 1) y0 y1 y2 y3 y4 y5 y6)) ∧ (∀ y0 y1 y2 y3 y4 y5 y6 y7, LeO (spec_l72Op.j2 k y0 y1 y2 y3 y4 y5 y6 y7) (spec_l72Op.j2 (k + 1) y0 y1 y2 y3 y4 y5 y6 y7)) ∧ (∀ y0 y1 y2 y3 y4 y5 y6 y7, LeO (spec_l72Op.j3 k y0 y1 y2 y3 y4 y5 y6 y7) (spec_l72Op.j3 (k + 1) y0 y1 y2 y3 y4 y5 y6 y7)) ∧ (∀ y0 y1 y2 y3 y4 y5 y6 y7 y8, LeO (spec_l72Op.j4 k y0 y1 y2 y3 y4 y5 y6 y7 y8) (spec_l72Op.j4 (k + 1) y0 y1 y2 y3 y4 y5 y6 y7 y8))
 | 0 => ⟨fun _ _ _ _ _ _ _ _ _ r h => by simp [spec_l72Op.j0] at h, fun _ _ _ _ _ _ _ r h => by simp [spec_l72Op.j1] at h, fun _ _ _ _ _ _ _ _ r h => by simp [spec_l72Op.j2] at h, fun _ _ _ _ _ _ _ _ r h => by simp [spec_l72Op.j3] at h, fun _ _ _ _ _ _ _ _ _ r h => by simp [spec_l72Op.j4] at h⟩
 | k + 1 => by
  obtain ⟨ih0, ih1, ih2, ih3, ih4⟩ := spec_l72Op.mono_l k
  refine ⟨?_, ?_, ?_, ?_, ?_⟩
  ·intro y0 y1 y2 y3 y4 y5 y6 y7 y8
   unfold spec_l72Op.j0
   repeat' first
   | (with_reducible exact ih0 _ _ _ _ _ _ _ _ _)
   | (with_reducible exact ih1 _ _ _ _ _ _ _)
   | (with_reducible exact ih2 _ _ _ _ _ _ _ _)
   | (with_reducible exact ih3 _ _ _ _ _ _ _ _)
   | (with_reducible exact ih4 _ _ _ _ _ _ _ _ _)
   | (with_reducible exact spec_l1Text.mono _ _)
   | (with_reducible exact spec_l2Kids.mono _ _ _)
   | (with_reducible exact spec_l6Rd_pick.mono _ _ _ _)
   | (with_reducible exact spec_l71Id.mono _ _ _)
   | (with_reducible exact spec_l71Text.mono _ _ _)
   | (with_reducible exact LeO.refl _)
   | (with_reducible exact LeO.none _)
   | (with_reducible refine LeO.ite ?_ ?_)
   | (with_reducible refine LeO.bind ?_ (fun _ => ?_))
   | exact ih0 _ _ _ _ _ _ _ _ _
   | exact ih1 _ _ _ _ _ _ _
   | exact ih2 _ _ _ _ _ _ _ _
   | exact ih3 _ _ _ _ _ _ _ _
   | exact ih4 _ _ _ _ _ _ _ _ _
   | exact spec_l1Text.mono _ _
   | exact spec_l2Kids.mono _ _ _
   | exact spec_l6Rd_pick.mono _ _ _ _
   | exact spec_l71Id.mono _ _ _
   | exact spec_l71Text.mono _ _ _
   | exact LeO.none _
   | refine LeO.ite ?_ ?_
   | refine LeO.bind ?_ (fun _ => ?_)
  ·intro y0 y1 y2 y3 y4 y5 y6
   unfold spec_l72Op.j1
   repeat' first
   | (with_reducible exact ih0 _ _ _ _ _ _ _ _ _)
   | (with_reducible exact ih1 _ _ _ _ _ _ _)
   | (with_reducible exact ih2 _ _ _ _ _ _ _ _)
   | (with_reducible exact ih3 _ _ _ _ _ _ _ _)
   | (with_reducible exact ih4 _ _ _ _ _ _ _ _ _)
   | (with_reducible exact spec_l1Text.mono _ _)
   | (with_reducible exact spec_l2Kids.mono _ _ _)
   | (with_reducible exact spec_l6Rd_pick.mono _ _ _ _)
   | (with_reducible exact spec_l71Id.mono _ _ _)
   | (with_reducible exact spec_l71Text.mono _ _ _)
   | (with_reducible exact LeO.refl _)
   | (with_reducible exact LeO.none _)
   | (with_reducible refine LeO.ite ?_ ?_)
   | (with_reducible refine LeO.bind ?_ (fun _ => ?_))
   | exact ih0 _ _ _ _ _ _ _ _ _
   | exact ih1 _ _ _ _ _ _ _
   | exact ih2 _ _ _ _ _ _ _ _
   | exact ih3 _ _ _ _ _ _ _ _
   | exact ih4 _ _ _ _ _ _ _ _ _
   | exact spec_l1Text.mono _ _
   | exact spec_l2Kids.mono _ _ _
   | exact spec_l6Rd_pick.mono _ _ _ _
   | exact spec_l71Id.mono _ _ _
   | exact spec_l71Text.mono _ _ _
   | exact LeO.none _
   | refine LeO.ite ?_ ?_
   | refine LeO.bind ?_ (fun _ => ?_)
  ·intro y0 y1 y2 y3 y4 y5 y6 y7
   unfold spec_l72Op.j2
   repeat' first
   | (with_reducible exact ih0 _ _ _ _ _ _ _ _ _)
   | (with_reducible exact ih1 _ _ _ _ _ _ _)
   | (with_reducible exact ih2 _ _ _ _ _ _ _ _)
   | (with_reducible exact ih3 _ _ _ _ _ _ _ _)
   | (with_reducible exact ih4 _ _ _ _ _ _ _ _ _)
   | (with_reducible exact spec_l1Text.mono _ _)
   | (with_reducible exact spec_l2Kids.mono _ _ _)
   | (with_reducible exact spec_l6Rd_pick.mono _ _ _ _)
   | (with_reducible exact spec_l71Id.mono _ _ _)
   | (with_reducible exact spec_l71Text.mono _ _ _)
   | (with_reducible exact LeO.refl _)
   | (with_reducible exact LeO.none _)
   | (with_reducible refine LeO.ite ?_ ?_)
   | (with_reducible refine LeO.bind ?_ (fun _ => ?_))
   | exact ih0 _ _ _ _ _ _ _ _ _
   | exact ih1 _ _ _ _ _ _ _
   | exact ih2 _ _ _ _ _ _ _ _
   | exact ih3 _ _ _ _ _ _ _ _
   | exact ih4 _ _ _ _ _ _ _ _ _
   | exact spec_l1Text.mono _ _
   | exact spec_l2Kids.mono _ _ _
   | exact spec_l6Rd_pick.mono _ _ _ _
   | exact spec_l71Id.mono _ _ _
   | exact spec_l71Text.mono _ _ _
   | exact LeO.none _
   | refine LeO.ite ?_ ?_
   | refine LeO.bind ?_ (fun _ => ?_)
  ·intro y0 y1 y2 y3 y4 y5 y6 y7
   unfold spec_l72Op.j3
   repeat' first
   | (with_reducible exact ih0 _ _ _ _ _ _ _ _ _)
   | (with_reducible exact ih1 _ _ _ _ _ _ _)
   | (with_reducible exact ih2 _ _ _ _ _ _ _ _)
   | (with_reducible exact ih3 _ _ _ _ _ _ _ _)
   | (with_reducible exact ih4 _ _ _ _ _ _ _ _ _)
   | (with_reducible exact spec_l1Text.mono _ _)
   | (with_reducible exact spec_l2Kids.mono _ _ _)
   | (with_reducible exact spec_l6Rd_pick.mono _ _ _ _)
   | (with_reducible exact spec_l71Id.mono _ _ _)
   | (with_reducible exact spec_l71Text.mono _ _ _)
   | (with_reducible exact LeO.refl _)
   | (with_reducible exact LeO.none _)
   | (with_reducible refine LeO.ite ?_ ?_)
   | (with_reducible refine LeO.bind ?_ (fun _ => ?_))
   | exact ih0 _ _ _ _ _ _ _ _ _
   | exact ih1 _ _ _ _ _ _ _
   | exact ih2 _ _ _ _ _ _ _ _
   | exact ih3 _ _ _ _ _ _ _ _
   | exact ih4 _ _ _ _ _ _ _ _ _
   | exact spec_l1Text.mono _ _
   | exact spec_l2Kids.mono _ _ _
   | exact spec_l6Rd_pick.mono _ _ _ _
   | exact spec_l71Id.mono _ _ _
   | exact spec_l71Text.mono _ _ _
   | exact LeO.none _
   | refine LeO.ite ?_ ?_
   | refine LeO.bind ?_ (fun _ => ?_)
  ·intro y0 y1 y2 y3 y4 y5 y6 y7 y8
   unfold spec_l72Op.j4
   repeat' first
   | (with_reducible exact ih0 _ _ _ _ _ _ _ _ _)
   | (with_reducible exact ih1 _ _ _ _ _ _ _)
   | (with_reducible exact ih2 _ _ _ _ _ _ _ _)
   | (with_reducible exact ih3 _ _ _ _ _ _ _ _)
   | (with_reducible exact ih4 _ _ _ _ _ _ _ _ _)
   | (with_reducible exact spec_l1Text.mono _ _)
   | (with_reducible exact spec_l2Kids.mono _ _ _)
   | (with_reducible exact spec_l6Rd_pick.mono _ _ _ _)
   | (with_reducible exact spec_l71Id.mono _ _ _)
   | (with_reducible exact spec_l71Text.mono _ _ _)
   | (with_reducible exact LeO.refl _)
   | (with_reducible exact LeO.none _)
   | (with_reducible refine LeO.ite ?_ ?_)
   | (with_reducible refine LeO.bind ?_ (fun _ => ?_))
   | exact ih0 _ _ _ _ _ _ _ _ _
   | exact ih1 _ _ _ _ _ _ _
   | exact ih2 _ _ _ _ _ _ _ _
   | exact ih3 _ _ _ _ _ _ _ _
   | exact ih4 _ _ _ _ _ _ _ _ _
   | exact spec_l1Text.mono _ _
   | exact spec_l2Kids.mono _ _ _
   | exact spec_l6Rd_pick.mono _ _ _ _
   | exact spec_l71Id.mono _ _ _
   | exact spec_l71Text.mono _ _ _
   | exact LeO.none _
   | refine LeO.ite ?_ ?_
   | refine LeO.bind ?_ (fun _ => ?_)
theorem spec_l72Op.mono : ∀ a0 a1 a2 a3 a4 k, LeO (spec_l72Op.f k a0 a1 a2 a3 a4) (spec_l72Op.f (k + 1) a0 a1 a2 a3 a4) := by
 intro a0 a1 a2 a3 a4 k
 obtain ⟨ih0, ih1, ih2, ih3, ih4⟩ := spec_l72Op.mono_l k
 unfold spec_l72Op.f
 repeat' first
   | (with_reducible exact ih0 _ _ _ _ _ _ _ _ _)
   | (with_reducible exact ih1 _ _ _ _ _ _ _)
   | (with_reducible exact ih2 _ _ _ _ _ _ _ _)
   | (with_reducible exact ih3 _ _ _ _ _ _ _ _)
   | (with_reducible exact ih4 _ _ _ _ _ _ _ _ _)
   | (with_reducible exact spec_l1Text.mono _ _)
   | (with_reducible exact spec_l2Kids.mono _ _ _)
   | (with_reducible exact spec_l6Rd_pick.mono _ _ _ _)
   | (with_reducible exact spec_l71Id.mono _ _ _)
   | (with_reducible exact spec_l71Text.mono _ _ _)
   | (with_reducible exact LeO.refl _)
   | (with_reducible exact LeO.none _)
   | (with_reducible refine LeO.ite ?_ ?_)
   | (with_reducible refine LeO.bind ?_ (fun _ => ?_))
   | exact ih0 _ _ _ _ _ _ _ _ _
   | exact ih1 _ _ _ _ _ _ _
   | exact ih2 _ _ _ _ _ _ _ _
   | exact ih3 _ _ _ _ _ _ _ _
   | exact ih4 _ _ _ _ _ _ _ _ _
   | exact spec_l1Text.mono _ _
   | exact spec_l2Kids.mono _ _ _
   | exact spec_l6Rd_pick.mono _ _ _ _
   | exact spec_l71Id.mono _ _ _
   | exact spec_l71Text.mono _ _ _
   | exact LeO.none _
   | refine LeO.ite ?_ ?_
   | refine LeO.bind ?_ (fun _ => ?_)
set_option maxHeartbeats 8000000 in
set_option maxRecDepth 100000 in
theorem spec_l72Op.calls (k : Nat) (g : Nat) (s0_0 : List Int) (s0_1 : Int) (A1 : Option Addr) (c1 : Nat) (l1 : List (S120)) (a2 : Int) (a3 : Int) (r1 : Int) (r2 : Int) (r3 : Int) (r4 : Int) (r5 : ByteArray) (r6 : Int) (w0 w : World) (hI : IsS96 w0 w g s0_0 s0_1) (hB : Below w0.heap.size w0 w) (hr1 : ∀ W_, KeepBut w W_ g none → Kd.C k120 W_ A1 l1.length l1) (hc1 : l1.length ≤ c1) (h : spec_l72Op.f k s0_0 s0_1 l1 a2 a3 = some (r1, r2, r3, r4, r5, r6)) :
  Calls Tryd.prog 88 #[.pointer (some ⟨g, 0, none⟩), .slice A1 l1.length c1, .int .i64 a2, .int .i64 a3] w fun e w' => e = .returned (.agg #[.int .i64 r1, .int .i64 r2, .int .i64 r3, .int .i64 r4, .string r5]) ∧ IsS96 w0 w' g s0_0 r6 ∧ Below w0.heap.size w0 w' ∧ KeepBut w w' g none := by
 have hu54 := Tryd.underlying54
 have HR1 := Aside0.mk hr1
 have HC1 := Aside0.mk hc1
 clear hr1 hc1
 have HI0 := Aside0.mk hI
 have HK := Aside0.mk (KeepBut.refl w g none)
 have HL := Aside0.mk hB.size
 clear hI
 have HW0 := Aside0.mk hB.size
 have HB := Aside0.mk hB
 clear hB
 have H : ((spec_l6Rd_pick.f k s0_0 s0_1 (l1.length : Int)).bind fun bt494 => (if 0 ≤ bt494.1 then (if bt494.1 < (l1.length : Int) then ((spec_l6Rd_pick.f k s0_0 bt494.2 (l1.length : Int)).bind fun bt497 => (if 0 ≤ bt497.1 then (if bt497.1 < (l1.length : Int) then ((spec_l2Kids.f k l1 ((rd_T120 l1 bt497.1).f0)).bind fun t500 => (if (t500.length : Int) > 0 then ((spec_l6Rd_pick.f k s0_0 bt497.2 2).bind fun bt503 => (spec_l72Op.j0 k a2 a3 ((rd_T120 l1 bt494.1).f0) ((rd_T120 l1 bt497.1).f0) t500 0 (bt503.1 == 0) s0_0 bt503.2)) else (spec_l72Op.j0 k a2 a3 ((rd_T120 l1 bt494.1).f0) ((rd_T120 l1 bt497.1).f0) t500 0 false s0_0 bt497.2))) else (none)) else (none))) else (none)) else (none))) = some (r1, r2, r3, r4, r5, r6) := h
 clear h
 replace H := Option.bind_eq_some_iff.mp H
 obtain ⟨⟨t494, t495⟩, A50, H⟩ := H
 replace H : (if 0 ≤ t494 then (if t494 < (l1.length : Int) then ((spec_l6Rd_pick.f k s0_0 t495 (l1.length : Int)).bind fun bt497 => (if 0 ≤ bt497.1 then (if bt497.1 < (l1.length : Int) then ((spec_l2Kids.f k l1 ((rd_T120 l1 bt497.1).f0)).bind fun t500 => (if (t500.length : Int) > 0 then ((spec_l6Rd_pick.f k s0_0 bt497.2 2).bind fun bt503 => (spec_l72Op.j0 k a2 a3 ((rd_T120 l1 t494).f0) ((rd_T120 l1 bt497.1).f0) t500 0 (bt503.1 == 0) s0_0 bt503.2)) else (spec_l72Op.j0 k a2 a3 ((rd_T120 l1 t494).f0) ((rd_T120 l1 bt497.1).f0) t500 0 false s0_0 bt497.2))) else (none)) else (none))) else (none)) else (none)) = some (r1, r2, r3, r4, r5, r6) := H
 have A5 := Aside0.mk A50
 clear A50
 by_cases c6 : 0 ≤ t494
 ·rw [if_pos c6] at H
  have c6b0 : decide (0 ≤ t494) = true := decide_eq_true c6
  clear c6
  by_cases c7 : t494 < (l1.length : Int)
  ·rw [if_pos c7] at H
   have c7b0 : decide (t494 < (l1.length : Int)) = true := decide_eq_true c7
   clear c7
   replace H := Option.bind_eq_some_iff.mp H
   obtain ⟨⟨t497, t498⟩, A80, H⟩ := H
   replace H : (if 0 ≤ t497 then (if t497 < (l1.length : Int) then ((spec_l2Kids.f k l1 ((rd_T120 l1 t497).f0)).bind fun t500 => (if (t500.length : Int) > 0 then ((spec_l6Rd_pick.f k s0_0 t498 2).bind fun bt503 => (spec_l72Op.j0 k a2 a3 ((rd_T120 l1 t494).f0) ((rd_T120 l1 t497).f0) t500 0 (bt503.1 == 0) s0_0 bt503.2)) else (spec_l72Op.j0 k a2 a3 ((rd_T120 l1 t494).f0) ((rd_T120 l1 t497).f0) t500 0 false s0_0 t498))) else (none)) else (none)) = some (r1, r2, r3, r4, r5, r6) := H
   have A8 := Aside0.mk A80
   clear A80
   by_cases c9 : 0 ≤ t497
   ·rw [if_pos c9] at H
    have c9b0 : decide (0 ≤ t497) = true := decide_eq_true c9
    clear c9
    by_cases c10 : t497 < (l1.length : Int)
    ·rw [if_pos c10] at H
     have c10b0 : decide (t497 < (l1.length : Int)) = true := decide_eq_true c10
     clear c10
     replace H := Option.bind_eq_some_iff.mp H
     obtain ⟨t500, A110, H⟩ := H
     replace H : (if (t500.length : Int) > 0 then ((spec_l6Rd_pick.f k s0_0 t498 2).bind fun bt503 => (spec_l72Op.j0 k a2 a3 ((rd_T120 l1 t494).f0) ((rd_T120 l1 t497).f0) t500 0 (bt503.1 == 0) s0_0 bt503.2)) else (spec_l72Op.j0 k a2 a3 ((rd_T120 l1 t494).f0) ((rd_T120 l1 t497).f0) t500 0 false s0_0 t498)) = some (r1, r2, r3, r4, r5, r6) := H
     have A11 := Aside0.mk A110
     clear A110
     have HC12 := Aside0.mk H
     clear H
     go_enter Tryd.func88, Tryd.ntmps88
     go_upto_region 5 with (first | ((with_reducible refine gate_dst (N := 8) rfl ?_); refine box_event ?hg (N := 8) ?hd (cs := #[.int .i64 0, .int .i64 0, .int .i64 0, .int .i64 0, .string (⟨#[]⟩ : ByteArray)]) (t := 54) ?hr ?_; (case hd => rfl); (case hg => rfl); (case hr => first | (go_simp; done) | (go_simp; rfl)); intro gb493 hg w13 hbox hb; have n0_ := Aside0.mk (IsS96.below (is_HI0) hb); have n1_ := Aside0.mk (KeepBut.trans (ke_) (KeepBut.of_below hb g none) (.inl rfl)); have n2_ := Aside0.mk (below_step (bel_) hb); have n3_ := Aside0.mk (hbox); have n4_ := Aside0.mk ((by rw [hg]; exact (keep_size (w := w) (g := g) (row := none) (ke_)) : w.heap.size ≤ gb493)); have n5_ := Aside0.mk ((Nat.le_trans HW0.out (by rw [hg]; exact (keep_size (w := w) (g := g) (row := none) (ke_)) : w.heap.size ≤ gb493) : w0.heap.size ≤ gb493)); have n6_ := Aside0.mk ((by rw [hg]; exact Nat.ne_of_lt (IsS96.lt (show IsS96 w0 _ g s0_0 s0_1 from is_HI0)) : g ≠ gb493)); have n7_ := Aside0.mk ((by rw [hg]; exact Nat.ne_of_gt (IsS96.lt (show IsS96 w0 _ g s0_0 s0_1 from is_HI0)) : gb493 ≠ g)); clear HI0; clear HK; clear HB; have HI0 := n0_; have HK := n1_; have HB := n2_; have BK493 := n3_; have GW493 := n4_; have GE493 := n5_; have NB0_493 := n6_; have NB493_0 := n7_; clear n0_ n1_ n2_ n3_ n4_ n5_ n6_ n7_; clear hb hbox hg) | ((with_reducible refine gate_callee (f := 56) rfl ?_); refine gl_ 18 Tryd.func56 #[.pointer (some ⟨g, 0, none⟩), .int .i64 (l1.length : Int)] ?_; (with_reducible refine (spec_l6Rd_pick.calls k g s0_0 s0_1 (l1.length : Int) t494 t495 w0 _ ?side1 ?side2 A5.out).mono ?_); (case side1 => repeat (first | (with_reducible first | exact HI0.out | apply IsS96.alloc | apply IsS96.drewN | apply IsS96.drew | apply IsS96.set_1 | refine IsS96.far ?_ NB0_493.out _) | exact HI0.out)); (case side2 => exact bel_); rintro e w14 ⟨rfl, hi, hb, hk⟩; refine ⟨_, rfl, ?_⟩; replace BK493 := Aside0.mk (KeepBut.blk hk (g' := gb493) (o := .cells #[.int .i64 0, .int .i64 0, .int .i64 0, .int .i64 0, .string (⟨#[]⟩ : ByteArray)] 54 (0, 0)) (bp_ BK493.out) NB493_0.out (by simp)); replace HK := Aside0.mk (KeepBut.trans (by repeat (first | (with_reducible first | exact HK.out | apply KeepBut.set_ | apply keep_drewN | apply keep_drew | apply keep_alloc | refine keep_far ?_ GW493.out _) | exact HK.out)) hk (.inl rfl)); replace HB := Aside0.mk (hb); replace HI0 := Aside0.mk (hi); (try clear hb); (try clear hb2); (try clear hk); (try clear hi); have p496 : 0 ≤ (t494 : Int) := od_; have q496 : t494 < (l1.length : Int) := od_; obtain ⟨ad496, e496, hx496_0, hx496_1, hx496_2⟩ := at_T120 (Kd.C_foot_now HR1.out HK.out) t494 p496 q496; cases e496; replace p496 := eq_true p496; replace q496 := eq_true q496) | ((with_reducible refine gate_callee (f := 56) rfl ?_); refine gl_ 26 Tryd.func56 #[.pointer (some ⟨g, 0, none⟩), .int .i64 (l1.length : Int)] ?_; (with_reducible refine (spec_l6Rd_pick.calls k g s0_0 t495 (l1.length : Int) t497 t498 w0 _ ?side1 ?side2 A8.out).mono ?_); (case side1 => repeat (first | (with_reducible first | exact HI0.out | apply IsS96.alloc | apply IsS96.drewN | apply IsS96.drew | apply IsS96.set_1 | refine IsS96.far ?_ NB0_493.out _) | exact HI0.out)); (case side2 => exact bel_); rintro e w15 ⟨rfl, hi, hb, hk⟩; refine ⟨_, rfl, ?_⟩; replace BK493 := Aside0.mk (KeepBut.blk hk (g' := gb493) (o := .cells #[.int .i64 0, .int .i64 0, .int .i64 0, .int .i64 0, .string (⟨#[]⟩ : ByteArray)] 54 (0, 0)) (bp_ BK493.out) NB493_0.out (by simp)); replace HK := Aside0.mk (KeepBut.trans (by repeat (first | (with_reducible first | exact HK.out | apply KeepBut.set_ | apply keep_drewN | apply keep_drew | apply keep_alloc | refine keep_far ?_ GW493.out _) | exact HK.out)) hk (.inl rfl)); replace HB := Aside0.mk (hb); replace HI0 := Aside0.mk (hi); (try clear hb); (try clear hb2); (try clear hk); (try clear hi); have p499 : 0 ≤ (t497 : Int) := od_; have q499 : t497 < (l1.length : Int) := od_; obtain ⟨ad499, e499, hx499_0, hx499_1, hx499_2⟩ := at_T120 (Kd.C_foot_now HR1.out HK.out) t497 p499 q499; obtain rfl : ad496 = ad499 := (by injection e499); replace p499 := eq_true p499; replace q499 := eq_true q499) | ((with_reducible refine gate_callee (f := 94) rfl ?_); refine gl_ 32 Tryd.func94 #[.slice (some ad496) l1.length c1, .int .i64 ((rd_T120 l1 t497).f0)] ?_; (with_reducible refine (spec_l2Kids.calls k _ _ l1 ((rd_T120 l1 t497).f0) t500 _ ?side1 ?side2 A11.out).mono ?_); (case side1 => exact Kd.C_foot_now HR1.out (by repeat (first | (with_reducible first | exact HK.out | apply KeepBut.set_ | apply keep_drewN | apply keep_drew | apply keep_alloc | refine keep_far ?_ GW493.out _) | exact HK.out))); (case side2 => exact HC1.out); rintro e w16 ⟨v501, rfl, ho0, hb⟩; refine ⟨_, rfl, ?_⟩; have HO502 := Aside0.mk (Kd.R_lower ho0 (keep_size (w := w) (g := g) (row := none) (by repeat (first | (with_reducible first | exact HK.out | apply KeepBut.set_ | apply keep_drewN | apply keep_drew | apply keep_alloc | refine keep_far ?_ GW493.out _) | exact HK.out)))); replace HK := Aside0.mk (KeepBut.trans (by repeat (first | (with_reducible first | exact HK.out | apply KeepBut.set_ | apply keep_drewN | apply keep_drew | apply keep_alloc | refine keep_far ?_ GW493.out _) | exact HK.out)) (KeepBut.of_below hb g none) (.inl rfl)); replace HB := Aside0.mk (below_step (bel_) hb); replace HI0 := Aside0.mk (IsS96.below (by repeat (first | (with_reducible first | exact HI0.out | apply IsS96.alloc | apply IsS96.drewN | apply IsS96.drew | apply IsS96.set_1 | refine IsS96.far ?_ NB0_493.out _) | exact HI0.out)) hb); replace BK493 := Aside0.mk (blk_below (g := gb493) (o := .cells #[.int .i64 0, .int .i64 0, .int .i64 0, .int .i64 0, .string (⟨#[]⟩ : ByteArray)] 54 (0, 0)) (bp_ BK493.out) hb); (try clear hb); (try clear hb2); (try clear hk); (try clear hi); (try clear ho0)))
     (try simp only [Act.put, List.setIfInBounds_toArray, List.set_cons_zero, List.set_cons_succ])
     go_cut [40] (fun v40 wc => ∃ (kq : Nat) (x40_11 : Bool) (x1001_11 : Int), v40 = .bool x40_11 ∧ Aside0 (spec_l72Op.j0 kq a2 a3 ((rd_T120 l1 t494).f0) ((rd_T120 l1 t497).f0) t500 0 x40_11 s0_0 x1001_11 = some (r1, r2, r3, r4, r5, r6)) ∧ Aside0 (kq ≤ k) ∧ Aside0 (Kd.R (Kd.int .i64) 3 wc w.heap.size (fun _ => True) v501 t500) ∧ Aside0 (wc.heap[gb493]? = some (.cells #[.int .i64 0, .int .i64 0, .int .i64 0, .int .i64 0, .string (⟨#[]⟩ : ByteArray)] 54 (0, 0))) ∧ Aside0 (IsS96 w0 wc g s0_0 x1001_11) ∧ Aside0 (KeepBut w wc g none) ∧ Aside0 (Below w0.heap.size w0 wc))
     case first =>
      have H := HC12.out
      clear HC12
      by_cases c17 : (t500.length : Int) > 0
      ·rw [if_pos c17] at H
       have c17b0 : decide (0 < (t500.length : Int)) = true := decide_eq_true c17
       have c17b1 : decide (0 < t500.length) = true := decide_eq_true (by omega)
       clear c17
       (first | rw [c17b0] | (simp only [i64_w, i32_w]; rw [c17b0]) | skip)
       replace H := Option.bind_eq_some_iff.mp H
       obtain ⟨⟨t503, t504⟩, A180, H⟩ := H
       replace H : (spec_l72Op.j0 k a2 a3 ((rd_T120 l1 t494).f0) ((rd_T120 l1 t497).f0) t500 0 (t503 == 0) s0_0 t504) = some (r1, r2, r3, r4, r5, r6) := H
       have A18 := Aside0.mk A180
       clear A180
       have H' := Aside0.mk H
       clear H
       obtain ⟨Ao19, co19, eo19⟩ := Kd.R_slice HO502.out
       subst eo19
       go_wp2_with (first | (go_at_call 56; (with_reducible refine (spec_l6Rd_pick.calls k g s0_0 t498 2 t503 t504 w0 _ ?side1 ?side2 A18.out).mono ?_); (case side1 => repeat (first | (with_reducible first | exact HI0.out | apply IsS96.alloc | apply IsS96.drewN | apply IsS96.drew | apply IsS96.set_1 | refine IsS96.far ?_ NB0_493.out _) | exact HI0.out)); (case side2 => exact bel_); rintro e w20 ⟨rfl, hi, hb, hk⟩; replace BK493 := Aside0.mk (KeepBut.blk hk (g' := gb493) (o := .cells #[.int .i64 0, .int .i64 0, .int .i64 0, .int .i64 0, .string (⟨#[]⟩ : ByteArray)] 54 (0, 0)) (bp_ BK493.out) NB493_0.out (by simp)); replace HO502 := Aside0.mk (Kd.R_mono (Kd.R_keep (IsS96.apart (show IsS96 w0 _ g s0_0 t498 from by repeat (first | (with_reducible first | exact HI0.out | apply IsS96.alloc | apply IsS96.drewN | apply IsS96.drew | apply IsS96.set_1 | refine IsS96.far ?_ NB0_493.out _) | exact HI0.out)) (rp_ HO502.out) (by decide)) hk (fun _ h => h.2)) (fun _ h => h.1)); replace HK := Aside0.mk (KeepBut.trans (by repeat (first | (with_reducible first | exact HK.out | apply KeepBut.set_ | apply keep_drewN | apply keep_drew | apply keep_alloc | refine keep_far ?_ GW493.out _) | exact HK.out)) hk (.inl rfl)); replace HB := Aside0.mk (hb); replace HI0 := Aside0.mk (hi); (try clear hb); (try clear hb2); (try clear hk); (try clear hi)))
       go_meet
       case rel => exact ⟨_, ((t503 == 0)), (t504), (si_), H', ⟨by first | omega | exact Nat.le_refl _⟩, ⟨by (with_reducible repeat (first | apply Kd.R_alloc | apply Kd.R_drewN | apply Kd.R_drew)); exact HO502.out⟩, ⟨by (with_reducible repeat (first | refine blk_drewN ?_ _ | refine blk_drew ?_ | refine blk_alloc ?_ _)); exact BK493.out⟩, ⟨by repeat (first | (with_reducible first | exact HI0.out | apply IsS96.alloc | apply IsS96.drewN | apply IsS96.drew | apply IsS96.set_1 | refine IsS96.far ?_ NB0_493.out _) | exact HI0.out)⟩, ⟨by repeat (first | (with_reducible first | exact HK.out | apply KeepBut.set_ | apply keep_drewN | apply keep_drew | apply keep_alloc | refine keep_far ?_ GW493.out _) | exact HK.out)⟩, ⟨bel_⟩⟩
      ·rw [if_neg c17] at H
       have c17b0 : decide (0 < (t500.length : Int)) = false := decide_eq_false c17
       have c17b1 : decide (0 < t500.length) = false := decide_eq_false (by omega)
       clear c17
       (first | rw [c17b0] | (simp only [i64_w, i32_w]; rw [c17b0]) | skip)
       have H' := Aside0.mk H
       clear H
       obtain ⟨Ao21, co21, eo21⟩ := Kd.R_slice HO502.out
       subst eo21
       go_wp2
       go_meet
       case rel => exact ⟨_, (false), (t498), (si_), H', ⟨by first | omega | exact Nat.le_refl _⟩, ⟨by (with_reducible repeat (first | apply Kd.R_alloc | apply Kd.R_drewN | apply Kd.R_drew)); exact HO502.out⟩, ⟨by (with_reducible repeat (first | refine blk_drewN ?_ _ | refine blk_drew ?_ | refine blk_alloc ?_ _)); exact BK493.out⟩, ⟨by repeat (first | (with_reducible first | exact HI0.out | apply IsS96.alloc | apply IsS96.drewN | apply IsS96.drew | apply IsS96.set_1 | refine IsS96.far ?_ NB0_493.out _) | exact HI0.out)⟩, ⟨by repeat (first | (with_reducible first | exact HK.out | apply KeepBut.set_ | apply keep_drewN | apply keep_drew | apply keep_alloc | refine keep_far ?_ GW493.out _) | exact HK.out)⟩, ⟨bel_⟩⟩
     case rest =>
      clear HC12
      try clear c1
      try clear p2
      try clear p4
      try clear q4
      try clear hx4
      try clear c5
      try clear c6
      try clear c6b0
      try clear c7
      try clear c7b0
      try clear c8
      try clear c9
      try clear c9b0
      try clear c10
      try clear c10b0
      try clear c17
      try clear c17b0
      try clear c17b1
      try clear hx496_0
      try clear hx496_1
      try clear hx496_2
      try clear hx499_0
      try clear hx499_1
      try clear hx499_2
      try clear p496
      try clear p499
      try clear q496
      try clear q499
      obtain ⟨kq, x40_11, x1001_11, rfl, HA, HJ11, HO_11, BK493, HI0, HK, HB⟩ := hcut
      cases kq with
      | zero => exact absurd HA.out (by simp [spec_l72Op.j0])
      | succ kj11 =>
       have H := HA.out
       clear HA
       simp only [spec_l72Op.j0] at H
       have HC22 := Aside0.mk H
       clear H
       go_upto_if 40 with (fail)
       go_cut [12] (fun v12 wc => ∃ (kq : Nat) (x12_21 : Int) (x1001_21 : Int), v12 = .int .i64 x12_21 ∧ Aside0 (spec_l72Op.j1 kq a2 a3 ((rd_T120 l1 t494).f0) ((rd_T120 l1 t497).f0) x12_21 s0_0 x1001_21 = some (r1, r2, r3, r4, r5, r6)) ∧ Aside0 (kq ≤ kj11) ∧ Aside0 (wc.heap[gb493]? = some (.cells #[.int .i64 0, .int .i64 0, .int .i64 0, .int .i64 0, .string (⟨#[]⟩ : ByteArray)] 54 (0, 0))) ∧ Aside0 (IsS96 w0 wc g s0_0 x1001_21) ∧ Aside0 (KeepBut w wc g none) ∧ Aside0 (Below w0.heap.size w0 wc))
       case first =>
        have H := HC22.out
        clear HC22
        by_cases c23 : x40_11 = true
        ·subst c23
         have H1 : ((spec_l6Rd_pick.f kj11 s0_0 x1001_11 (t500.length : Int)).bind fun bt505 => (if 0 ≤ bt505.1 then (if bt505.1 < (t500.length : Int) then (spec_l72Op.j1 kj11 a2 a3 ((rd_T120 l1 t494).f0) ((rd_T120 l1 t497).f0) (rd t500 bt505.1) s0_0 bt505.2) else (none)) else (none))) = some (r1, r2, r3, r4, r5, r6) := by rw [if_pos rfl] at H; exact H
         clear H
         have H := H1
         clear H1
         replace H := Option.bind_eq_some_iff.mp H
         obtain ⟨⟨t505, t506⟩, A240, H⟩ := H
         replace H : (if 0 ≤ t505 then (if t505 < (t500.length : Int) then (spec_l72Op.j1 kj11 a2 a3 ((rd_T120 l1 t494).f0) ((rd_T120 l1 t497).f0) (rd t500 t505) s0_0 t506) else (none)) else (none)) = some (r1, r2, r3, r4, r5, r6) := H
         have A24 := Aside0.mk A240
         clear A240
         by_cases c25 : 0 ≤ t505
         ·rw [if_pos c25] at H
          have c25b0 : decide (0 ≤ t505) = true := decide_eq_true c25
          clear c25
          (first | rw [c25b0] | (simp only [i64_w, i32_w]; rw [c25b0]) | skip)
          by_cases c26 : t505 < (t500.length : Int)
          ·rw [if_pos c26] at H
           have c26b0 : decide (t505 < (t500.length : Int)) = true := decide_eq_true c26
           clear c26
           have H' := Aside0.mk H
           clear H
           obtain ⟨Ao27, co27, eo27⟩ := Kd.R_slice HO_11.out
           subst eo27
           go_wp2_with (first | ((with_reducible refine gate_callee (f := 56) rfl ?_); refine gl_ 45 Tryd.func56 #[.pointer (some ⟨g, 0, none⟩), .int .i64 (t500.length : Int)] ?_; (with_reducible refine (spec_l6Rd_pick.calls kj11 g s0_0 x1001_11 (t500.length : Int) t505 t506 w0 _ ?side1 ?side2 A24.out).mono ?_); (case side1 => repeat (first | (with_reducible first | exact HI0.out | apply IsS96.alloc | apply IsS96.drewN | apply IsS96.drew | apply IsS96.set_1 | refine IsS96.far ?_ NB0_493.out _) | exact HI0.out)); (case side2 => exact bel_); rintro e w28 ⟨rfl, hi, hb, hk⟩; refine ⟨_, rfl, ?_⟩; replace HO_11 := Aside0.mk (Kd.R_mono (Kd.R_keep (IsS96.apart (show IsS96 w0 _ g s0_0 x1001_11 from by repeat (first | (with_reducible first | exact HI0.out | apply IsS96.alloc | apply IsS96.drewN | apply IsS96.drew | apply IsS96.set_1 | refine IsS96.far ?_ NB0_493.out _) | exact HI0.out)) (rp_ HO_11.out) (by decide)) hk (fun _ h => h.2)) (fun _ h => h.1)); replace BK493 := Aside0.mk (KeepBut.blk hk (g' := gb493) (o := .cells #[.int .i64 0, .int .i64 0, .int .i64 0, .int .i64 0, .string (⟨#[]⟩ : ByteArray)] 54 (0, 0)) (bp_ BK493.out) NB493_0.out (by simp)); replace HK := Aside0.mk (KeepBut.trans (by repeat (first | (with_reducible first | exact HK.out | apply KeepBut.set_ | apply keep_drewN | apply keep_drew | apply keep_alloc | refine keep_far ?_ GW493.out _) | exact HK.out)) hk (.inl rfl)); replace HB := Aside0.mk (hb); replace HI0 := Aside0.mk (hi); (try clear hb); (try clear hb2); (try clear hk); (try clear hi); have p507 : 0 ≤ (t505 : Int) := od_; have q507 : t505 < (t500.length : Int) := od_; obtain ⟨ad507, e507, hx507_0⟩ := Kd.at_int (Kd.R_reads' HO_11.out).2.2 t505 p507 q507; cases e507; replace p507 := eq_true p507; replace q507 := eq_true q507))
           go_meet
           case rel => exact ⟨_, (rd t500 t505), (t506), (si_), H', ⟨by have := HJ11.out; first | omega | exact Nat.le_refl _⟩, ⟨by (with_reducible repeat (first | refine blk_drewN ?_ _ | refine blk_drew ?_ | refine blk_alloc ?_ _)); exact BK493.out⟩, ⟨by repeat (first | (with_reducible first | exact HI0.out | apply IsS96.alloc | apply IsS96.drewN | apply IsS96.drew | apply IsS96.set_1 | refine IsS96.far ?_ NB0_493.out _) | exact HI0.out)⟩, ⟨by repeat (first | (with_reducible first | exact HK.out | apply KeepBut.set_ | apply keep_drewN | apply keep_drew | apply keep_alloc | refine keep_far ?_ GW493.out _) | exact HK.out)⟩, ⟨bel_⟩⟩
          ·rw [if_neg c26] at H
           exact absurd H (by simp)
         ·rw [if_neg c25] at H
          exact absurd H (by simp)
        ·replace c23 := Bool.eq_false_iff.mpr c23
         subst c23
         have H1 : (spec_l72Op.j1 kj11 a2 a3 ((rd_T120 l1 t494).f0) ((rd_T120 l1 t497).f0) 0 s0_0 x1001_11) = some (r1, r2, r3, r4, r5, r6) := by rw [if_neg (show ¬ (false = true) by decide)] at H; exact H
         clear H
         have H := H1
         clear H1
         have H' := Aside0.mk H
         clear H
         go_wp2
         go_meet
         case rel => exact ⟨_, (0), (x1001_11), (si_), H', ⟨by have := HJ11.out; first | omega | exact Nat.le_refl _⟩, ⟨by (with_reducible repeat (first | refine blk_drewN ?_ _ | refine blk_drew ?_ | refine blk_alloc ?_ _)); exact BK493.out⟩, ⟨by repeat (first | (with_reducible first | exact HI0.out | apply IsS96.alloc | apply IsS96.drewN | apply IsS96.drew | apply IsS96.set_1 | refine IsS96.far ?_ NB0_493.out _) | exact HI0.out)⟩, ⟨by repeat (first | (with_reducible first | exact HK.out | apply KeepBut.set_ | apply keep_drewN | apply keep_drew | apply keep_alloc | refine keep_far ?_ GW493.out _) | exact HK.out)⟩, ⟨bel_⟩⟩
       case rest =>
        clear HC22
        try clear c1
        try clear c2
        try clear p2
        try clear p4
        try clear q4
        try clear hx4
        try clear c5
        try clear p5
        try clear q5
        try clear hx5
        try clear c6
        try clear c6b0
        try clear c7
        try clear c7b0
        try clear c8
        try clear c9
        try clear c9b0
        try clear c10
        try clear c10b0
        try clear c17
        try clear c17b0
        try clear c17b1
        try clear c23
        try clear c25
        try clear c25b0
        try clear c26
        try clear c26b0
        try clear hx496_0
        try clear hx496_1
        try clear hx496_2
        try clear hx499_0
        try clear hx499_1
        try clear hx499_2
        try clear hx507_0
        try clear p2
        try clear p4
        try clear p496
        try clear p499
        try clear p507
        try clear q4
        try clear q496
        try clear q499
        try clear q507
        obtain ⟨kq, x12_21, x1001_21, rfl, HA, HJ21, BK493, HI0, HK, HB⟩ := hcut
        cases kq with
        | zero => exact absurd HA.out (by simp [spec_l72Op.j1])
        | succ kj21 =>
         have H := HA.out
         clear HA
         simp only [spec_l72Op.j1] at H
         replace H := Option.bind_eq_some_iff.mp H
         obtain ⟨⟨t508, t509⟩, A290, H⟩ := H
         replace H : ((spec_l1Text.f kj21 t508).bind fun t510 => (if t510 = true then (spec_l72Op.j2 kj21 a2 a3 ((rd_T120 l1 t494).f0) ((rd_T120 l1 t497).f0) x12_21 t508 s0_0 t509) else (spec_l72Op.j2 kj21 a2 a3 ((rd_T120 l1 t494).f0) ((rd_T120 l1 t497).f0) x12_21 (⟨#[97]⟩ : ByteArray) s0_0 t509))) = some (r1, r2, r3, r4, r5, r6) := H
         have A29 := Aside0.mk A290
         clear A290
         replace H := Option.bind_eq_some_iff.mp H
         obtain ⟨t510, A300, H⟩ := H
         replace H : (if t510 = true then (spec_l72Op.j2 kj21 a2 a3 ((rd_T120 l1 t494).f0) ((rd_T120 l1 t497).f0) x12_21 t508 s0_0 t509) else (spec_l72Op.j2 kj21 a2 a3 ((rd_T120 l1 t494).f0) ((rd_T120 l1 t497).f0) x12_21 (⟨#[97]⟩ : ByteArray) s0_0 t509)) = some (r1, r2, r3, r4, r5, r6) := H
         have A30 := Aside0.mk A300
         clear A300
         have HC31 := Aside0.mk H
         clear H
         go_upto_if 52 with (first | ((with_reducible refine gate_callee (f := 95) rfl ?_); refine gl_ 49 Tryd.func95 #[.pointer (some ⟨g, 0, none⟩)] ?_; (with_reducible refine (spec_l71Text.calls kj21 g s0_0 x1001_21 t508 t509 w0 _ ?side1 ?side2 A29.out).mono ?_); (case side1 => repeat (first | (with_reducible first | exact HI0.out | apply IsS96.alloc | apply IsS96.drewN | apply IsS96.drew | apply IsS96.set_1 | refine IsS96.far ?_ NB0_493.out _) | exact HI0.out)); (case side2 => exact bel_); rintro e w32 ⟨rfl, hi, hb, hk⟩; refine ⟨_, rfl, ?_⟩; replace BK493 := Aside0.mk (KeepBut.blk hk (g' := gb493) (o := .cells #[.int .i64 0, .int .i64 0, .int .i64 0, .int .i64 0, .string (⟨#[]⟩ : ByteArray)] 54 (0, 0)) (bp_ BK493.out) NB493_0.out (by simp)); replace HK := Aside0.mk (KeepBut.trans (by repeat (first | (with_reducible first | exact HK.out | apply KeepBut.set_ | apply keep_drewN | apply keep_drew | apply keep_alloc | refine keep_far ?_ GW493.out _) | exact HK.out)) hk (.inl rfl)); replace HB := Aside0.mk (hb); replace HI0 := Aside0.mk (hi); (try clear hb); (try clear hb2); (try clear hk); (try clear hi)) | ((with_reducible refine gate_callee (f := 84) rfl ?_); refine gl_ 51 Tryd.func84 #[.string t508] ?_; (with_reducible refine (spec_l1Text.calls kj21 t508 t510 _ A30.out).mono ?_); rintro e w' ⟨rfl, ⟨nd, rfl⟩⟩; refine ⟨_, rfl, ?_⟩))
         (try simp only [Act.put, List.setIfInBounds_toArray, List.set_cons_zero, List.set_cons_succ])
         go_cut [13] (fun v13 wc => ∃ (kq : Nat) (x13_30 : ByteArray), v13 = .string x13_30 ∧ Aside0 (spec_l72Op.j2 kq a2 a3 ((rd_T120 l1 t494).f0) ((rd_T120 l1 t497).f0) x12_21 x13_30 s0_0 t509 = some (r1, r2, r3, r4, r5, r6)) ∧ Aside0 (kq ≤ kj21) ∧ Aside0 (wc.heap[gb493]? = some (.cells #[.int .i64 0, .int .i64 0, .int .i64 0, .int .i64 0, .string (⟨#[]⟩ : ByteArray)] 54 (0, 0))) ∧ Aside0 (IsS96 w0 wc g s0_0 t509) ∧ Aside0 (KeepBut w wc g none) ∧ Aside0 (Below w0.heap.size w0 wc))
         case first =>
          have H := HC31.out
          clear HC31
          by_cases c33 : t510 = true
          ·subst c33
           have H1 : (spec_l72Op.j2 kj21 a2 a3 ((rd_T120 l1 t494).f0) ((rd_T120 l1 t497).f0) x12_21 t508 s0_0 t509) = some (r1, r2, r3, r4, r5, r6) := by rw [if_pos rfl] at H; exact H
           clear H
           have H := H1
           clear H1
           have H' := Aside0.mk H
           clear H
           go_wp2
           go_meet
           case rel => exact ⟨_, (t508), (si_), H', ⟨by have := HJ11.out; have := HJ21.out; first | omega | exact Nat.le_refl _⟩, ⟨by (with_reducible repeat (first | refine blk_drewN ?_ _ | refine blk_drew ?_ | refine blk_alloc ?_ _)); exact BK493.out⟩, ⟨by repeat (first | (with_reducible first | exact HI0.out | apply IsS96.alloc | apply IsS96.drewN | apply IsS96.drew | apply IsS96.set_1 | refine IsS96.far ?_ NB0_493.out _) | exact HI0.out)⟩, ⟨by repeat (first | (with_reducible first | exact HK.out | apply KeepBut.set_ | apply keep_drewN | apply keep_drew | apply keep_alloc | refine keep_far ?_ GW493.out _) | exact HK.out)⟩, ⟨bel_⟩⟩
          ·replace c33 := Bool.eq_false_iff.mpr c33
           subst c33
           have H1 : (spec_l72Op.j2 kj21 a2 a3 ((rd_T120 l1 t494).f0) ((rd_T120 l1 t497).f0) x12_21 (⟨#[97]⟩ : ByteArray) s0_0 t509) = some (r1, r2, r3, r4, r5, r6) := by rw [if_neg (show ¬ (false = true) by decide)] at H; exact H
           clear H
           have H := H1
           clear H1
           have H' := Aside0.mk H
           clear H
           go_wp2
           go_meet
           case rel => exact ⟨_, ((⟨#[97]⟩ : ByteArray)), (si_), H', ⟨by have := HJ11.out; have := HJ21.out; first | omega | exact Nat.le_refl _⟩, ⟨by (with_reducible repeat (first | refine blk_drewN ?_ _ | refine blk_drew ?_ | refine blk_alloc ?_ _)); exact BK493.out⟩, ⟨by repeat (first | (with_reducible first | exact HI0.out | apply IsS96.alloc | apply IsS96.drewN | apply IsS96.drew | apply IsS96.set_1 | refine IsS96.far ?_ NB0_493.out _) | exact HI0.out)⟩, ⟨by repeat (first | (with_reducible first | exact HK.out | apply KeepBut.set_ | apply keep_drewN | apply keep_drew | apply keep_alloc | refine keep_far ?_ GW493.out _) | exact HK.out)⟩, ⟨bel_⟩⟩
         case rest =>
          clear HC31
          try clear c1
          try clear c2
          try clear p2
          try clear c3
          try clear p4
          try clear q4
          try clear hx4
          try clear c5
          try clear p5
          try clear q5
          try clear hx5
          try clear c6
          try clear c6b0
          try clear c7
          try clear c7b0
          try clear c8
          try clear c9
          try clear c9b0
          try clear c10
          try clear c10b0
          try clear c17
          try clear c17b0
          try clear c17b1
          try clear c23
          try clear c25
          try clear c25b0
          try clear c26
          try clear c26b0
          try clear c33
          try clear hx496_0
          try clear hx496_1
          try clear hx496_2
          try clear hx499_0
          try clear hx499_1
          try clear hx499_2
          try clear hx507_0
          try clear p2
          try clear p4
          try clear p496
          try clear p499
          try clear p5
          try clear p507
          try clear q4
          try clear q496
          try clear q499
          try clear q5
          try clear q507
          obtain ⟨kq, x13_30, rfl, HA, HJ30, BK493, HI0, HK, HB⟩ := hcut
          cases kq with
          | zero => exact absurd HA.out (by simp [spec_l72Op.j2])
          | succ kj30 =>
           have H := HA.out
           clear HA
           simp only [spec_l72Op.j2] at H
           replace H := Option.bind_eq_some_iff.mp H
           obtain ⟨⟨t511, t512⟩, A340, H⟩ := H
           replace H : (if t511 = 0 then ((spec_l71Id.f kj30 s0_0 t512).bind fun bt513 => (spec_l72Op.j3 kj30 a2 a3 ((rd_T120 l1 t494).f0) bt513.1 x12_21 x13_30 s0_0 bt513.2)) else (spec_l72Op.j3 kj30 a2 a3 ((rd_T120 l1 t494).f0) ((rd_T120 l1 t497).f0) x12_21 x13_30 s0_0 t512)) = some (r1, r2, r3, r4, r5, r6) := H
           have A34 := Aside0.mk A340
           clear A340
           have HC35 := Aside0.mk H
           clear H
           go_upto_if 55 with (first | ((with_reducible refine gate_callee (f := 56) rfl ?_); refine gl_ 54 Tryd.func56 #[.pointer (some ⟨g, 0, none⟩), .int .i64 6] ?_; (with_reducible refine (spec_l6Rd_pick.calls kj30 g s0_0 t509 6 t511 t512 w0 _ ?side1 ?side2 A34.out).mono ?_); (case side1 => repeat (first | (with_reducible first | exact HI0.out | apply IsS96.alloc | apply IsS96.drewN | apply IsS96.drew | apply IsS96.set_1 | refine IsS96.far ?_ NB0_493.out _) | exact HI0.out)); (case side2 => exact bel_); rintro e w36 ⟨rfl, hi, hb, hk⟩; refine ⟨_, rfl, ?_⟩; replace BK493 := Aside0.mk (KeepBut.blk hk (g' := gb493) (o := .cells #[.int .i64 0, .int .i64 0, .int .i64 0, .int .i64 0, .string (⟨#[]⟩ : ByteArray)] 54 (0, 0)) (bp_ BK493.out) NB493_0.out (by simp)); replace HK := Aside0.mk (KeepBut.trans (by repeat (first | (with_reducible first | exact HK.out | apply KeepBut.set_ | apply keep_drewN | apply keep_drew | apply keep_alloc | refine keep_far ?_ GW493.out _) | exact HK.out)) hk (.inl rfl)); replace HB := Aside0.mk (hb); replace HI0 := Aside0.mk (hi); (try clear hb); (try clear hb2); (try clear hk); (try clear hi)))
           (try simp only [Act.put, List.setIfInBounds_toArray, List.set_cons_zero, List.set_cons_succ])
           go_cut [10] (fun v10 wc => ∃ (kq : Nat) (x10_34 : Int) (x1001_34 : Int), v10 = .int .i64 x10_34 ∧ Aside0 (spec_l72Op.j3 kq a2 a3 ((rd_T120 l1 t494).f0) x10_34 x12_21 x13_30 s0_0 x1001_34 = some (r1, r2, r3, r4, r5, r6)) ∧ Aside0 (kq ≤ kj30) ∧ Aside0 (wc.heap[gb493]? = some (.cells #[.int .i64 0, .int .i64 0, .int .i64 0, .int .i64 0, .string (⟨#[]⟩ : ByteArray)] 54 (0, 0))) ∧ Aside0 (IsS96 w0 wc g s0_0 x1001_34) ∧ Aside0 (KeepBut w wc g none) ∧ Aside0 (Below w0.heap.size w0 wc))
           case first =>
            have H := HC35.out
            clear HC35
            by_cases c37 : t511 = 0
            ·rw [if_pos c37] at H
             have c37b0 : (t511 == 0) = true := beq_iff_eq.mpr c37
             have c37b1 : (t511 != 0) = false := bne_eq_false_iff_eq.mpr c37
             clear c37
             (first | rw [c37b0] | (simp only [i64_w, i32_w]; rw [c37b0]) | skip)
             replace H := Option.bind_eq_some_iff.mp H
             obtain ⟨⟨t513, t514⟩, A380, H⟩ := H
             replace H : (spec_l72Op.j3 kj30 a2 a3 ((rd_T120 l1 t494).f0) t513 x12_21 x13_30 s0_0 t514) = some (r1, r2, r3, r4, r5, r6) := H
             have A38 := Aside0.mk A380
             clear A380
             have H' := Aside0.mk H
             clear H
             go_wp2_with (first | ((with_reducible refine gate_callee (f := 96) rfl ?_); refine gl_ 57 Tryd.func96 #[.pointer (some ⟨g, 0, none⟩)] ?_; (with_reducible refine (spec_l71Id.calls kj30 g s0_0 t512 t513 t514 w0 _ ?side1 ?side2 A38.out).mono ?_); (case side1 => repeat (first | (with_reducible first | exact HI0.out | apply IsS96.alloc | apply IsS96.drewN | apply IsS96.drew | apply IsS96.set_1 | refine IsS96.far ?_ NB0_493.out _) | exact HI0.out)); (case side2 => exact bel_); rintro e w39 ⟨rfl, hi, hb, hk⟩; refine ⟨_, rfl, ?_⟩; replace BK493 := Aside0.mk (KeepBut.blk hk (g' := gb493) (o := .cells #[.int .i64 0, .int .i64 0, .int .i64 0, .int .i64 0, .string (⟨#[]⟩ : ByteArray)] 54 (0, 0)) (bp_ BK493.out) NB493_0.out (by simp)); replace HK := Aside0.mk (KeepBut.trans (by repeat (first | (with_reducible first | exact HK.out | apply KeepBut.set_ | apply keep_drewN | apply keep_drew | apply keep_alloc | refine keep_far ?_ GW493.out _) | exact HK.out)) hk (.inl rfl)); replace HB := Aside0.mk (hb); replace HI0 := Aside0.mk (hi); (try clear hb); (try clear hb2); (try clear hk); (try clear hi)))
             go_meet
             case rel => exact ⟨_, (t513), (t514), (si_), H', ⟨by have := HJ11.out; have := HJ21.out; have := HJ30.out; first | omega | exact Nat.le_refl _⟩, ⟨by (with_reducible repeat (first | refine blk_drewN ?_ _ | refine blk_drew ?_ | refine blk_alloc ?_ _)); exact BK493.out⟩, ⟨by repeat (first | (with_reducible first | exact HI0.out | apply IsS96.alloc | apply IsS96.drewN | apply IsS96.drew | apply IsS96.set_1 | refine IsS96.far ?_ NB0_493.out _) | exact HI0.out)⟩, ⟨by repeat (first | (with_reducible first | exact HK.out | apply KeepBut.set_ | apply keep_drewN | apply keep_drew | apply keep_alloc | refine keep_far ?_ GW493.out _) | exact HK.out)⟩, ⟨bel_⟩⟩
            ·rw [if_neg c37] at H
             have c37b0 : (t511 == 0) = false := beq_eq_false_iff_ne.mpr c37
             have c37b1 : (t511 != 0) = true := bne_iff_ne.mpr c37
             (first | rw [c37b0] | (simp only [i64_w, i32_w]; rw [c37b0]) | skip)
             have H' := Aside0.mk H
             clear H
             go_wp2
             go_meet
             case rel => exact ⟨_, (((rd_T120 l1 t497).f0)), (t512), (si_), H', ⟨by have := HJ11.out; have := HJ21.out; have := HJ30.out; first | omega | exact Nat.le_refl _⟩, ⟨by (with_reducible repeat (first | refine blk_drewN ?_ _ | refine blk_drew ?_ | refine blk_alloc ?_ _)); exact BK493.out⟩, ⟨by repeat (first | (with_reducible first | exact HI0.out | apply IsS96.alloc | apply IsS96.drewN | apply IsS96.drew | apply IsS96.set_1 | refine IsS96.far ?_ NB0_493.out _) | exact HI0.out)⟩, ⟨by repeat (first | (with_reducible first | exact HK.out | apply KeepBut.set_ | apply keep_drewN | apply keep_drew | apply keep_alloc | refine keep_far ?_ GW493.out _) | exact HK.out)⟩, ⟨bel_⟩⟩
           case rest =>
            clear HC35
            try clear c1
            try clear c2
            try clear p2
            try clear c3
            try clear p4
            try clear q4
            try clear hx4
            try clear c5
            try clear p5
            try clear q5
            try clear hx5
            try clear c6
            try clear c6b0
            try clear c7
            try clear c7b0
            try clear c8
            try clear c9
            try clear c9b0
            try clear c10
            try clear c10b0
            try clear c17
            try clear c17b0
            try clear c17b1
            try clear c23
            try clear c25
            try clear c25b0
            try clear c26
            try clear c26b0
            try clear c33
            try clear c37
            try clear c37b0
            try clear c37b1
            try clear hx496_0
            try clear hx496_1
            try clear hx496_2
            try clear hx499_0
            try clear hx499_1
            try clear hx499_2
            try clear hx507_0
            try clear p2
            try clear p4
            try clear p496
            try clear p499
            try clear p5
            try clear p507
            try clear q4
            try clear q496
            try clear q499
            try clear q5
            try clear q507
            obtain ⟨kq, x10_34, x1001_34, rfl, HA, HJ34, BK493, HI0, HK, HB⟩ := hcut
            cases kq with
            | zero => exact absurd HA.out (by simp [spec_l72Op.j3])
            | succ kj34 =>
             have H := HA.out
             clear HA
             simp only [spec_l72Op.j3] at H
             have HC40 := Aside0.mk H
             clear H
             go_upto_region 12 with (fail)
             go_cut [69] (fun v69 wc => ∃ (kq : Nat) (x69_39 : Bool) (x1001_39 : Int), v69 = .bool x69_39 ∧ Aside0 (spec_l72Op.j4 kq a2 a3 ((rd_T120 l1 t494).f0) x10_34 x12_21 x13_30 x69_39 s0_0 x1001_39 = some (r1, r2, r3, r4, r5, r6)) ∧ Aside0 (kq ≤ kj34) ∧ Aside0 (wc.heap[gb493]? = some (.cells #[.int .i64 0, .int .i64 0, .int .i64 0, .int .i64 0, .string (⟨#[]⟩ : ByteArray)] 54 (0, 0))) ∧ Aside0 (IsS96 w0 wc g s0_0 x1001_39) ∧ Aside0 (KeepBut w wc g none) ∧ Aside0 (Below w0.heap.size w0 wc))
             case first =>
              have H := HC40.out
              clear HC40
              by_cases c41 : a3 < 6
              ·rw [if_pos c41] at H
               have c41b0 : decide (a3 < 6) = true := decide_eq_true c41
               clear c41
               (first | rw [c41b0] | (simp only [i64_w, i32_w]; rw [c41b0]) | skip)
               replace H := Option.bind_eq_some_iff.mp H
               obtain ⟨⟨t515, t516⟩, A420, H⟩ := H
               replace H : (if t515 = 0 then (spec_l72Op.j4 kj34 a2 a3 ((rd_T120 l1 t494).f0) x10_34 x12_21 x13_30 true s0_0 t516) else ((spec_l1Made.f ((rd_T120 l1 t494).f0)).bind fun t517 => (spec_l72Op.j4 kj34 a2 a3 ((rd_T120 l1 t494).f0) x10_34 x12_21 x13_30 (!t517) s0_0 t516))) = some (r1, r2, r3, r4, r5, r6) := H
               have A42 := Aside0.mk A420
               clear A420
               by_cases c43 : t515 = 0
               ·rw [if_pos c43] at H
                have c43b0 : (t515 == 0) = true := beq_iff_eq.mpr c43
                have c43b1 : (t515 != 0) = false := bne_eq_false_iff_eq.mpr c43
                clear c43
                have H' := Aside0.mk H
                clear H
                go_wp2_with (first | (go_at_call 56; (with_reducible refine (spec_l6Rd_pick.calls kj34 g s0_0 x1001_34 3 t515 t516 w0 _ ?side1 ?side2 A42.out).mono ?_); (case side1 => repeat (first | (with_reducible first | exact HI0.out | apply IsS96.alloc | apply IsS96.drewN | apply IsS96.drew | apply IsS96.set_1 | refine IsS96.far ?_ NB0_493.out _) | exact HI0.out)); (case side2 => exact bel_); rintro e w44 ⟨rfl, hi, hb, hk⟩; replace BK493 := Aside0.mk (KeepBut.blk hk (g' := gb493) (o := .cells #[.int .i64 0, .int .i64 0, .int .i64 0, .int .i64 0, .string (⟨#[]⟩ : ByteArray)] 54 (0, 0)) (bp_ BK493.out) NB493_0.out (by simp)); replace HK := Aside0.mk (KeepBut.trans (by repeat (first | (with_reducible first | exact HK.out | apply KeepBut.set_ | apply keep_drewN | apply keep_drew | apply keep_alloc | refine keep_far ?_ GW493.out _) | exact HK.out)) hk (.inl rfl)); replace HB := Aside0.mk (hb); replace HI0 := Aside0.mk (hi); (try clear hb); (try clear hb2); (try clear hk); (try clear hi)))
                go_meet
                case rel => exact ⟨_, (true), (t516), (si_), H', ⟨by have := HJ11.out; have := HJ21.out; have := HJ30.out; have := HJ34.out; first | omega | exact Nat.le_refl _⟩, ⟨by (with_reducible repeat (first | refine blk_drewN ?_ _ | refine blk_drew ?_ | refine blk_alloc ?_ _)); exact BK493.out⟩, ⟨by repeat (first | (with_reducible first | exact HI0.out | apply IsS96.alloc | apply IsS96.drewN | apply IsS96.drew | apply IsS96.set_1 | refine IsS96.far ?_ NB0_493.out _) | exact HI0.out)⟩, ⟨by repeat (first | (with_reducible first | exact HK.out | apply KeepBut.set_ | apply keep_drewN | apply keep_drew | apply keep_alloc | refine keep_far ?_ GW493.out _) | exact HK.out)⟩, ⟨bel_⟩⟩
               ·rw [if_neg c43] at H
                have c43b0 : (t515 == 0) = false := beq_eq_false_iff_ne.mpr c43
                have c43b1 : (t515 != 0) = true := bne_iff_ne.mpr c43
                replace H := Option.bind_eq_some_iff.mp H
                obtain ⟨t517, A450, H⟩ := H
                replace H : (spec_l72Op.j4 kj34 a2 a3 ((rd_T120 l1 t494).f0) x10_34 x12_21 x13_30 (!t517) s0_0 t516) = some (r1, r2, r3, r4, r5, r6) := H
                have A45 := Aside0.mk A450
                clear A450
                have H' := Aside0.mk H
                clear H
                go_wp2_with (first | (go_at_call 56; (with_reducible refine (spec_l6Rd_pick.calls kj34 g s0_0 x1001_34 3 t515 t516 w0 _ ?side1 ?side2 A42.out).mono ?_); (case side1 => repeat (first | (with_reducible first | exact HI0.out | apply IsS96.alloc | apply IsS96.drewN | apply IsS96.drew | apply IsS96.set_1 | refine IsS96.far ?_ NB0_493.out _) | exact HI0.out)); (case side2 => exact bel_); rintro e w46 ⟨rfl, hi, hb, hk⟩; replace BK493 := Aside0.mk (KeepBut.blk hk (g' := gb493) (o := .cells #[.int .i64 0, .int .i64 0, .int .i64 0, .int .i64 0, .string (⟨#[]⟩ : ByteArray)] 54 (0, 0)) (bp_ BK493.out) NB493_0.out (by simp)); replace HK := Aside0.mk (KeepBut.trans (by repeat (first | (with_reducible first | exact HK.out | apply KeepBut.set_ | apply keep_drewN | apply keep_drew | apply keep_alloc | refine keep_far ?_ GW493.out _) | exact HK.out)) hk (.inl rfl)); replace HB := Aside0.mk (hb); replace HI0 := Aside0.mk (hi); (try clear hb); (try clear hb2); (try clear hk); (try clear hi)) | (go_at_call 83; (with_reducible refine (spec_l1Made.calls ((rd_T120 l1 t494).f0) t517 _ A45.out).mono ?_); rintro e w' ⟨rfl, ⟨nd, rfl⟩⟩))
                go_meet
                case rel => exact ⟨_, (!t517), (t516), (si_), H', ⟨by have := HJ11.out; have := HJ21.out; have := HJ30.out; have := HJ34.out; first | omega | exact Nat.le_refl _⟩, ⟨by (with_reducible repeat (first | refine blk_drewN ?_ _ | refine blk_drew ?_ | refine blk_alloc ?_ _)); exact BK493.out⟩, ⟨by repeat (first | (with_reducible first | exact HI0.out | apply IsS96.alloc | apply IsS96.drewN | apply IsS96.drew | apply IsS96.set_1 | refine IsS96.far ?_ NB0_493.out _) | exact HI0.out)⟩, ⟨by repeat (first | (with_reducible first | exact HK.out | apply KeepBut.set_ | apply keep_drewN | apply keep_drew | apply keep_alloc | refine keep_far ?_ GW493.out _) | exact HK.out)⟩, ⟨bel_⟩⟩
              ·rw [if_neg c41] at H
               have c41b0 : decide (a3 < 6) = false := decide_eq_false c41
               clear c41
               (first | rw [c41b0] | (simp only [i64_w, i32_w]; rw [c41b0]) | skip)
               have H' := Aside0.mk H
               clear H
               go_wp2
               go_meet
               case rel => exact ⟨_, (false), (x1001_34), (si_), H', ⟨by have := HJ11.out; have := HJ21.out; have := HJ30.out; have := HJ34.out; first | omega | exact Nat.le_refl _⟩, ⟨by (with_reducible repeat (first | refine blk_drewN ?_ _ | refine blk_drew ?_ | refine blk_alloc ?_ _)); exact BK493.out⟩, ⟨by repeat (first | (with_reducible first | exact HI0.out | apply IsS96.alloc | apply IsS96.drewN | apply IsS96.drew | apply IsS96.set_1 | refine IsS96.far ?_ NB0_493.out _) | exact HI0.out)⟩, ⟨by repeat (first | (with_reducible first | exact HK.out | apply KeepBut.set_ | apply keep_drewN | apply keep_drew | apply keep_alloc | refine keep_far ?_ GW493.out _) | exact HK.out)⟩, ⟨bel_⟩⟩
             case rest =>
              clear HC40
              try clear c1
              try clear c2
              try clear p2
              try clear c3
              try clear c4
              try clear p4
              try clear q4
              try clear hx4
              try clear c5
              try clear p5
              try clear q5
              try clear hx5
              try clear c6
              try clear c6b0
              try clear c7
              try clear c7b0
              try clear c8
              try clear c9
              try clear c9b0
              try clear c10
              try clear c10b0
              try clear c17
              try clear c17b0
              try clear c17b1
              try clear c23
              try clear c25
              try clear c25b0
              try clear c26
              try clear c26b0
              try clear c33
              try clear c37
              try clear c37b0
              try clear c37b1
              try clear c41
              try clear c41b0
              try clear c43
              try clear c43b0
              try clear c43b1
              try clear hx496_0
              try clear hx496_1
              try clear hx496_2
              try clear hx499_0
              try clear hx499_1
              try clear hx499_2
              try clear hx507_0
              try clear p2
              try clear p4
              try clear p496
              try clear p499
              try clear p5
              try clear p507
              try clear q4
              try clear q496
              try clear q499
              try clear q5
              try clear q507
              obtain ⟨kq, x69_39, x1001_39, rfl, HA, HJ39, BK493, HI0, HK, HB⟩ := hcut
              cases kq with
              | zero => exact absurd HA.out (by simp [spec_l72Op.j4])
              | succ kj39 =>
               have H := HA.out
               clear HA
               simp only [spec_l72Op.j4] at H
               by_cases c47 : x69_39 = true
               ·subst c47
                have H1 : ((spec_RowMade.f a2 (wrap64 (a3 + 1))).bind fun t518 => (some (1, t518, x10_34, x12_21, x13_30, x1001_39))) = some (r1, r2, r3, r4, r5, r6) := by rw [if_pos rfl] at H; exact H
                clear H
                have H := H1
                clear H1
                replace H := Option.bind_eq_some_iff.mp H
                obtain ⟨t518, A480, H⟩ := H
                replace H : (some (1, t518, x10_34, x12_21, x13_30, x1001_39)) = some (r1, r2, r3, r4, r5, r6) := H
                have A48 := Aside0.mk A480
                clear A480
                simp only [Option.some.injEq, Prod.mk.injEq] at H
                obtain ⟨rfl, rfl, rfl, rfl, rfl, rfl⟩ := H
                go_wp2_with (first | ((with_reducible refine gate_callee (f := 97) rfl ?_); refine gl_ 73 Tryd.func97 #[.int .i64 a2, .int .i64 (wrap64 (a3 + 1))] ?_; (with_reducible refine (spec_RowMade.calls a2 (wrap64 (a3 + 1)) t518 _ A48.out).mono ?_); rintro e w' ⟨rfl, ⟨nd, rfl⟩⟩; refine ⟨_, rfl, ?_⟩; (try (rw [drewN_self wc]; generalize hq_ : World.drewN wc _ = wc; have n0_ : Aside0 (wc.heap[gb493]? = some (.cells #[.int .i64 0, .int .i64 0, .int .i64 0, .int .i64 0, .string (⟨#[]⟩ : ByteArray)] 54 (0, 0))) := ⟨by rw [← hq_]; exact (bp_ BK493.out)⟩; have n1_ : Aside0 (IsS96 w0 wc g s0_0 x1001_39) := ⟨by rw [← hq_]; exact (by repeat (first | (with_reducible first | exact HI0.out | apply IsS96.alloc | apply IsS96.drewN | apply IsS96.drew | apply IsS96.set_1 | refine IsS96.far ?_ NB0_493.out _) | exact HI0.out))⟩; have n2_ : Aside0 (KeepBut w wc g none) := ⟨by rw [← hq_]; exact (by repeat (first | (with_reducible first | exact HK.out | apply KeepBut.set_ | apply keep_drewN | apply keep_drew | apply keep_alloc | refine keep_far ?_ GW493.out _) | exact HK.out))⟩; have n3_ : Aside0 (Below w0.heap.size w0 wc) := ⟨by rw [← hq_]; exact (bel_)⟩; clear BK493 HI0 HK HB hq_; have BK493 := n0_; have HI0 := n1_; have HK := n2_; have HB := n3_; clear n0_ n1_ n2_ n3_)); have hnb49 := NB493_0.out; have hnc49 := NB0_493.out; have hcz50_0 : wc.cell? ⟨gb493, 0, none⟩ = some (.int .i64 0) := (blk_cell BK493.out 0).trans rfl; have hcz50_1 : wc.cell? ⟨gb493, 1, none⟩ = some (.int .i64 0) := (blk_cell BK493.out 1).trans rfl; have hcz50_2 : wc.cell? ⟨gb493, 2, none⟩ = some (.int .i64 0) := (blk_cell BK493.out 2).trans rfl; have hcz50_3 : wc.cell? ⟨gb493, 3, none⟩ = some (.int .i64 0) := (blk_cell BK493.out 3).trans rfl; have hcz50_4 : wc.cell? ⟨gb493, 4, none⟩ = some (.string (⟨#[]⟩ : ByteArray)) := (blk_cell BK493.out 4).trans rfl; have hfz50_0 := blk_frozen BK493.out 0; have hfz50_1 := blk_frozen BK493.out 1; have hfz50_2 := blk_frozen BK493.out 2; have hfz50_3 := blk_frozen BK493.out 3; have hfz50_4 := blk_frozen BK493.out 4))
                refine bodyPost_ret (results_cell_row rfl _ _ gb493 54 #[.int .i64 1, .int .i64 t518, .int .i64 x10_34, .int .i64 x12_21, .string x13_30] (0, 0) _ rfl (by (with_reducible repeat (first | refine blk_drewN ?_ _ | refine blk_drew ?_ | refine blk_alloc ?_ _)); refine blk_put (cs := #[.int .i64 1, .int .i64 t518, .int .i64 x10_34, .int .i64 x12_21, .string (⟨#[]⟩ : ByteArray)]) ?_ 4 _ rfl; (with_reducible repeat (first | refine blk_drewN ?_ _ | refine blk_drew ?_ | refine blk_alloc ?_ _)); refine blk_put (cs := #[.int .i64 1, .int .i64 t518, .int .i64 x10_34, .int .i64 0, .string (⟨#[]⟩ : ByteArray)]) ?_ 3 _ rfl; (with_reducible repeat (first | refine blk_drewN ?_ _ | refine blk_drew ?_ | refine blk_alloc ?_ _)); refine blk_put (cs := #[.int .i64 1, .int .i64 t518, .int .i64 0, .int .i64 0, .string (⟨#[]⟩ : ByteArray)]) ?_ 2 _ rfl; (with_reducible repeat (first | refine blk_drewN ?_ _ | refine blk_drew ?_ | refine blk_alloc ?_ _)); refine blk_put (cs := #[.int .i64 1, .int .i64 0, .int .i64 0, .int .i64 0, .string (⟨#[]⟩ : ByteArray)]) ?_ 1 _ rfl; (with_reducible repeat (first | refine blk_drewN ?_ _ | refine blk_drew ?_ | refine blk_alloc ?_ _)); refine blk_put (cs := #[.int .i64 0, .int .i64 0, .int .i64 0, .int .i64 0, .string (⟨#[]⟩ : ByteArray)]) ?_ 0 _ rfl; (with_reducible repeat (first | refine blk_drewN ?_ _ | refine blk_drew ?_ | refine blk_alloc ?_ _)); exact BK493.out) Tryd.underlying54 rfl (by kernel_rfl)) rfl ?_
                exact ⟨fi_, by repeat (first | (with_reducible first | exact HI0.out | apply IsS96.alloc | apply IsS96.drewN | apply IsS96.drew | apply IsS96.set_1 | refine IsS96.far ?_ NB0_493.out _) | exact HI0.out), bel_, by repeat (first | (with_reducible first | exact HK.out | apply KeepBut.set_ | apply keep_drewN | apply keep_drew | apply keep_alloc | refine keep_far ?_ GW493.out _) | exact HK.out)⟩
               ·replace c47 := Bool.eq_false_iff.mpr c47
                subst c47
                have H1 : ((spec_l1Made.f ((rd_T120 l1 t494).f0)).bind fun t519 => (if t519 = true then ((spec_l6Rd_pick.f kj39 s0_0 x1001_39 3).bind fun bt520 => (if bt520.1 = 0 then (some (2, ((rd_T120 l1 t494).f0), 0, 0, x13_30, bt520.2)) else (some (3, ((rd_T120 l1 t494).f0), x10_34, x12_21, (⟨#[]⟩ : ByteArray), bt520.2)))) else ((spec_l71Id.f kj39 s0_0 x1001_39).bind fun bt522 => ((spec_l6Rd_pick.f kj39 s0_0 bt522.2 3).bind fun bt524 => (if bt524.1 = 0 then (some (2, bt522.1, 0, 0, x13_30, bt524.2)) else (some (3, bt522.1, x10_34, x12_21, (⟨#[]⟩ : ByteArray), bt524.2))))))) = some (r1, r2, r3, r4, r5, r6) := by rw [if_neg (show ¬ (false = true) by decide)] at H; exact H
                clear H
                have H := H1
                clear H1
                replace H := Option.bind_eq_some_iff.mp H
                obtain ⟨t519, A510, H⟩ := H
                replace H : (if t519 = true then ((spec_l6Rd_pick.f kj39 s0_0 x1001_39 3).bind fun bt520 => (if bt520.1 = 0 then (some (2, ((rd_T120 l1 t494).f0), 0, 0, x13_30, bt520.2)) else (some (3, ((rd_T120 l1 t494).f0), x10_34, x12_21, (⟨#[]⟩ : ByteArray), bt520.2)))) else ((spec_l71Id.f kj39 s0_0 x1001_39).bind fun bt522 => ((spec_l6Rd_pick.f kj39 s0_0 bt522.2 3).bind fun bt524 => (if bt524.1 = 0 then (some (2, bt522.1, 0, 0, x13_30, bt524.2)) else (some (3, bt522.1, x10_34, x12_21, (⟨#[]⟩ : ByteArray), bt524.2)))))) = some (r1, r2, r3, r4, r5, r6) := H
                have A51 := Aside0.mk A510
                clear A510
                by_cases c52 : t519 = true
                ·subst c52
                 have H1 : ((spec_l6Rd_pick.f kj39 s0_0 x1001_39 3).bind fun bt520 => (if bt520.1 = 0 then (some (2, ((rd_T120 l1 t494).f0), 0, 0, x13_30, bt520.2)) else (some (3, ((rd_T120 l1 t494).f0), x10_34, x12_21, (⟨#[]⟩ : ByteArray), bt520.2)))) = some (r1, r2, r3, r4, r5, r6) := by rw [if_pos rfl] at H; exact H
                 clear H
                 have H := H1
                 clear H1
                 replace H := Option.bind_eq_some_iff.mp H
                 obtain ⟨⟨t520, t521⟩, A530, H⟩ := H
                 replace H : (if t520 = 0 then (some (2, ((rd_T120 l1 t494).f0), 0, 0, x13_30, t521)) else (some (3, ((rd_T120 l1 t494).f0), x10_34, x12_21, (⟨#[]⟩ : ByteArray), t521))) = some (r1, r2, r3, r4, r5, r6) := H
                 have A53 := Aside0.mk A530
                 clear A530
                 by_cases c54 : t520 = 0
                 ·rw [if_pos c54] at H
                  have c54b0 : (t520 == 0) = true := beq_iff_eq.mpr c54
                  have c54b1 : (t520 != 0) = false := bne_eq_false_iff_eq.mpr c54
                  clear c54
                  simp only [Option.some.injEq, Prod.mk.injEq] at H
                  obtain ⟨rfl, rfl, rfl, rfl, rfl, rfl⟩ := H
                  go_wp2_with (first | ((with_reducible refine gate_callee (f := 83) rfl ?_); refine gl_ 79 Tryd.func83 #[.int .i64 ((rd_T120 l1 t494).f0)] ?_; (with_reducible refine (spec_l1Made.calls ((rd_T120 l1 t494).f0) true _ A51.out).mono ?_); rintro e w' ⟨rfl, ⟨nd, rfl⟩⟩; refine ⟨_, rfl, ?_⟩; (try (rw [drewN_self wc]; generalize hq_ : World.drewN wc _ = wc; have n0_ : Aside0 (wc.heap[gb493]? = some (.cells #[.int .i64 0, .int .i64 0, .int .i64 0, .int .i64 0, .string (⟨#[]⟩ : ByteArray)] 54 (0, 0))) := ⟨by rw [← hq_]; exact (bp_ BK493.out)⟩; have n1_ : Aside0 (IsS96 w0 wc g s0_0 x1001_39) := ⟨by rw [← hq_]; exact (by repeat (first | (with_reducible first | exact HI0.out | apply IsS96.alloc | apply IsS96.drewN | apply IsS96.drew | apply IsS96.set_1 | refine IsS96.far ?_ NB0_493.out _) | exact HI0.out))⟩; have n2_ : Aside0 (KeepBut w wc g none) := ⟨by rw [← hq_]; exact (by repeat (first | (with_reducible first | exact HK.out | apply KeepBut.set_ | apply keep_drewN | apply keep_drew | apply keep_alloc | refine keep_far ?_ GW493.out _) | exact HK.out))⟩; have n3_ : Aside0 (Below w0.heap.size w0 wc) := ⟨by rw [← hq_]; exact (bel_)⟩; clear BK493 HI0 HK HB hq_; have BK493 := n0_; have HI0 := n1_; have HK := n2_; have HB := n3_; clear n0_ n1_ n2_ n3_))) | ((with_reducible refine gate_callee (f := 56) rfl ?_); refine gl_ 84 Tryd.func56 #[.pointer (some ⟨g, 0, none⟩), .int .i64 3] ?_; (with_reducible refine (spec_l6Rd_pick.calls kj39 g s0_0 x1001_39 3 t520 t521 w0 _ ?side1 ?side2 A53.out).mono ?_); (case side1 => repeat (first | (with_reducible first | exact HI0.out | apply IsS96.alloc | apply IsS96.drewN | apply IsS96.drew | apply IsS96.set_1 | refine IsS96.far ?_ NB0_493.out _) | exact HI0.out)); (case side2 => exact bel_); rintro e w55 ⟨rfl, hi, hb, hk⟩; refine ⟨_, rfl, ?_⟩; replace BK493 := Aside0.mk (KeepBut.blk hk (g' := gb493) (o := .cells #[.int .i64 0, .int .i64 0, .int .i64 0, .int .i64 0, .string (⟨#[]⟩ : ByteArray)] 54 (0, 0)) (bp_ BK493.out) NB493_0.out (by simp)); replace HK := Aside0.mk (KeepBut.trans (by repeat (first | (with_reducible first | exact HK.out | apply KeepBut.set_ | apply keep_drewN | apply keep_drew | apply keep_alloc | refine keep_far ?_ GW493.out _) | exact HK.out)) hk (.inl rfl)); replace HB := Aside0.mk (hb); replace HI0 := Aside0.mk (hi); (try clear hb); (try clear hb2); (try clear hk); (try clear hi); have hnb56 := NB493_0.out; have hnc56 := NB0_493.out; have hcz57_0 : w55.cell? ⟨gb493, 0, none⟩ = some (.int .i64 0) := (blk_cell BK493.out 0).trans rfl; have hcz57_1 : w55.cell? ⟨gb493, 1, none⟩ = some (.int .i64 0) := (blk_cell BK493.out 1).trans rfl; have hcz57_2 : w55.cell? ⟨gb493, 2, none⟩ = some (.int .i64 0) := (blk_cell BK493.out 2).trans rfl; have hcz57_3 : w55.cell? ⟨gb493, 3, none⟩ = some (.int .i64 0) := (blk_cell BK493.out 3).trans rfl; have hcz57_4 : w55.cell? ⟨gb493, 4, none⟩ = some (.string (⟨#[]⟩ : ByteArray)) := (blk_cell BK493.out 4).trans rfl; have hfz57_0 := blk_frozen BK493.out 0; have hfz57_1 := blk_frozen BK493.out 1; have hfz57_2 := blk_frozen BK493.out 2; have hfz57_3 := blk_frozen BK493.out 3; have hfz57_4 := blk_frozen BK493.out 4))
                  refine bodyPost_ret (results_cell_row rfl _ _ gb493 54 #[.int .i64 2, .int .i64 ((rd_T120 l1 t494).f0), .int .i64 0, .int .i64 0, .string x13_30] (0, 0) _ rfl (by (with_reducible repeat (first | refine blk_drewN ?_ _ | refine blk_drew ?_ | refine blk_alloc ?_ _)); refine blk_put (cs := #[.int .i64 2, .int .i64 ((rd_T120 l1 t494).f0), .int .i64 0, .int .i64 0, .string (⟨#[]⟩ : ByteArray)]) ?_ 4 _ rfl; (with_reducible repeat (first | refine blk_drewN ?_ _ | refine blk_drew ?_ | refine blk_alloc ?_ _)); refine blk_put (cs := #[.int .i64 2, .int .i64 ((rd_T120 l1 t494).f0), .int .i64 0, .int .i64 0, .string (⟨#[]⟩ : ByteArray)]) ?_ 3 _ rfl; (with_reducible repeat (first | refine blk_drewN ?_ _ | refine blk_drew ?_ | refine blk_alloc ?_ _)); refine blk_put (cs := #[.int .i64 2, .int .i64 ((rd_T120 l1 t494).f0), .int .i64 0, .int .i64 0, .string (⟨#[]⟩ : ByteArray)]) ?_ 2 _ rfl; (with_reducible repeat (first | refine blk_drewN ?_ _ | refine blk_drew ?_ | refine blk_alloc ?_ _)); refine blk_put (cs := #[.int .i64 2, .int .i64 0, .int .i64 0, .int .i64 0, .string (⟨#[]⟩ : ByteArray)]) ?_ 1 _ rfl; (with_reducible repeat (first | refine blk_drewN ?_ _ | refine blk_drew ?_ | refine blk_alloc ?_ _)); refine blk_put (cs := #[.int .i64 0, .int .i64 0, .int .i64 0, .int .i64 0, .string (⟨#[]⟩ : ByteArray)]) ?_ 0 _ rfl; (with_reducible repeat (first | refine blk_drewN ?_ _ | refine blk_drew ?_ | refine blk_alloc ?_ _)); exact BK493.out) Tryd.underlying54 rfl (by kernel_rfl)) rfl ?_
                  exact ⟨fi_, by repeat (first | (with_reducible first | exact HI0.out | apply IsS96.alloc | apply IsS96.drewN | apply IsS96.drew | apply IsS96.set_1 | refine IsS96.far ?_ NB0_493.out _) | exact HI0.out), bel_, by repeat (first | (with_reducible first | exact HK.out | apply KeepBut.set_ | apply keep_drewN | apply keep_drew | apply keep_alloc | refine keep_far ?_ GW493.out _) | exact HK.out)⟩
                 ·rw [if_neg c54] at H
                  have c54b0 : (t520 == 0) = false := beq_eq_false_iff_ne.mpr c54
                  have c54b1 : (t520 != 0) = true := bne_iff_ne.mpr c54
                  simp only [Option.some.injEq, Prod.mk.injEq] at H
                  obtain ⟨rfl, rfl, rfl, rfl, rfl, rfl⟩ := H
                  go_wp2_with (first | ((with_reducible refine gate_callee (f := 83) rfl ?_); refine gl_ 79 Tryd.func83 #[.int .i64 ((rd_T120 l1 t494).f0)] ?_; (with_reducible refine (spec_l1Made.calls ((rd_T120 l1 t494).f0) true _ A51.out).mono ?_); rintro e w' ⟨rfl, ⟨nd, rfl⟩⟩; refine ⟨_, rfl, ?_⟩; (try (rw [drewN_self wc]; generalize hq_ : World.drewN wc _ = wc; have n0_ : Aside0 (wc.heap[gb493]? = some (.cells #[.int .i64 0, .int .i64 0, .int .i64 0, .int .i64 0, .string (⟨#[]⟩ : ByteArray)] 54 (0, 0))) := ⟨by rw [← hq_]; exact (bp_ BK493.out)⟩; have n1_ : Aside0 (IsS96 w0 wc g s0_0 x1001_39) := ⟨by rw [← hq_]; exact (by repeat (first | (with_reducible first | exact HI0.out | apply IsS96.alloc | apply IsS96.drewN | apply IsS96.drew | apply IsS96.set_1 | refine IsS96.far ?_ NB0_493.out _) | exact HI0.out))⟩; have n2_ : Aside0 (KeepBut w wc g none) := ⟨by rw [← hq_]; exact (by repeat (first | (with_reducible first | exact HK.out | apply KeepBut.set_ | apply keep_drewN | apply keep_drew | apply keep_alloc | refine keep_far ?_ GW493.out _) | exact HK.out))⟩; have n3_ : Aside0 (Below w0.heap.size w0 wc) := ⟨by rw [← hq_]; exact (bel_)⟩; clear BK493 HI0 HK HB hq_; have BK493 := n0_; have HI0 := n1_; have HK := n2_; have HB := n3_; clear n0_ n1_ n2_ n3_))) | ((with_reducible refine gate_callee (f := 56) rfl ?_); refine gl_ 84 Tryd.func56 #[.pointer (some ⟨g, 0, none⟩), .int .i64 3] ?_; (with_reducible refine (spec_l6Rd_pick.calls kj39 g s0_0 x1001_39 3 t520 t521 w0 _ ?side1 ?side2 A53.out).mono ?_); (case side1 => repeat (first | (with_reducible first | exact HI0.out | apply IsS96.alloc | apply IsS96.drewN | apply IsS96.drew | apply IsS96.set_1 | refine IsS96.far ?_ NB0_493.out _) | exact HI0.out)); (case side2 => exact bel_); rintro e w58 ⟨rfl, hi, hb, hk⟩; refine ⟨_, rfl, ?_⟩; replace BK493 := Aside0.mk (KeepBut.blk hk (g' := gb493) (o := .cells #[.int .i64 0, .int .i64 0, .int .i64 0, .int .i64 0, .string (⟨#[]⟩ : ByteArray)] 54 (0, 0)) (bp_ BK493.out) NB493_0.out (by simp)); replace HK := Aside0.mk (KeepBut.trans (by repeat (first | (with_reducible first | exact HK.out | apply KeepBut.set_ | apply keep_drewN | apply keep_drew | apply keep_alloc | refine keep_far ?_ GW493.out _) | exact HK.out)) hk (.inl rfl)); replace HB := Aside0.mk (hb); replace HI0 := Aside0.mk (hi); (try clear hb); (try clear hb2); (try clear hk); (try clear hi); have hnb59 := NB493_0.out; have hnc59 := NB0_493.out; have hcz60_0 : w58.cell? ⟨gb493, 0, none⟩ = some (.int .i64 0) := (blk_cell BK493.out 0).trans rfl; have hcz60_1 : w58.cell? ⟨gb493, 1, none⟩ = some (.int .i64 0) := (blk_cell BK493.out 1).trans rfl; have hcz60_2 : w58.cell? ⟨gb493, 2, none⟩ = some (.int .i64 0) := (blk_cell BK493.out 2).trans rfl; have hcz60_3 : w58.cell? ⟨gb493, 3, none⟩ = some (.int .i64 0) := (blk_cell BK493.out 3).trans rfl; have hcz60_4 : w58.cell? ⟨gb493, 4, none⟩ = some (.string (⟨#[]⟩ : ByteArray)) := (blk_cell BK493.out 4).trans rfl; have hfz60_0 := blk_frozen BK493.out 0; have hfz60_1 := blk_frozen BK493.out 1; have hfz60_2 := blk_frozen BK493.out 2; have hfz60_3 := blk_frozen BK493.out 3; have hfz60_4 := blk_frozen BK493.out 4))
                  refine bodyPost_ret (results_cell_row rfl _ _ gb493 54 #[.int .i64 3, .int .i64 ((rd_T120 l1 t494).f0), .int .i64 x10_34, .int .i64 x12_21, .string (⟨#[]⟩ : ByteArray)] (0, 0) _ rfl (by (with_reducible repeat (first | refine blk_drewN ?_ _ | refine blk_drew ?_ | refine blk_alloc ?_ _)); refine blk_put (cs := #[.int .i64 3, .int .i64 ((rd_T120 l1 t494).f0), .int .i64 x10_34, .int .i64 x12_21, .string (⟨#[]⟩ : ByteArray)]) ?_ 4 _ rfl; (with_reducible repeat (first | refine blk_drewN ?_ _ | refine blk_drew ?_ | refine blk_alloc ?_ _)); refine blk_put (cs := #[.int .i64 3, .int .i64 ((rd_T120 l1 t494).f0), .int .i64 x10_34, .int .i64 0, .string (⟨#[]⟩ : ByteArray)]) ?_ 3 _ rfl; (with_reducible repeat (first | refine blk_drewN ?_ _ | refine blk_drew ?_ | refine blk_alloc ?_ _)); refine blk_put (cs := #[.int .i64 3, .int .i64 ((rd_T120 l1 t494).f0), .int .i64 0, .int .i64 0, .string (⟨#[]⟩ : ByteArray)]) ?_ 2 _ rfl; (with_reducible repeat (first | refine blk_drewN ?_ _ | refine blk_drew ?_ | refine blk_alloc ?_ _)); refine blk_put (cs := #[.int .i64 3, .int .i64 0, .int .i64 0, .int .i64 0, .string (⟨#[]⟩ : ByteArray)]) ?_ 1 _ rfl; (with_reducible repeat (first | refine blk_drewN ?_ _ | refine blk_drew ?_ | refine blk_alloc ?_ _)); refine blk_put (cs := #[.int .i64 0, .int .i64 0, .int .i64 0, .int .i64 0, .string (⟨#[]⟩ : ByteArray)]) ?_ 0 _ rfl; (with_reducible repeat (first | refine blk_drewN ?_ _ | refine blk_drew ?_ | refine blk_alloc ?_ _)); exact BK493.out) Tryd.underlying54 rfl (by kernel_rfl)) rfl ?_
                  exact ⟨fi_, by repeat (first | (with_reducible first | exact HI0.out | apply IsS96.alloc | apply IsS96.drewN | apply IsS96.drew | apply IsS96.set_1 | refine IsS96.far ?_ NB0_493.out _) | exact HI0.out), bel_, by repeat (first | (with_reducible first | exact HK.out | apply KeepBut.set_ | apply keep_drewN | apply keep_drew | apply keep_alloc | refine keep_far ?_ GW493.out _) | exact HK.out)⟩
                ·replace c52 := Bool.eq_false_iff.mpr c52
                 subst c52
                 have H1 : ((spec_l71Id.f kj39 s0_0 x1001_39).bind fun bt522 => ((spec_l6Rd_pick.f kj39 s0_0 bt522.2 3).bind fun bt524 => (if bt524.1 = 0 then (some (2, bt522.1, 0, 0, x13_30, bt524.2)) else (some (3, bt522.1, x10_34, x12_21, (⟨#[]⟩ : ByteArray), bt524.2))))) = some (r1, r2, r3, r4, r5, r6) := by rw [if_neg (show ¬ (false = true) by decide)] at H; exact H
                 clear H
                 have H := H1
                 clear H1
                 replace H := Option.bind_eq_some_iff.mp H
                 obtain ⟨⟨t522, t523⟩, A610, H⟩ := H
                 replace H : ((spec_l6Rd_pick.f kj39 s0_0 t523 3).bind fun bt524 => (if bt524.1 = 0 then (some (2, t522, 0, 0, x13_30, bt524.2)) else (some (3, t522, x10_34, x12_21, (⟨#[]⟩ : ByteArray), bt524.2)))) = some (r1, r2, r3, r4, r5, r6) := H
                 have A61 := Aside0.mk A610
                 clear A610
                 replace H := Option.bind_eq_some_iff.mp H
                 obtain ⟨⟨t524, t525⟩, A620, H⟩ := H
                 replace H : (if t524 = 0 then (some (2, t522, 0, 0, x13_30, t525)) else (some (3, t522, x10_34, x12_21, (⟨#[]⟩ : ByteArray), t525))) = some (r1, r2, r3, r4, r5, r6) := H
                 have A62 := Aside0.mk A620
                 clear A620
                 by_cases c63 : t524 = 0
                 ·rw [if_pos c63] at H
                  have c63b0 : (t524 == 0) = true := beq_iff_eq.mpr c63
                  have c63b1 : (t524 != 0) = false := bne_eq_false_iff_eq.mpr c63
                  clear c63
                  simp only [Option.some.injEq, Prod.mk.injEq] at H
                  obtain ⟨rfl, rfl, rfl, rfl, rfl, rfl⟩ := H
                  go_wp2_with (first | ((with_reducible refine gate_callee (f := 83) rfl ?_); refine gl_ 79 Tryd.func83 #[.int .i64 ((rd_T120 l1 t494).f0)] ?_; (with_reducible refine (spec_l1Made.calls ((rd_T120 l1 t494).f0) false _ A51.out).mono ?_); rintro e w' ⟨rfl, ⟨nd, rfl⟩⟩; refine ⟨_, rfl, ?_⟩; (try (rw [drewN_self wc]; generalize hq_ : World.drewN wc _ = wc; have n0_ : Aside0 (wc.heap[gb493]? = some (.cells #[.int .i64 0, .int .i64 0, .int .i64 0, .int .i64 0, .string (⟨#[]⟩ : ByteArray)] 54 (0, 0))) := ⟨by rw [← hq_]; exact (bp_ BK493.out)⟩; have n1_ : Aside0 (IsS96 w0 wc g s0_0 x1001_39) := ⟨by rw [← hq_]; exact (by repeat (first | (with_reducible first | exact HI0.out | apply IsS96.alloc | apply IsS96.drewN | apply IsS96.drew | apply IsS96.set_1 | refine IsS96.far ?_ NB0_493.out _) | exact HI0.out))⟩; have n2_ : Aside0 (KeepBut w wc g none) := ⟨by rw [← hq_]; exact (by repeat (first | (with_reducible first | exact HK.out | apply KeepBut.set_ | apply keep_drewN | apply keep_drew | apply keep_alloc | refine keep_far ?_ GW493.out _) | exact HK.out))⟩; have n3_ : Aside0 (Below w0.heap.size w0 wc) := ⟨by rw [← hq_]; exact (bel_)⟩; clear BK493 HI0 HK HB hq_; have BK493 := n0_; have HI0 := n1_; have HK := n2_; have HB := n3_; clear n0_ n1_ n2_ n3_))) | ((with_reducible refine gate_callee (f := 96) rfl ?_); refine gl_ 82 Tryd.func96 #[.pointer (some ⟨g, 0, none⟩)] ?_; (with_reducible refine (spec_l71Id.calls kj39 g s0_0 x1001_39 t522 t523 w0 _ ?side1 ?side2 A61.out).mono ?_); (case side1 => repeat (first | (with_reducible first | exact HI0.out | apply IsS96.alloc | apply IsS96.drewN | apply IsS96.drew | apply IsS96.set_1 | refine IsS96.far ?_ NB0_493.out _) | exact HI0.out)); (case side2 => exact bel_); rintro e w64 ⟨rfl, hi, hb, hk⟩; refine ⟨_, rfl, ?_⟩; replace BK493 := Aside0.mk (KeepBut.blk hk (g' := gb493) (o := .cells #[.int .i64 0, .int .i64 0, .int .i64 0, .int .i64 0, .string (⟨#[]⟩ : ByteArray)] 54 (0, 0)) (bp_ BK493.out) NB493_0.out (by simp)); replace HK := Aside0.mk (KeepBut.trans (by repeat (first | (with_reducible first | exact HK.out | apply KeepBut.set_ | apply keep_drewN | apply keep_drew | apply keep_alloc | refine keep_far ?_ GW493.out _) | exact HK.out)) hk (.inl rfl)); replace HB := Aside0.mk (hb); replace HI0 := Aside0.mk (hi); (try clear hb); (try clear hb2); (try clear hk); (try clear hi)) | ((with_reducible refine gate_callee (f := 56) rfl ?_); refine gl_ 84 Tryd.func56 #[.pointer (some ⟨g, 0, none⟩), .int .i64 3] ?_; (with_reducible refine (spec_l6Rd_pick.calls kj39 g s0_0 t523 3 t524 t525 w0 _ ?side1 ?side2 A62.out).mono ?_); (case side1 => repeat (first | (with_reducible first | exact HI0.out | apply IsS96.alloc | apply IsS96.drewN | apply IsS96.drew | apply IsS96.set_1 | refine IsS96.far ?_ NB0_493.out _) | exact HI0.out)); (case side2 => exact bel_); rintro e w65 ⟨rfl, hi, hb, hk⟩; refine ⟨_, rfl, ?_⟩; replace BK493 := Aside0.mk (KeepBut.blk hk (g' := gb493) (o := .cells #[.int .i64 0, .int .i64 0, .int .i64 0, .int .i64 0, .string (⟨#[]⟩ : ByteArray)] 54 (0, 0)) (bp_ BK493.out) NB493_0.out (by simp)); replace HK := Aside0.mk (KeepBut.trans (by repeat (first | (with_reducible first | exact HK.out | apply KeepBut.set_ | apply keep_drewN | apply keep_drew | apply keep_alloc | refine keep_far ?_ GW493.out _) | exact HK.out)) hk (.inl rfl)); replace HB := Aside0.mk (hb); replace HI0 := Aside0.mk (hi); (try clear hb); (try clear hb2); (try clear hk); (try clear hi); have hnb66 := NB493_0.out; have hnc66 := NB0_493.out; have hcz67_0 : w65.cell? ⟨gb493, 0, none⟩ = some (.int .i64 0) := (blk_cell BK493.out 0).trans rfl; have hcz67_1 : w65.cell? ⟨gb493, 1, none⟩ = some (.int .i64 0) := (blk_cell BK493.out 1).trans rfl; have hcz67_2 : w65.cell? ⟨gb493, 2, none⟩ = some (.int .i64 0) := (blk_cell BK493.out 2).trans rfl; have hcz67_3 : w65.cell? ⟨gb493, 3, none⟩ = some (.int .i64 0) := (blk_cell BK493.out 3).trans rfl; have hcz67_4 : w65.cell? ⟨gb493, 4, none⟩ = some (.string (⟨#[]⟩ : ByteArray)) := (blk_cell BK493.out 4).trans rfl; have hfz67_0 := blk_frozen BK493.out 0; have hfz67_1 := blk_frozen BK493.out 1; have hfz67_2 := blk_frozen BK493.out 2; have hfz67_3 := blk_frozen BK493.out 3; have hfz67_4 := blk_frozen BK493.out 4))
                  refine bodyPost_ret (results_cell_row rfl _ _ gb493 54 #[.int .i64 2, .int .i64 t522, .int .i64 0, .int .i64 0, .string x13_30] (0, 0) _ rfl (by (with_reducible repeat (first | refine blk_drewN ?_ _ | refine blk_drew ?_ | refine blk_alloc ?_ _)); refine blk_put (cs := #[.int .i64 2, .int .i64 t522, .int .i64 0, .int .i64 0, .string (⟨#[]⟩ : ByteArray)]) ?_ 4 _ rfl; (with_reducible repeat (first | refine blk_drewN ?_ _ | refine blk_drew ?_ | refine blk_alloc ?_ _)); refine blk_put (cs := #[.int .i64 2, .int .i64 t522, .int .i64 0, .int .i64 0, .string (⟨#[]⟩ : ByteArray)]) ?_ 3 _ rfl; (with_reducible repeat (first | refine blk_drewN ?_ _ | refine blk_drew ?_ | refine blk_alloc ?_ _)); refine blk_put (cs := #[.int .i64 2, .int .i64 t522, .int .i64 0, .int .i64 0, .string (⟨#[]⟩ : ByteArray)]) ?_ 2 _ rfl; (with_reducible repeat (first | refine blk_drewN ?_ _ | refine blk_drew ?_ | refine blk_alloc ?_ _)); refine blk_put (cs := #[.int .i64 2, .int .i64 0, .int .i64 0, .int .i64 0, .string (⟨#[]⟩ : ByteArray)]) ?_ 1 _ rfl; (with_reducible repeat (first | refine blk_drewN ?_ _ | refine blk_drew ?_ | refine blk_alloc ?_ _)); refine blk_put (cs := #[.int .i64 0, .int .i64 0, .int .i64 0, .int .i64 0, .string (⟨#[]⟩ : ByteArray)]) ?_ 0 _ rfl; (with_reducible repeat (first | refine blk_drewN ?_ _ | refine blk_drew ?_ | refine blk_alloc ?_ _)); exact BK493.out) Tryd.underlying54 rfl (by kernel_rfl)) rfl ?_
                  exact ⟨fi_, by repeat (first | (with_reducible first | exact HI0.out | apply IsS96.alloc | apply IsS96.drewN | apply IsS96.drew | apply IsS96.set_1 | refine IsS96.far ?_ NB0_493.out _) | exact HI0.out), bel_, by repeat (first | (with_reducible first | exact HK.out | apply KeepBut.set_ | apply keep_drewN | apply keep_drew | apply keep_alloc | refine keep_far ?_ GW493.out _) | exact HK.out)⟩
                 ·rw [if_neg c63] at H
                  have c63b0 : (t524 == 0) = false := beq_eq_false_iff_ne.mpr c63
                  have c63b1 : (t524 != 0) = true := bne_iff_ne.mpr c63
                  simp only [Option.some.injEq, Prod.mk.injEq] at H
                  obtain ⟨rfl, rfl, rfl, rfl, rfl, rfl⟩ := H
                  go_wp2_with (first | ((with_reducible refine gate_callee (f := 83) rfl ?_); refine gl_ 79 Tryd.func83 #[.int .i64 ((rd_T120 l1 t494).f0)] ?_; (with_reducible refine (spec_l1Made.calls ((rd_T120 l1 t494).f0) false _ A51.out).mono ?_); rintro e w' ⟨rfl, ⟨nd, rfl⟩⟩; refine ⟨_, rfl, ?_⟩; (try (rw [drewN_self wc]; generalize hq_ : World.drewN wc _ = wc; have n0_ : Aside0 (wc.heap[gb493]? = some (.cells #[.int .i64 0, .int .i64 0, .int .i64 0, .int .i64 0, .string (⟨#[]⟩ : ByteArray)] 54 (0, 0))) := ⟨by rw [← hq_]; exact (bp_ BK493.out)⟩; have n1_ : Aside0 (IsS96 w0 wc g s0_0 x1001_39) := ⟨by rw [← hq_]; exact (by repeat (first | (with_reducible first | exact HI0.out | apply IsS96.alloc | apply IsS96.drewN | apply IsS96.drew | apply IsS96.set_1 | refine IsS96.far ?_ NB0_493.out _) | exact HI0.out))⟩; have n2_ : Aside0 (KeepBut w wc g none) := ⟨by rw [← hq_]; exact (by repeat (first | (with_reducible first | exact HK.out | apply KeepBut.set_ | apply keep_drewN | apply keep_drew | apply keep_alloc | refine keep_far ?_ GW493.out _) | exact HK.out))⟩; have n3_ : Aside0 (Below w0.heap.size w0 wc) := ⟨by rw [← hq_]; exact (bel_)⟩; clear BK493 HI0 HK HB hq_; have BK493 := n0_; have HI0 := n1_; have HK := n2_; have HB := n3_; clear n0_ n1_ n2_ n3_))) | ((with_reducible refine gate_callee (f := 96) rfl ?_); refine gl_ 82 Tryd.func96 #[.pointer (some ⟨g, 0, none⟩)] ?_; (with_reducible refine (spec_l71Id.calls kj39 g s0_0 x1001_39 t522 t523 w0 _ ?side1 ?side2 A61.out).mono ?_); (case side1 => repeat (first | (with_reducible first | exact HI0.out | apply IsS96.alloc | apply IsS96.drewN | apply IsS96.drew | apply IsS96.set_1 | refine IsS96.far ?_ NB0_493.out _) | exact HI0.out)); (case side2 => exact bel_); rintro e w68 ⟨rfl, hi, hb, hk⟩; refine ⟨_, rfl, ?_⟩; replace BK493 := Aside0.mk (KeepBut.blk hk (g' := gb493) (o := .cells #[.int .i64 0, .int .i64 0, .int .i64 0, .int .i64 0, .string (⟨#[]⟩ : ByteArray)] 54 (0, 0)) (bp_ BK493.out) NB493_0.out (by simp)); replace HK := Aside0.mk (KeepBut.trans (by repeat (first | (with_reducible first | exact HK.out | apply KeepBut.set_ | apply keep_drewN | apply keep_drew | apply keep_alloc | refine keep_far ?_ GW493.out _) | exact HK.out)) hk (.inl rfl)); replace HB := Aside0.mk (hb); replace HI0 := Aside0.mk (hi); (try clear hb); (try clear hb2); (try clear hk); (try clear hi)) | ((with_reducible refine gate_callee (f := 56) rfl ?_); refine gl_ 84 Tryd.func56 #[.pointer (some ⟨g, 0, none⟩), .int .i64 3] ?_; (with_reducible refine (spec_l6Rd_pick.calls kj39 g s0_0 t523 3 t524 t525 w0 _ ?side1 ?side2 A62.out).mono ?_); (case side1 => repeat (first | (with_reducible first | exact HI0.out | apply IsS96.alloc | apply IsS96.drewN | apply IsS96.drew | apply IsS96.set_1 | refine IsS96.far ?_ NB0_493.out _) | exact HI0.out)); (case side2 => exact bel_); rintro e w69 ⟨rfl, hi, hb, hk⟩; refine ⟨_, rfl, ?_⟩; replace BK493 := Aside0.mk (KeepBut.blk hk (g' := gb493) (o := .cells #[.int .i64 0, .int .i64 0, .int .i64 0, .int .i64 0, .string (⟨#[]⟩ : ByteArray)] 54 (0, 0)) (bp_ BK493.out) NB493_0.out (by simp)); replace HK := Aside0.mk (KeepBut.trans (by repeat (first | (with_reducible first | exact HK.out | apply KeepBut.set_ | apply keep_drewN | apply keep_drew | apply keep_alloc | refine keep_far ?_ GW493.out _) | exact HK.out)) hk (.inl rfl)); replace HB := Aside0.mk (hb); replace HI0 := Aside0.mk (hi); (try clear hb); (try clear hb2); (try clear hk); (try clear hi); have hnb70 := NB493_0.out; have hnc70 := NB0_493.out; have hcz71_0 : w69.cell? ⟨gb493, 0, none⟩ = some (.int .i64 0) := (blk_cell BK493.out 0).trans rfl; have hcz71_1 : w69.cell? ⟨gb493, 1, none⟩ = some (.int .i64 0) := (blk_cell BK493.out 1).trans rfl; have hcz71_2 : w69.cell? ⟨gb493, 2, none⟩ = some (.int .i64 0) := (blk_cell BK493.out 2).trans rfl; have hcz71_3 : w69.cell? ⟨gb493, 3, none⟩ = some (.int .i64 0) := (blk_cell BK493.out 3).trans rfl; have hcz71_4 : w69.cell? ⟨gb493, 4, none⟩ = some (.string (⟨#[]⟩ : ByteArray)) := (blk_cell BK493.out 4).trans rfl; have hfz71_0 := blk_frozen BK493.out 0; have hfz71_1 := blk_frozen BK493.out 1; have hfz71_2 := blk_frozen BK493.out 2; have hfz71_3 := blk_frozen BK493.out 3; have hfz71_4 := blk_frozen BK493.out 4))
                  refine bodyPost_ret (results_cell_row rfl _ _ gb493 54 #[.int .i64 3, .int .i64 t522, .int .i64 x10_34, .int .i64 x12_21, .string (⟨#[]⟩ : ByteArray)] (0, 0) _ rfl (by (with_reducible repeat (first | refine blk_drewN ?_ _ | refine blk_drew ?_ | refine blk_alloc ?_ _)); refine blk_put (cs := #[.int .i64 3, .int .i64 t522, .int .i64 x10_34, .int .i64 x12_21, .string (⟨#[]⟩ : ByteArray)]) ?_ 4 _ rfl; (with_reducible repeat (first | refine blk_drewN ?_ _ | refine blk_drew ?_ | refine blk_alloc ?_ _)); refine blk_put (cs := #[.int .i64 3, .int .i64 t522, .int .i64 x10_34, .int .i64 0, .string (⟨#[]⟩ : ByteArray)]) ?_ 3 _ rfl; (with_reducible repeat (first | refine blk_drewN ?_ _ | refine blk_drew ?_ | refine blk_alloc ?_ _)); refine blk_put (cs := #[.int .i64 3, .int .i64 t522, .int .i64 0, .int .i64 0, .string (⟨#[]⟩ : ByteArray)]) ?_ 2 _ rfl; (with_reducible repeat (first | refine blk_drewN ?_ _ | refine blk_drew ?_ | refine blk_alloc ?_ _)); refine blk_put (cs := #[.int .i64 3, .int .i64 0, .int .i64 0, .int .i64 0, .string (⟨#[]⟩ : ByteArray)]) ?_ 1 _ rfl; (with_reducible repeat (first | refine blk_drewN ?_ _ | refine blk_drew ?_ | refine blk_alloc ?_ _)); refine blk_put (cs := #[.int .i64 0, .int .i64 0, .int .i64 0, .int .i64 0, .string (⟨#[]⟩ : ByteArray)]) ?_ 0 _ rfl; (with_reducible repeat (first | refine blk_drewN ?_ _ | refine blk_drew ?_ | refine blk_alloc ?_ _)); exact BK493.out) Tryd.underlying54 rfl (by kernel_rfl)) rfl ?_
                  exact ⟨fi_, by repeat (first | (with_reducible first | exact HI0.out | apply IsS96.alloc | apply IsS96.drewN | apply IsS96.drew | apply IsS96.set_1 | refine IsS96.far ?_ NB0_493.out _) | exact HI0.out), bel_, by repeat (first | (with_reducible first | exact HK.out | apply KeepBut.set_ | apply keep_drewN | apply keep_drew | apply keep_alloc | refine keep_far ?_ GW493.out _) | exact HK.out)⟩
    ·rw [if_neg c10] at H
     exact absurd H (by simp)
   ·rw [if_neg c9] at H
    exact absurd H (by simp)
  ·rw [if_neg c7] at H
   exact absurd H (by simp)
 ·rw [if_neg c6] at H
  exact absurd H (by simp)

end Go.Proofs.YtnclcbjagleoeaaDoor.P
namespace Go.Proofs.YtnclcbjagleoeaaDoor.P
open Go.RowKit Go.Proofs.YtnclcbjagleoeaaDoorW.PrintWords Go.Proofs.YtnclcbjagleoeaaDoorW.PrintLast
set_option linter.unusedVariables false
set_option linter.unusedSimpArgs false
def spec_l2Under.f (k : Nat) (l0 : List (S120)) (a1 : Int) (a2 : Int) : Option (Bool) := (spec_l2At.f k l0 a1).bind fun t526 => ((spec_l2At.f k l0 a2).bind fun t527 => (if t526 ≥ 0 then (if t527 ≥ 0 then ((spec_l2End.f k l0 t527).bind fun t528 => ((spec_l6In.f t526 t527 (wrap64 (t528 - 1))).bind fun t529 => (some t529))) else (some false)) else (some false)))
theorem spec_l2Under.mono : ∀ a0 a1 a2 k, LeO (spec_l2Under.f k a0 a1 a2) (spec_l2Under.f (k + 1) a0 a1 a2) := by
 intro a0 a1 a2 k
 unfold spec_l2Under.f
 repeat' first
   | (with_reducible exact spec_l2At.mono _ _ _)
   | (with_reducible exact spec_l2End.mono _ _ _)
   | (with_reducible exact LeO.refl _)
   | (with_reducible exact LeO.none _)
   | (with_reducible refine LeO.ite ?_ ?_)
   | (with_reducible refine LeO.bind ?_ (fun _ => ?_))
   | exact spec_l2At.mono _ _ _
   | exact spec_l2End.mono _ _ _
   | exact LeO.none _
   | refine LeO.ite ?_ ?_
   | refine LeO.bind ?_ (fun _ => ?_)
set_option maxHeartbeats 8000000 in
set_option maxRecDepth 100000 in
theorem spec_l2Under.calls (k : Nat) (A0 : Option Addr) (c0 : Nat) (l0 : List (S120)) (a1 : Int) (a2 : Int) (r : Bool) (w : World) (hr0 : Kd.C k120 w A0 l0.length l0) (hc0 : l0.length ≤ c0) (h : spec_l2Under.f k l0 a1 a2 = some r) :
  Calls Tryd.prog 106 #[.slice A0 l0.length c0, .int .i64 a1, .int .i64 a2] w fun e w' => e = .returned (.bool r) ∧ Drawn0 w w' := by
 have HR0 := Aside0.mk hr0
 have HC0 := Aside0.mk hc0
 clear hr0 hc0
 have H : ((spec_l2At.f k l0 a1).bind fun t526 => ((spec_l2At.f k l0 a2).bind fun t527 => (if t526 ≥ 0 then (if t527 ≥ 0 then ((spec_l2End.f k l0 t527).bind fun t528 => ((spec_l6In.f t526 t527 (wrap64 (t528 - 1))).bind fun t529 => (some t529))) else (some false)) else (some false)))) = some r := h
 clear h
 replace H := Option.bind_eq_some_iff.mp H
 obtain ⟨t526, A40, H⟩ := H
 replace H : ((spec_l2At.f k l0 a2).bind fun t527 => (if t526 ≥ 0 then (if t527 ≥ 0 then ((spec_l2End.f k l0 t527).bind fun t528 => ((spec_l6In.f t526 t527 (wrap64 (t528 - 1))).bind fun t529 => (some t529))) else (some false)) else (some false))) = some r := H
 have A4 := Aside0.mk A40
 clear A40
 replace H := Option.bind_eq_some_iff.mp H
 obtain ⟨t527, A50, H⟩ := H
 replace H : (if t526 ≥ 0 then (if t527 ≥ 0 then ((spec_l2End.f k l0 t527).bind fun t528 => ((spec_l6In.f t526 t527 (wrap64 (t528 - 1))).bind fun t529 => (some t529))) else (some false)) else (some false)) = some r := H
 have A5 := Aside0.mk A50
 clear A50
 by_cases c6 : t526 ≥ 0
 ·rw [if_pos c6] at H
  have c6b0 : decide (0 ≤ t526) = true := decide_eq_true c6
  clear c6
  by_cases c7 : t527 ≥ 0
  ·rw [if_pos c7] at H
   have c7b0 : decide (0 ≤ t527) = true := decide_eq_true c7
   clear c7
   replace H := Option.bind_eq_some_iff.mp H
   obtain ⟨t528, A80, H⟩ := H
   replace H : ((spec_l6In.f t526 t527 (wrap64 (t528 - 1))).bind fun t529 => (some t529)) = some r := H
   have A8 := Aside0.mk A80
   clear A80
   replace H := Option.bind_eq_some_iff.mp H
   obtain ⟨t529, A90, H⟩ := H
   replace H : (some t529) = some r := H
   have A9 := Aside0.mk A90
   clear A90
   obtain rfl := Option.some.inj H
   go_enter Tryd.func106, Tryd.ntmps106
   go_wp2_with (first | ((with_reducible refine gate_callee (f := 98) rfl ?_); refine gl_ 11 Tryd.func98 #[.slice A0 l0.length c0, .int .i64 a1] ?_; (with_reducible refine (spec_l2At.calls k _ _ l0 a1 t526 _ ?side1 ?side2 A4.out).mono ?_); (case side1 => repeat (first | exact HR0.out | (with_reducible refine Kd.C_alloc ?_ _) | (with_reducible refine Kd.C_drewN ?_ _) | (with_reducible refine Kd.C_drew ?_))); (case side2 => exact HC0.out); rintro e w' ⟨rfl, ⟨nd, rfl⟩⟩; refine ⟨_, rfl, ?_⟩) | ((with_reducible refine gate_callee (f := 98) rfl ?_); refine gl_ 14 Tryd.func98 #[.slice A0 l0.length c0, .int .i64 a2] ?_; (with_reducible refine (spec_l2At.calls k _ _ l0 a2 t527 _ ?side1 ?side2 A5.out).mono ?_); (case side1 => repeat (first | exact HR0.out | (with_reducible refine Kd.C_alloc ?_ _) | (with_reducible refine Kd.C_drewN ?_ _) | (with_reducible refine Kd.C_drew ?_))); (case side2 => exact HC0.out); rintro e w' ⟨rfl, ⟨nd, rfl⟩⟩; refine ⟨_, rfl, ?_⟩) | (go_at_call 101; (with_reducible refine (spec_l2End.calls k _ _ l0 t527 t528 _ ?side1 ?side2 A8.out).mono ?_); (case side1 => repeat (first | exact HR0.out | (with_reducible refine Kd.C_alloc ?_ _) | (with_reducible refine Kd.C_drewN ?_ _) | (with_reducible refine Kd.C_drew ?_))); (case side2 => exact HC0.out); rintro e w' ⟨rfl, ⟨nd, rfl⟩⟩) | (go_at_call 49; (with_reducible refine (spec_l6In.calls t526 t527 (wrap64 (t528 - 1)) t529 _ A9.out).mono ?_); rintro e w' ⟨rfl, ⟨nd, rfl⟩⟩))
   go_ret
   exact ⟨si_, by repeat (first | exact Drawn0.refl _ | apply Drawn0.step)⟩
  ·rw [if_neg c7] at H
   have c7b0 : decide (0 ≤ t527) = false := decide_eq_false c7
   clear c7
   obtain rfl := Option.some.inj H
   go_enter Tryd.func106, Tryd.ntmps106
   go_wp2_with (first | ((with_reducible refine gate_callee (f := 98) rfl ?_); refine gl_ 11 Tryd.func98 #[.slice A0 l0.length c0, .int .i64 a1] ?_; (with_reducible refine (spec_l2At.calls k _ _ l0 a1 t526 _ ?side1 ?side2 A4.out).mono ?_); (case side1 => repeat (first | exact HR0.out | (with_reducible refine Kd.C_alloc ?_ _) | (with_reducible refine Kd.C_drewN ?_ _) | (with_reducible refine Kd.C_drew ?_))); (case side2 => exact HC0.out); rintro e w' ⟨rfl, ⟨nd, rfl⟩⟩; refine ⟨_, rfl, ?_⟩) | ((with_reducible refine gate_callee (f := 98) rfl ?_); refine gl_ 14 Tryd.func98 #[.slice A0 l0.length c0, .int .i64 a2] ?_; (with_reducible refine (spec_l2At.calls k _ _ l0 a2 t527 _ ?side1 ?side2 A5.out).mono ?_); (case side1 => repeat (first | exact HR0.out | (with_reducible refine Kd.C_alloc ?_ _) | (with_reducible refine Kd.C_drewN ?_ _) | (with_reducible refine Kd.C_drew ?_))); (case side2 => exact HC0.out); rintro e w' ⟨rfl, ⟨nd, rfl⟩⟩; refine ⟨_, rfl, ?_⟩))
   go_ret
   exact ⟨si_, by repeat (first | exact Drawn0.refl _ | apply Drawn0.step)⟩
 ·rw [if_neg c6] at H
  have c6b0 : decide (0 ≤ t526) = false := decide_eq_false c6
  clear c6
  obtain rfl := Option.some.inj H
  go_enter Tryd.func106, Tryd.ntmps106
  go_wp2_with (first | ((with_reducible refine gate_callee (f := 98) rfl ?_); refine gl_ 11 Tryd.func98 #[.slice A0 l0.length c0, .int .i64 a1] ?_; (with_reducible refine (spec_l2At.calls k _ _ l0 a1 t526 _ ?side1 ?side2 A4.out).mono ?_); (case side1 => repeat (first | exact HR0.out | (with_reducible refine Kd.C_alloc ?_ _) | (with_reducible refine Kd.C_drewN ?_ _) | (with_reducible refine Kd.C_drew ?_))); (case side2 => exact HC0.out); rintro e w' ⟨rfl, ⟨nd, rfl⟩⟩; refine ⟨_, rfl, ?_⟩) | ((with_reducible refine gate_callee (f := 98) rfl ?_); refine gl_ 14 Tryd.func98 #[.slice A0 l0.length c0, .int .i64 a2] ?_; (with_reducible refine (spec_l2At.calls k _ _ l0 a2 t527 _ ?side1 ?side2 A5.out).mono ?_); (case side1 => repeat (first | exact HR0.out | (with_reducible refine Kd.C_alloc ?_ _) | (with_reducible refine Kd.C_drewN ?_ _) | (with_reducible refine Kd.C_drew ?_))); (case side2 => exact HC0.out); rintro e w' ⟨rfl, ⟨nd, rfl⟩⟩; refine ⟨_, rfl, ?_⟩))
  go_ret
  exact ⟨si_, by repeat (first | exact Drawn0.refl _ | apply Drawn0.step)⟩

mutual
def spec_l3Where.j0 : Nat → List (S120) → Bool → Int → Int → Int → Int → ByteArray → Option (Int × Int × Bool)
 | 0, _, _, _, _, _, _, _ => none
 | k + 1, x0, x37, x531000, x531001, x531002, x531003, x531004 => if x37 = true then (some (0, 0, false)) else ((spec_l2At.f k x0 x531002).bind fun t533 => (if t533 < 0 then (some (3, 0, true)) else ((spec_l2Kids.f k x0 x531002).bind fun t534 => (spec_l3Where.l0 k x531002 0 t534 0 x531000 x531001 x531002 x531003 x531004))))
def spec_l3Where.l0 : Nat → Int → Int → List Int → Int → Int → Int → Int → Int → ByteArray → Option (Int × Int × Bool)
 | 0, _, _, _, _, _, _, _, _, _ => none
 | k + 1, x8, x9, x10, x11, x531000, x531001, x531002, x531003, x531004 => if x11 < (x10.length : Int) then (if 0 ≤ x11 then (if (rd x10 x11) = x531003 then (if x531003 = x531001 then (spec_l3Where.l0 k x8 x9 x10 (wrap64 (x11 + 1)) x531000 x531001 x531002 x531003 x531004) else (spec_l3Where.l0 k x8 x531003 x10 (wrap64 (x11 + 1)) x531000 x531001 x531002 x531003 x531004)) else (spec_l3Where.l0 k x8 x9 x10 (wrap64 (x11 + 1)) x531000 x531001 x531002 x531003 x531004)) else (none)) else (some (x8, x9, true))
end
def spec_l3Where.f (k : Nat) (l0 : List (S120)) (a1_0 : Int) (a1_1 : Int) (a1_2 : Int) (a1_3 : Int) (a1_4 : ByteArray) : Option (Int × Int × Bool) := (spec_l2At.f k l0 a1_1).bind fun t531 => (if a1_0 = 2 then (spec_l3Where.j0 k l0 true a1_0 a1_1 a1_2 a1_3 a1_4) else (if ((decide (t531 ≥ 0)) != (a1_0 == 3)) = true then (spec_l3Where.j0 k l0 true a1_0 a1_1 a1_2 a1_3 a1_4) else (if t531 ≥ 0 then ((spec_l2Under.f k l0 a1_2 a1_1).bind fun t532 => (spec_l3Where.j0 k l0 t532 a1_0 a1_1 a1_2 a1_3 a1_4)) else (spec_l3Where.j0 k l0 false a1_0 a1_1 a1_2 a1_3 a1_4))))
theorem spec_l3Where.mono_l : ∀ k, (∀ y0 y1 y2 y3 y4 y5 y6, LeO (spec_l3Where.j0 k y0 y1 y2 y3 y4 y5 y6) (spec_l3Where.j0 (k + 1) y0 y1 y2 y3 y4 y5 y6)) ∧ (∀ y0 y1 y2 y3 y4 y5 y6 y7 y8, LeO (spec_l3Where.l0 k y0 y1 y2 y3 y4 y5 y6 y7 y8) (spec_l3Where.l0 (k + 1) y0 y1 y2 y3 y4 y5 y6 y7 y8))
 | 0 => ⟨fun _ _ _ _ _ _ _ r h => by simp [spec_l3Where.j0] at h, fun _ _ _ _ _ _ _ _ _ r h => by simp [spec_l3Where.l0] at h⟩
 | k + 1 => by
  obtain ⟨ih0, ih1⟩ := spec_l3Where.mono_l k
  refine ⟨?_, ?_⟩
  ·intro y0 y1 y2 y3 y4 y5 y6
   unfold spec_l3Where.j0
   repeat' first
   | (with_reducible exact ih0 _ _ _ _ _ _ _)
   | (with_reducible exact ih1 _ _ _ _ _ _ _ _ _)
   | (with_reducible exact spec_l2At.mono _ _ _)
   | (with_reducible exact spec_l2Kids.mono _ _ _)
   | (with_reducible exact spec_l2Under.mono _ _ _ _)
   | (with_reducible exact LeO.refl _)
   | (with_reducible exact LeO.none _)
   | (with_reducible refine LeO.ite ?_ ?_)
   | (with_reducible refine LeO.bind ?_ (fun _ => ?_))
   | exact ih0 _ _ _ _ _ _ _
   | exact ih1 _ _ _ _ _ _ _ _ _
   | exact spec_l2At.mono _ _ _
   | exact spec_l2Kids.mono _ _ _
   | exact spec_l2Under.mono _ _ _ _
   | exact LeO.none _
   | refine LeO.ite ?_ ?_
   | refine LeO.bind ?_ (fun _ => ?_)
  ·intro y0 y1 y2 y3 y4 y5 y6 y7 y8
   unfold spec_l3Where.l0
   repeat' first
   | (with_reducible exact ih0 _ _ _ _ _ _ _)
   | (with_reducible exact ih1 _ _ _ _ _ _ _ _ _)
   | (with_reducible exact spec_l2At.mono _ _ _)
   | (with_reducible exact spec_l2Kids.mono _ _ _)
   | (with_reducible exact spec_l2Under.mono _ _ _ _)
   | (with_reducible exact LeO.refl _)
   | (with_reducible exact LeO.none _)
   | (with_reducible refine LeO.ite ?_ ?_)
   | (with_reducible refine LeO.bind ?_ (fun _ => ?_))
   | exact ih0 _ _ _ _ _ _ _
   | exact ih1 _ _ _ _ _ _ _ _ _
   | exact spec_l2At.mono _ _ _
   | exact spec_l2Kids.mono _ _ _
   | exact spec_l2Under.mono _ _ _ _
   | exact LeO.none _
   | refine LeO.ite ?_ ?_
   | refine LeO.bind ?_ (fun _ => ?_)
theorem spec_l3Where.mono : ∀ a0 a1 a2 a3 a4 a5 k, LeO (spec_l3Where.f k a0 a1 a2 a3 a4 a5) (spec_l3Where.f (k + 1) a0 a1 a2 a3 a4 a5) := by
 intro a0 a1 a2 a3 a4 a5 k
 obtain ⟨ih0, ih1⟩ := spec_l3Where.mono_l k
 unfold spec_l3Where.f
 repeat' first
   | (with_reducible exact ih0 _ _ _ _ _ _ _)
   | (with_reducible exact ih1 _ _ _ _ _ _ _ _ _)
   | (with_reducible exact spec_l2At.mono _ _ _)
   | (with_reducible exact spec_l2Kids.mono _ _ _)
   | (with_reducible exact spec_l2Under.mono _ _ _ _)
   | (with_reducible exact LeO.refl _)
   | (with_reducible exact LeO.none _)
   | (with_reducible refine LeO.ite ?_ ?_)
   | (with_reducible refine LeO.bind ?_ (fun _ => ?_))
   | exact ih0 _ _ _ _ _ _ _
   | exact ih1 _ _ _ _ _ _ _ _ _
   | exact spec_l2At.mono _ _ _
   | exact spec_l2Kids.mono _ _ _
   | exact spec_l2Under.mono _ _ _ _
   | exact LeO.none _
   | refine LeO.ite ?_ ?_
   | refine LeO.bind ?_ (fun _ => ?_)
set_option maxHeartbeats 8000000 in
set_option maxRecDepth 100000 in
theorem spec_l3Where.calls (k : Nat) (A0 : Option Addr) (c0 : Nat) (l0 : List (S120)) (a1_0 : Int) (a1_1 : Int) (a1_2 : Int) (a1_3 : Int) (a1_4 : ByteArray) (r1 : Int) (r2 : Int) (r3 : Bool) (w : World) (hr0 : Kd.C k120 w A0 l0.length l0) (hc0 : l0.length ≤ c0) (h : spec_l3Where.f k l0 a1_0 a1_1 a1_2 a1_3 a1_4 = some (r1, r2, r3)) :
  Calls Tryd.prog 99 #[.slice A0 l0.length c0, .agg #[.int .i64 a1_0, .int .i64 a1_1, .int .i64 a1_2, .int .i64 a1_3, .string a1_4]] w fun e w' => e = .returned (.tuple #[.int .i64 r1, .int .i64 r2, .bool r3]) ∧ Below w.heap.size w w' := by
 have hu54 := Tryd.underlying54
 have HR0 := Aside0.mk hr0
 have HC0 := Aside0.mk hc0
 clear hr0 hc0
 have HB := Aside0.mk (Below.refl w.heap.size w)
 have H : ((spec_l2At.f k l0 a1_1).bind fun t531 => (if a1_0 = 2 then (spec_l3Where.j0 k l0 true a1_0 a1_1 a1_2 a1_3 a1_4) else (if ((decide (t531 ≥ 0)) != (a1_0 == 3)) = true then (spec_l3Where.j0 k l0 true a1_0 a1_1 a1_2 a1_3 a1_4) else (if t531 ≥ 0 then ((spec_l2Under.f k l0 a1_2 a1_1).bind fun t532 => (spec_l3Where.j0 k l0 t532 a1_0 a1_1 a1_2 a1_3 a1_4)) else (spec_l3Where.j0 k l0 false a1_0 a1_1 a1_2 a1_3 a1_4))))) = some (r1, r2, r3) := h
 clear h
 replace H := Option.bind_eq_some_iff.mp H
 obtain ⟨t531, A30, H⟩ := H
 replace H : (if a1_0 = 2 then (spec_l3Where.j0 k l0 true a1_0 a1_1 a1_2 a1_3 a1_4) else (if ((decide (t531 ≥ 0)) != (a1_0 == 3)) = true then (spec_l3Where.j0 k l0 true a1_0 a1_1 a1_2 a1_3 a1_4) else (if t531 ≥ 0 then ((spec_l2Under.f k l0 a1_2 a1_1).bind fun t532 => (spec_l3Where.j0 k l0 t532 a1_0 a1_1 a1_2 a1_3 a1_4)) else (spec_l3Where.j0 k l0 false a1_0 a1_1 a1_2 a1_3 a1_4)))) = some (r1, r2, r3) := H
 have A3 := Aside0.mk A30
 clear A30
 have HC4 := Aside0.mk H
 clear H
 go_enter Tryd.func99, Tryd.ntmps99
 go_upto_region 2 with (first | ((with_reducible refine gate_dst (N := 3) rfl ?_); refine box_event ?hg (N := 3) ?hd (cs := #[.int .i64 a1_0, .int .i64 a1_1, .int .i64 a1_2, .int .i64 a1_3, .string a1_4]) (t := 54) ?hr ?_; (case hd => rfl); (case hg => rfl); (case hr => first | (go_simp; done) | (go_simp; rfl)); intro gb530 hg w5 hbox hb; have n0_ := Aside0.mk (below_step (bel_) hb); have n1_ := Aside0.mk (hbox); have n2_ := Aside0.mk ((by rw [hg]; exact (below_size (bel_)) : w.heap.size ≤ gb530)); have n3_ := Aside0.mk ((by rw [hg]; exact (below_size (bel_)) : w.heap.size ≤ gb530)); clear HB; have HB := n0_; have BK530 := n1_; have GW530 := n2_; have GE530 := n3_; clear n0_ n1_ n2_ n3_; clear hb hbox hg; have hcz6_0 : w5.cell? ⟨gb530, 0, none⟩ = some (.int .i64 a1_0) := (blk_cell BK530.out 0).trans rfl; have hcz6_1 : w5.cell? ⟨gb530, 1, none⟩ = some (.int .i64 a1_1) := (blk_cell BK530.out 1).trans rfl; have hcz6_2 : w5.cell? ⟨gb530, 2, none⟩ = some (.int .i64 a1_2) := (blk_cell BK530.out 2).trans rfl; have hcz6_3 : w5.cell? ⟨gb530, 3, none⟩ = some (.int .i64 a1_3) := (blk_cell BK530.out 3).trans rfl; have hcz6_4 : w5.cell? ⟨gb530, 4, none⟩ = some (.string a1_4) := (blk_cell BK530.out 4).trans rfl; have hfz6_0 := blk_frozen BK530.out 0; have hfz6_1 := blk_frozen BK530.out 1; have hfz6_2 := blk_frozen BK530.out 2; have hfz6_3 := blk_frozen BK530.out 3; have hfz6_4 := blk_frozen BK530.out 4) | (go_at_call 98; (with_reducible refine (spec_l2At.calls k _ _ l0 a1_1 t531 _ ?side1 ?side2 A3.out).mono ?_); (case side1 => exact cp_ HR0.out); (case side2 => exact HC0.out); rintro e w' ⟨rfl, ⟨nd, rfl⟩⟩; (try first | exact ⟨rfl, _, World.drewN_drewN _ _ _⟩ | exact ⟨rfl, _, Eq.trans (World.drewN_drewN _ _ _) (congrArg (World.drewN _) (Nat.add_assoc _ _ _))⟩)))
 repeat (go_quiet (first | ((with_reducible refine gate_dst (N := 3) rfl ?_); refine box_event ?hg (N := 3) ?hd (cs := #[.int .i64 a1_0, .int .i64 a1_1, .int .i64 a1_2, .int .i64 a1_3, .string a1_4]) (t := 54) ?hr ?_; (case hd => rfl); (case hg => rfl); (case hr => first | (go_simp; done) | (go_simp; rfl)); intro gb530 hg w5 hbox hb; have n0_ := Aside0.mk (below_step (bel_) hb); have n1_ := Aside0.mk (hbox); have n2_ := Aside0.mk ((by rw [hg]; exact (below_size (bel_)) : w.heap.size ≤ gb530)); have n3_ := Aside0.mk ((by rw [hg]; exact (below_size (bel_)) : w.heap.size ≤ gb530)); clear HB; have HB := n0_; have BK530 := n1_; have GW530 := n2_; have GE530 := n3_; clear n0_ n1_ n2_ n3_; clear hb hbox hg; have hcz6_0 : w5.cell? ⟨gb530, 0, none⟩ = some (.int .i64 a1_0) := (blk_cell BK530.out 0).trans rfl; have hcz6_1 : w5.cell? ⟨gb530, 1, none⟩ = some (.int .i64 a1_1) := (blk_cell BK530.out 1).trans rfl; have hcz6_2 : w5.cell? ⟨gb530, 2, none⟩ = some (.int .i64 a1_2) := (blk_cell BK530.out 2).trans rfl; have hcz6_3 : w5.cell? ⟨gb530, 3, none⟩ = some (.int .i64 a1_3) := (blk_cell BK530.out 3).trans rfl; have hcz6_4 : w5.cell? ⟨gb530, 4, none⟩ = some (.string a1_4) := (blk_cell BK530.out 4).trans rfl; have hfz6_0 := blk_frozen BK530.out 0; have hfz6_1 := blk_frozen BK530.out 1; have hfz6_2 := blk_frozen BK530.out 2; have hfz6_3 := blk_frozen BK530.out 3; have hfz6_4 := blk_frozen BK530.out 4) | (go_at_call 98; (with_reducible refine (spec_l2At.calls k _ _ l0 a1_1 t531 _ ?side1 ?side2 A3.out).mono ?_); (case side1 => exact cp_ HR0.out); (case side2 => exact HC0.out); rintro e w' ⟨rfl, ⟨nd, rfl⟩⟩; (try first | exact ⟨rfl, _, World.drewN_drewN _ _ _⟩ | exact ⟨rfl, _, Eq.trans (World.drewN_drewN _ _ _) (congrArg (World.drewN _) (Nat.add_assoc _ _ _))⟩))); go_upto_region 2 with (first | ((with_reducible refine gate_dst (N := 3) rfl ?_); refine box_event ?hg (N := 3) ?hd (cs := #[.int .i64 a1_0, .int .i64 a1_1, .int .i64 a1_2, .int .i64 a1_3, .string a1_4]) (t := 54) ?hr ?_; (case hd => rfl); (case hg => rfl); (case hr => first | (go_simp; done) | (go_simp; rfl)); intro gb530 hg w5 hbox hb; have n0_ := Aside0.mk (below_step (bel_) hb); have n1_ := Aside0.mk (hbox); have n2_ := Aside0.mk ((by rw [hg]; exact (below_size (bel_)) : w.heap.size ≤ gb530)); have n3_ := Aside0.mk ((by rw [hg]; exact (below_size (bel_)) : w.heap.size ≤ gb530)); clear HB; have HB := n0_; have BK530 := n1_; have GW530 := n2_; have GE530 := n3_; clear n0_ n1_ n2_ n3_; clear hb hbox hg; have hcz6_0 : w5.cell? ⟨gb530, 0, none⟩ = some (.int .i64 a1_0) := (blk_cell BK530.out 0).trans rfl; have hcz6_1 : w5.cell? ⟨gb530, 1, none⟩ = some (.int .i64 a1_1) := (blk_cell BK530.out 1).trans rfl; have hcz6_2 : w5.cell? ⟨gb530, 2, none⟩ = some (.int .i64 a1_2) := (blk_cell BK530.out 2).trans rfl; have hcz6_3 : w5.cell? ⟨gb530, 3, none⟩ = some (.int .i64 a1_3) := (blk_cell BK530.out 3).trans rfl; have hcz6_4 : w5.cell? ⟨gb530, 4, none⟩ = some (.string a1_4) := (blk_cell BK530.out 4).trans rfl; have hfz6_0 := blk_frozen BK530.out 0; have hfz6_1 := blk_frozen BK530.out 1; have hfz6_2 := blk_frozen BK530.out 2; have hfz6_3 := blk_frozen BK530.out 3; have hfz6_4 := blk_frozen BK530.out 4) | (go_at_call 98; (with_reducible refine (spec_l2At.calls k _ _ l0 a1_1 t531 _ ?side1 ?side2 A3.out).mono ?_); (case side1 => exact cp_ HR0.out); (case side2 => exact HC0.out); rintro e w' ⟨rfl, ⟨nd, rfl⟩⟩; (try first | exact ⟨rfl, _, World.drewN_drewN _ _ _⟩ | exact ⟨rfl, _, Eq.trans (World.drewN_drewN _ _ _) (congrArg (World.drewN _) (Nat.add_assoc _ _ _))⟩))))
 (try simp only [Act.put, List.setIfInBounds_toArray, List.set_cons_zero, List.set_cons_succ])
 go_cut [37] from 7 to 16 (fun v37 wc => ∃ (kq : Nat) (x37_3 : Bool), v37 = .bool x37_3 ∧ Aside0 (spec_l3Where.j0 kq l0 x37_3 a1_0 a1_1 a1_2 a1_3 a1_4 = some (r1, r2, r3)) ∧ Aside0 (kq ≤ k) ∧ Aside0 (wc.heap[gb530]? = some (.cells #[.int .i64 a1_0, .int .i64 a1_1, .int .i64 a1_2, .int .i64 a1_3, .string a1_4] 54 (0, 0))) ∧ Aside0 (Below w.heap.size w wc))
 case first =>
  have H := HC4.out
  clear HC4
  by_cases c7 : a1_0 = 2
  ·rw [if_pos c7] at H
   have c7b0 : (a1_0 == 2) = true := beq_iff_eq.mpr c7
   have c7b1 : (a1_0 != 2) = false := bne_eq_false_iff_eq.mpr c7
   clear c7
   (first | rw [c7b0] | (simp only [i64_w, i32_w]; rw [c7b0]) | skip)
   have H' := Aside0.mk H
   clear H
   have hcz8_0 : w5.cell? ⟨gb530, 0, none⟩ = some (.int .i64 a1_0) := (blk_cell BK530.out 0).trans rfl
   have hcz8_1 : w5.cell? ⟨gb530, 1, none⟩ = some (.int .i64 a1_1) := (blk_cell BK530.out 1).trans rfl
   have hcz8_2 : w5.cell? ⟨gb530, 2, none⟩ = some (.int .i64 a1_2) := (blk_cell BK530.out 2).trans rfl
   have hcz8_3 : w5.cell? ⟨gb530, 3, none⟩ = some (.int .i64 a1_3) := (blk_cell BK530.out 3).trans rfl
   have hcz8_4 : w5.cell? ⟨gb530, 4, none⟩ = some (.string a1_4) := (blk_cell BK530.out 4).trans rfl
   have hfz8_0 := blk_frozen BK530.out 0
   have hfz8_1 := blk_frozen BK530.out 1
   have hfz8_2 := blk_frozen BK530.out 2
   have hfz8_3 := blk_frozen BK530.out 3
   have hfz8_4 := blk_frozen BK530.out 4
   go_wp2
   repeat (go_quiet (fail); try go_wp2)
   go_meet
   case rel => exact ⟨_, (true), (si_), H', ⟨by first | omega | exact Nat.le_refl _⟩, ⟨by (with_reducible repeat (first | refine blk_drewN ?_ _ | refine blk_drew ?_ | refine blk_alloc ?_ _)); exact BK530.out⟩, ⟨bel_⟩⟩
  ·rw [if_neg c7] at H
   have c7b0 : (a1_0 == 2) = false := beq_eq_false_iff_ne.mpr c7
   have c7b1 : (a1_0 != 2) = true := bne_iff_ne.mpr c7
   (first | rw [c7b0] | (simp only [i64_w, i32_w]; rw [c7b0]) | skip)
   by_cases c9 : ((decide (t531 ≥ 0)) != (a1_0 == 3)) = true
   ·rw [if_pos c9] at H
    have c9b0 : ((decide (t531 ≥ 0)) != (a1_0 == 3)) = true := c9
    (try (have c9b1 : decide ((decide (t531 ≥ 0)) = (a1_0 == 3)) = false := by simpa using c9))
    (try (have c9b2 : ((decide (t531 ≥ 0)) == (a1_0 == 3)) = false := by simpa using c9))
    (try (have c9b3 : ¬ ((decide (t531 ≥ 0)) = (a1_0 == 3)) := by simpa using c9))
    clear c9
    have H' := Aside0.mk H
    clear H
    have hcz10_0 : w5.cell? ⟨gb530, 0, none⟩ = some (.int .i64 a1_0) := (blk_cell BK530.out 0).trans rfl
    have hcz10_1 : w5.cell? ⟨gb530, 1, none⟩ = some (.int .i64 a1_1) := (blk_cell BK530.out 1).trans rfl
    have hcz10_2 : w5.cell? ⟨gb530, 2, none⟩ = some (.int .i64 a1_2) := (blk_cell BK530.out 2).trans rfl
    have hcz10_3 : w5.cell? ⟨gb530, 3, none⟩ = some (.int .i64 a1_3) := (blk_cell BK530.out 3).trans rfl
    have hcz10_4 : w5.cell? ⟨gb530, 4, none⟩ = some (.string a1_4) := (blk_cell BK530.out 4).trans rfl
    have hfz10_0 := blk_frozen BK530.out 0
    have hfz10_1 := blk_frozen BK530.out 1
    have hfz10_2 := blk_frozen BK530.out 2
    have hfz10_3 := blk_frozen BK530.out 3
    have hfz10_4 := blk_frozen BK530.out 4
    go_wp2
    repeat (go_quiet (fail); try go_wp2)
    go_meet
    case rel => exact ⟨_, (true), (si_), H', ⟨by first | omega | exact Nat.le_refl _⟩, ⟨by (with_reducible repeat (first | refine blk_drewN ?_ _ | refine blk_drew ?_ | refine blk_alloc ?_ _)); exact BK530.out⟩, ⟨bel_⟩⟩
   ·rw [if_neg c9] at H
    have c9b0 : ((decide (t531 ≥ 0)) != (a1_0 == 3)) = false := by simpa using c9
    (try (have c9b1 : decide ((decide (t531 ≥ 0)) = (a1_0 == 3)) = true := by simpa using c9))
    (try (have c9b2 : ((decide (t531 ≥ 0)) == (a1_0 == 3)) = true := by simpa using c9))
    clear c9
    by_cases c11 : t531 ≥ 0
    ·rw [if_pos c11] at H
     have k3_ : (a1_0 == 3) = true := by
      have h_ := c9b0
      rw [show decide (t531 ≥ 0) = true from decide_eq_true c11] at h_
      generalize (a1_0 == 3) = z at h_
      cases z
      all_goals first | rfl | cases h_
     clear c9b0
     (try clear c9b1)
     (try clear c9b2)
     have c11b0 : decide (0 ≤ t531) = true := decide_eq_true c11
     clear c11
     replace H := Option.bind_eq_some_iff.mp H
     obtain ⟨t532, A120, H⟩ := H
     replace H : (spec_l3Where.j0 k l0 t532 a1_0 a1_1 a1_2 a1_3 a1_4) = some (r1, r2, r3) := H
     have A12 := Aside0.mk A120
     clear A120
     have H' := Aside0.mk H
     clear H
     have hcz13_0 : w5.cell? ⟨gb530, 0, none⟩ = some (.int .i64 a1_0) := (blk_cell BK530.out 0).trans rfl
     have hcz13_1 : w5.cell? ⟨gb530, 1, none⟩ = some (.int .i64 a1_1) := (blk_cell BK530.out 1).trans rfl
     have hcz13_2 : w5.cell? ⟨gb530, 2, none⟩ = some (.int .i64 a1_2) := (blk_cell BK530.out 2).trans rfl
     have hcz13_3 : w5.cell? ⟨gb530, 3, none⟩ = some (.int .i64 a1_3) := (blk_cell BK530.out 3).trans rfl
     have hcz13_4 : w5.cell? ⟨gb530, 4, none⟩ = some (.string a1_4) := (blk_cell BK530.out 4).trans rfl
     have hfz13_0 := blk_frozen BK530.out 0
     have hfz13_1 := blk_frozen BK530.out 1
     have hfz13_2 := blk_frozen BK530.out 2
     have hfz13_3 := blk_frozen BK530.out 3
     have hfz13_4 := blk_frozen BK530.out 4
     go_wp2_with (first | (go_at_call 106; (with_reducible refine (spec_l2Under.calls k _ _ l0 a1_2 a1_1 t532 _ ?side1 ?side2 A12.out).mono ?_); (case side1 => exact cp_ HR0.out); (case side2 => exact HC0.out); rintro e w' ⟨rfl, ⟨nd, rfl⟩⟩; (try first | exact ⟨rfl, _, World.drewN_drewN _ _ _⟩ | exact ⟨rfl, _, Eq.trans (World.drewN_drewN _ _ _) (congrArg (World.drewN _) (Nat.add_assoc _ _ _))⟩)))
     repeat (go_quiet (first | (go_at_call 106; (with_reducible refine (spec_l2Under.calls k _ _ l0 a1_2 a1_1 t532 _ ?side1 ?side2 A12.out).mono ?_); (case side1 => exact cp_ HR0.out); (case side2 => exact HC0.out); rintro e w' ⟨rfl, ⟨nd, rfl⟩⟩; (try first | exact ⟨rfl, _, World.drewN_drewN _ _ _⟩ | exact ⟨rfl, _, Eq.trans (World.drewN_drewN _ _ _) (congrArg (World.drewN _) (Nat.add_assoc _ _ _))⟩))); try go_wp2_with (first | (go_at_call 106; (with_reducible refine (spec_l2Under.calls k _ _ l0 a1_2 a1_1 t532 _ ?side1 ?side2 A12.out).mono ?_); (case side1 => exact cp_ HR0.out); (case side2 => exact HC0.out); rintro e w' ⟨rfl, ⟨nd, rfl⟩⟩; (try first | exact ⟨rfl, _, World.drewN_drewN _ _ _⟩ | exact ⟨rfl, _, Eq.trans (World.drewN_drewN _ _ _) (congrArg (World.drewN _) (Nat.add_assoc _ _ _))⟩))))
     go_meet
     case rel => exact ⟨_, (t532), (si_), H', ⟨by first | omega | exact Nat.le_refl _⟩, ⟨by (with_reducible repeat (first | refine blk_drewN ?_ _ | refine blk_drew ?_ | refine blk_alloc ?_ _)); exact BK530.out⟩, ⟨bel_⟩⟩
    ·rw [if_neg c11] at H
     have k3_ : (a1_0 == 3) = false := by
      have h_ := c9b0
      rw [show decide (t531 ≥ 0) = false from decide_eq_false c11] at h_
      generalize (a1_0 == 3) = z at h_
      cases z
      all_goals first | rfl | cases h_
     clear c9b0
     (try clear c9b1)
     (try clear c9b2)
     have c11b0 : decide (0 ≤ t531) = false := decide_eq_false c11
     clear c11
     have H' := Aside0.mk H
     clear H
     have hcz14_0 : w5.cell? ⟨gb530, 0, none⟩ = some (.int .i64 a1_0) := (blk_cell BK530.out 0).trans rfl
     have hcz14_1 : w5.cell? ⟨gb530, 1, none⟩ = some (.int .i64 a1_1) := (blk_cell BK530.out 1).trans rfl
     have hcz14_2 : w5.cell? ⟨gb530, 2, none⟩ = some (.int .i64 a1_2) := (blk_cell BK530.out 2).trans rfl
     have hcz14_3 : w5.cell? ⟨gb530, 3, none⟩ = some (.int .i64 a1_3) := (blk_cell BK530.out 3).trans rfl
     have hcz14_4 : w5.cell? ⟨gb530, 4, none⟩ = some (.string a1_4) := (blk_cell BK530.out 4).trans rfl
     have hfz14_0 := blk_frozen BK530.out 0
     have hfz14_1 := blk_frozen BK530.out 1
     have hfz14_2 := blk_frozen BK530.out 2
     have hfz14_3 := blk_frozen BK530.out 3
     have hfz14_4 := blk_frozen BK530.out 4
     go_wp2
     repeat (go_quiet (fail); try go_wp2)
     go_meet
     case rel => exact ⟨_, (false), (si_), H', ⟨by first | omega | exact Nat.le_refl _⟩, ⟨by (with_reducible repeat (first | refine blk_drewN ?_ _ | refine blk_drew ?_ | refine blk_alloc ?_ _)); exact BK530.out⟩, ⟨bel_⟩⟩
 case rest =>
  clear HC4
  try clear c1
  try clear p2
  try clear c7
  try clear c7b0
  try clear c7b1
  try clear c9
  try clear c9b0
  try clear c9b1
  try clear c9b2
  try clear c11
  try clear c11b0
  try clear hcz10_0
  try clear hcz10_1
  try clear hcz10_2
  try clear hcz10_3
  try clear hcz10_4
  try clear hcz13_0
  try clear hcz13_1
  try clear hcz13_2
  try clear hcz13_3
  try clear hcz13_4
  try clear hcz14_0
  try clear hcz14_1
  try clear hcz14_2
  try clear hcz14_3
  try clear hcz14_4
  try clear hcz6_0
  try clear hcz6_1
  try clear hcz6_2
  try clear hcz6_3
  try clear hcz6_4
  try clear hcz8_0
  try clear hcz8_1
  try clear hcz8_2
  try clear hcz8_3
  try clear hcz8_4
  try clear hfz10_0
  try clear hfz10_1
  try clear hfz10_2
  try clear hfz10_3
  try clear hfz10_4
  try clear hfz13_0
  try clear hfz13_1
  try clear hfz13_2
  try clear hfz13_3
  try clear hfz13_4
  try clear hfz14_0
  try clear hfz14_1
  try clear hfz14_2
  try clear hfz14_3
  try clear hfz14_4
  try clear hfz6_0
  try clear hfz6_1
  try clear hfz6_2
  try clear hfz6_3
  try clear hfz6_4
  try clear hfz8_0
  try clear hfz8_1
  try clear hfz8_2
  try clear hfz8_3
  try clear hfz8_4
  obtain ⟨kq, x37_3, rfl, HA, HJ3, BK530, HB⟩ := hcut
  cases kq with
  | zero => exact absurd HA.out (by simp [spec_l3Where.j0])
  | succ kj3 =>
   have H := HA.out
   clear HA
   simp only [spec_l3Where.j0] at H
   by_cases c15 : x37_3 = true
   ·subst c15
    have H1 : (some (0, 0, false)) = some (r1, r2, r3) := by rw [if_pos rfl] at H; exact H
    clear H
    have H := H1
    clear H1
    simp only [Option.some.injEq, Prod.mk.injEq] at H
    obtain ⟨rfl, rfl, rfl⟩ := H
    go_wp2
    repeat (go_quiet (fail); try go_wp2)
    go_ret3
    exact ⟨fi_, bel_⟩
   ·replace c15 := Bool.eq_false_iff.mpr c15
    subst c15
    have H1 : ((spec_l2At.f kj3 l0 a1_2).bind fun t533 => (if t533 < 0 then (some (3, 0, true)) else ((spec_l2Kids.f kj3 l0 a1_2).bind fun t534 => (spec_l3Where.l0 kj3 a1_2 0 t534 0 a1_0 a1_1 a1_2 a1_3 a1_4)))) = some (r1, r2, r3) := by rw [if_neg (show ¬ (false = true) by decide)] at H; exact H
    clear H
    have H := H1
    clear H1
    replace H := Option.bind_eq_some_iff.mp H
    obtain ⟨t533, A160, H⟩ := H
    replace H : (if t533 < 0 then (some (3, 0, true)) else ((spec_l2Kids.f kj3 l0 a1_2).bind fun t534 => (spec_l3Where.l0 kj3 a1_2 0 t534 0 a1_0 a1_1 a1_2 a1_3 a1_4))) = some (r1, r2, r3) := H
    have A16 := Aside0.mk A160
    clear A160
    by_cases c17 : t533 < 0
    ·rw [if_pos c17] at H
     have c17b0 : decide (t533 < 0) = true := decide_eq_true c17
     clear c17
     simp only [Option.some.injEq, Prod.mk.injEq] at H
     obtain ⟨rfl, rfl, rfl⟩ := H
     have hcz18_0 : wc.cell? ⟨gb530, 0, none⟩ = some (.int .i64 a1_0) := (blk_cell BK530.out 0).trans rfl
     have hcz18_1 : wc.cell? ⟨gb530, 1, none⟩ = some (.int .i64 a1_1) := (blk_cell BK530.out 1).trans rfl
     have hcz18_2 : wc.cell? ⟨gb530, 2, none⟩ = some (.int .i64 a1_2) := (blk_cell BK530.out 2).trans rfl
     have hcz18_3 : wc.cell? ⟨gb530, 3, none⟩ = some (.int .i64 a1_3) := (blk_cell BK530.out 3).trans rfl
     have hcz18_4 : wc.cell? ⟨gb530, 4, none⟩ = some (.string a1_4) := (blk_cell BK530.out 4).trans rfl
     have hfz18_0 := blk_frozen BK530.out 0
     have hfz18_1 := blk_frozen BK530.out 1
     have hfz18_2 := blk_frozen BK530.out 2
     have hfz18_3 := blk_frozen BK530.out 3
     have hfz18_4 := blk_frozen BK530.out 4
     go_wp2_with (first | (go_at_call 98; (with_reducible refine (spec_l2At.calls kj3 _ _ l0 a1_2 t533 _ ?side1 ?side2 A16.out).mono ?_); (case side1 => exact cp_ HR0.out); (case side2 => exact HC0.out); rintro e w' ⟨rfl, ⟨nd, rfl⟩⟩; (try first | exact ⟨rfl, _, World.drewN_drewN _ _ _⟩ | exact ⟨rfl, _, Eq.trans (World.drewN_drewN _ _ _) (congrArg (World.drewN _) (Nat.add_assoc _ _ _))⟩)))
     repeat (go_quiet (first | (go_at_call 98; (with_reducible refine (spec_l2At.calls kj3 _ _ l0 a1_2 t533 _ ?side1 ?side2 A16.out).mono ?_); (case side1 => exact cp_ HR0.out); (case side2 => exact HC0.out); rintro e w' ⟨rfl, ⟨nd, rfl⟩⟩; (try first | exact ⟨rfl, _, World.drewN_drewN _ _ _⟩ | exact ⟨rfl, _, Eq.trans (World.drewN_drewN _ _ _) (congrArg (World.drewN _) (Nat.add_assoc _ _ _))⟩))); try go_wp2_with (first | (go_at_call 98; (with_reducible refine (spec_l2At.calls kj3 _ _ l0 a1_2 t533 _ ?side1 ?side2 A16.out).mono ?_); (case side1 => exact cp_ HR0.out); (case side2 => exact HC0.out); rintro e w' ⟨rfl, ⟨nd, rfl⟩⟩; (try first | exact ⟨rfl, _, World.drewN_drewN _ _ _⟩ | exact ⟨rfl, _, Eq.trans (World.drewN_drewN _ _ _) (congrArg (World.drewN _) (Nat.add_assoc _ _ _))⟩))))
     go_ret3
     exact ⟨fi_, bel_⟩
    ·rw [if_neg c17] at H
     have c17b0 : decide (t533 < 0) = false := decide_eq_false c17
     clear c17
     replace H := Option.bind_eq_some_iff.mp H
     obtain ⟨t534, A190, H⟩ := H
     replace H : (spec_l3Where.l0 kj3 a1_2 0 t534 0 a1_0 a1_1 a1_2 a1_3 a1_4) = some (r1, r2, r3) := H
     have A19 := Aside0.mk A190
     clear A190
     have H' := Aside0.mk H
     clear H
     have hcz20_0 : wc.cell? ⟨gb530, 0, none⟩ = some (.int .i64 a1_0) := (blk_cell BK530.out 0).trans rfl
     have hcz20_1 : wc.cell? ⟨gb530, 1, none⟩ = some (.int .i64 a1_1) := (blk_cell BK530.out 1).trans rfl
     have hcz20_2 : wc.cell? ⟨gb530, 2, none⟩ = some (.int .i64 a1_2) := (blk_cell BK530.out 2).trans rfl
     have hcz20_3 : wc.cell? ⟨gb530, 3, none⟩ = some (.int .i64 a1_3) := (blk_cell BK530.out 3).trans rfl
     have hcz20_4 : wc.cell? ⟨gb530, 4, none⟩ = some (.string a1_4) := (blk_cell BK530.out 4).trans rfl
     have hfz20_0 := blk_frozen BK530.out 0
     have hfz20_1 := blk_frozen BK530.out 1
     have hfz20_2 := blk_frozen BK530.out 2
     have hfz20_3 := blk_frozen BK530.out 3
     have hfz20_4 := blk_frozen BK530.out 4
     go_wp2_with (first | (go_at_call 98; (with_reducible refine (spec_l2At.calls kj3 _ _ l0 a1_2 t533 _ ?side1 ?side2 A16.out).mono ?_); (case side1 => exact cp_ HR0.out); (case side2 => exact HC0.out); rintro e w' ⟨rfl, ⟨nd, rfl⟩⟩; (try first | exact ⟨rfl, _, World.drewN_drewN _ _ _⟩ | exact ⟨rfl, _, Eq.trans (World.drewN_drewN _ _ _) (congrArg (World.drewN _) (Nat.add_assoc _ _ _))⟩)) | (go_at_call 94; (with_reducible refine (spec_l2Kids.calls kj3 _ _ l0 a1_2 t534 _ ?side1 ?side2 A19.out).mono ?_); (case side1 => repeat (first | exact (Kd.C_below HR0.out (bel_)) | (with_reducible refine Kd.C_alloc ?_ _) | (with_reducible refine Kd.C_drewN ?_ _) | (with_reducible refine Kd.C_drew ?_))); (case side2 => exact HC0.out); rintro e w21 ⟨v535, rfl, ho0, hb⟩; have HO536 := Aside0.mk (Kd.R_lower ho0 (below_size (bel_))); replace HB := Aside0.mk (below_step (bel_) hb); replace BK530 := Aside0.mk (blk_below (g := gb530) (o := .cells #[.int .i64 a1_0, .int .i64 a1_1, .int .i64 a1_2, .int .i64 a1_3, .string a1_4] 54 (0, 0)) (bp_ BK530.out) hb); (try clear hb); (try clear hb2); (try clear hk); (try clear hi); (try clear ho0)))
     repeat (go_quiet (first | (go_at_call 98; (with_reducible refine (spec_l2At.calls kj3 _ _ l0 a1_2 t533 _ ?side1 ?side2 A16.out).mono ?_); (case side1 => exact cp_ HR0.out); (case side2 => exact HC0.out); rintro e w' ⟨rfl, ⟨nd, rfl⟩⟩; (try first | exact ⟨rfl, _, World.drewN_drewN _ _ _⟩ | exact ⟨rfl, _, Eq.trans (World.drewN_drewN _ _ _) (congrArg (World.drewN _) (Nat.add_assoc _ _ _))⟩)) | (go_at_call 94; (with_reducible refine (spec_l2Kids.calls kj3 _ _ l0 a1_2 t534 _ ?side1 ?side2 A19.out).mono ?_); (case side1 => repeat (first | exact (Kd.C_below HR0.out (bel_)) | (with_reducible refine Kd.C_alloc ?_ _) | (with_reducible refine Kd.C_drewN ?_ _) | (with_reducible refine Kd.C_drew ?_))); (case side2 => exact HC0.out); rintro e w21 ⟨v535, rfl, ho0, hb⟩; have HO536 := Aside0.mk (Kd.R_lower ho0 (below_size (bel_))); replace HB := Aside0.mk (below_step (bel_) hb); replace BK530 := Aside0.mk (blk_below (g := gb530) (o := .cells #[.int .i64 a1_0, .int .i64 a1_1, .int .i64 a1_2, .int .i64 a1_3, .string a1_4] 54 (0, 0)) (bp_ BK530.out) hb); (try clear hb); (try clear hb2); (try clear hk); (try clear hi); (try clear ho0))); try go_wp2_with (first | (go_at_call 98; (with_reducible refine (spec_l2At.calls kj3 _ _ l0 a1_2 t533 _ ?side1 ?side2 A16.out).mono ?_); (case side1 => exact cp_ HR0.out); (case side2 => exact HC0.out); rintro e w' ⟨rfl, ⟨nd, rfl⟩⟩; (try first | exact ⟨rfl, _, World.drewN_drewN _ _ _⟩ | exact ⟨rfl, _, Eq.trans (World.drewN_drewN _ _ _) (congrArg (World.drewN _) (Nat.add_assoc _ _ _))⟩)) | (go_at_call 94; (with_reducible refine (spec_l2Kids.calls kj3 _ _ l0 a1_2 t534 _ ?side1 ?side2 A19.out).mono ?_); (case side1 => repeat (first | exact (Kd.C_below HR0.out (bel_)) | (with_reducible refine Kd.C_alloc ?_ _) | (with_reducible refine Kd.C_drewN ?_ _) | (with_reducible refine Kd.C_drew ?_))); (case side2 => exact HC0.out); rintro e w21 ⟨v535, rfl, ho0, hb⟩; have HO536 := Aside0.mk (Kd.R_lower ho0 (below_size (bel_))); replace HB := Aside0.mk (below_step (bel_) hb); replace BK530 := Aside0.mk (blk_below (g := gb530) (o := .cells #[.int .i64 a1_0, .int .i64 a1_1, .int .i64 a1_2, .int .i64 a1_3, .string a1_4] 54 (0, 0)) (bp_ BK530.out) hb); (try clear hb); (try clear hb2); (try clear hk); (try clear hi); (try clear ho0))))
     go_loopg [9, 11] kj3 (fun kq v9 v11 w' => ∃ (x9_2 : Int) (x11_2 : Int), v9 = .int .i64 x9_2 ∧ v11 = .int .i64 x11_2 ∧ Aside0 (spec_l3Where.l0 kq a1_2 x9_2 t534 x11_2 a1_0 a1_1 a1_2 a1_3 a1_4 = some (r1, r2, r3)) ∧ Aside0 (kq ≤ kj3) ∧ Aside0 (Kd.R (Kd.int .i64) 3 w' w.heap.size (fun _ => True) v535 t534) ∧ Aside0 (w'.heap[gb530]? = some (.cells #[.int .i64 a1_0, .int .i64 a1_1, .int .i64 a1_2, .int .i64 a1_3, .string a1_4] 54 (0, 0))) ∧ Aside0 (Below w.heap.size w w'))
     case atStart => exact ⟨(0), (0), (si_), (si_), H', ⟨Nat.le_refl _⟩, ⟨by (with_reducible repeat (first | apply Kd.R_alloc | apply Kd.R_drewN | apply Kd.R_drew)); exact HO536.out⟩, ⟨by (with_reducible repeat (first | refine blk_drewN ?_ _ | refine blk_drew ?_ | refine blk_alloc ?_ _)); exact BK530.out⟩, ⟨bel_⟩⟩
     case round =>
      clear H'
      try clear c1
      try clear p2
      try clear c7
      try clear c7b0
      try clear c7b1
      try clear c9
      try clear c9b0
      try clear c9b1
      try clear c9b2
      try clear c11
      try clear c11b0
      try clear c15
      try clear c17
      try clear c17b0
      try clear hcz10_0
      try clear hcz10_1
      try clear hcz10_2
      try clear hcz10_3
      try clear hcz10_4
      try clear hcz13_0
      try clear hcz13_1
      try clear hcz13_2
      try clear hcz13_3
      try clear hcz13_4
      try clear hcz14_0
      try clear hcz14_1
      try clear hcz14_2
      try clear hcz14_3
      try clear hcz14_4
      try clear hcz18_0
      try clear hcz18_1
      try clear hcz18_2
      try clear hcz18_3
      try clear hcz18_4
      try clear hcz20_0
      try clear hcz20_1
      try clear hcz20_2
      try clear hcz20_3
      try clear hcz20_4
      try clear hcz6_0
      try clear hcz6_1
      try clear hcz6_2
      try clear hcz6_3
      try clear hcz6_4
      try clear hcz8_0
      try clear hcz8_1
      try clear hcz8_2
      try clear hcz8_3
      try clear hcz8_4
      try clear hfz10_0
      try clear hfz10_1
      try clear hfz10_2
      try clear hfz10_3
      try clear hfz10_4
      try clear hfz13_0
      try clear hfz13_1
      try clear hfz13_2
      try clear hfz13_3
      try clear hfz13_4
      try clear hfz14_0
      try clear hfz14_1
      try clear hfz14_2
      try clear hfz14_3
      try clear hfz14_4
      try clear hfz18_0
      try clear hfz18_1
      try clear hfz18_2
      try clear hfz18_3
      try clear hfz18_4
      try clear hfz20_0
      try clear hfz20_1
      try clear hfz20_2
      try clear hfz20_3
      try clear hfz20_4
      try clear hfz6_0
      try clear hfz6_1
      try clear hfz6_2
      try clear hfz6_3
      try clear hfz6_4
      try clear hfz8_0
      try clear hfz8_1
      try clear hfz8_2
      try clear hfz8_3
      try clear hfz8_4
      try clear p2
      obtain ⟨x9_2, x11_2, rfl, rfl, HA, HK2, HO_10, BK530, HB⟩ := hrel
      cases gk with
      | zero => exact absurd HA.out (by simp [spec_l3Where.l0])
      | succ k2 =>
       have H := HA.out
       clear HA
       simp only [spec_l3Where.l0] at H
       by_cases c22 : x11_2 < (t534.length : Int)
       ·rw [if_pos c22] at H
        have c22b0 : decide (x11_2 < (t534.length : Int)) = true := decide_eq_true c22
        clear c22
        by_cases c23 : 0 ≤ x11_2
        ·rw [if_pos c23] at H
         have c23b0 : decide (0 ≤ x11_2) = true := decide_eq_true c23
         clear c23
         by_cases c24 : (rd t534 x11_2) = a1_3
         ·rw [if_pos c24] at H
          have c24b0 : ((rd t534 x11_2) == a1_3) = true := beq_iff_eq.mpr c24
          have c24b1 : ((rd t534 x11_2) != a1_3) = false := bne_eq_false_iff_eq.mpr c24
          clear c24
          by_cases c25 : a1_3 = a1_1
          ·rw [if_pos c25] at H
           have c25b0 : (a1_3 == a1_1) = true := beq_iff_eq.mpr c25
           have c25b1 : (a1_3 != a1_1) = false := bne_eq_false_iff_eq.mpr c25
           clear c25
           have H' := Aside0.mk H
           clear H
           obtain ⟨Ao26, co26, eo26⟩ := Kd.R_slice HO_10.out
           subst eo26
           have p537 : 0 ≤ (x11_2 : Int) := od_
           have q537 : x11_2 < (t534.length : Int) := od_
           obtain ⟨ad537, e537, hx537_0⟩ := Kd.at_int (Kd.R_reads' HO_10.out).2.2 x11_2 p537 q537
           cases e537
           replace p537 := eq_true p537
           replace q537 := eq_true q537
           have hcz27_0 : wr.cell? ⟨gb530, 0, none⟩ = some (.int .i64 a1_0) := (blk_cell BK530.out 0).trans rfl
           have hcz27_1 : wr.cell? ⟨gb530, 1, none⟩ = some (.int .i64 a1_1) := (blk_cell BK530.out 1).trans rfl
           have hcz27_2 : wr.cell? ⟨gb530, 2, none⟩ = some (.int .i64 a1_2) := (blk_cell BK530.out 2).trans rfl
           have hcz27_3 : wr.cell? ⟨gb530, 3, none⟩ = some (.int .i64 a1_3) := (blk_cell BK530.out 3).trans rfl
           have hcz27_4 : wr.cell? ⟨gb530, 4, none⟩ = some (.string a1_4) := (blk_cell BK530.out 4).trans rfl
           have hfz27_0 := blk_frozen BK530.out 0
           have hfz27_1 := blk_frozen BK530.out 1
           have hfz27_2 := blk_frozen BK530.out 2
           have hfz27_3 := blk_frozen BK530.out 3
           have hfz27_4 := blk_frozen BK530.out 4
           go_wp2
           repeat (go_quiet (fail); try go_wp2)
           go_roundg k2
           case measure => have := HJ3.out; have := HK2.out; omega
           case rel => exact ⟨(x9_2), (wrap64 (x11_2 + 1)), (si_), (si_), H', ⟨by have := HJ3.out; have := HK2.out; omega⟩, ⟨by (with_reducible repeat (first | apply Kd.R_alloc | apply Kd.R_drewN | apply Kd.R_drew)); exact HO_10.out⟩, ⟨by (with_reducible repeat (first | refine blk_drewN ?_ _ | refine blk_drew ?_ | refine blk_alloc ?_ _)); exact BK530.out⟩, ⟨bel_⟩⟩
          ·rw [if_neg c25] at H
           have c25b0 : (a1_3 == a1_1) = false := beq_eq_false_iff_ne.mpr c25
           have c25b1 : (a1_3 != a1_1) = true := bne_iff_ne.mpr c25
           have H' := Aside0.mk H
           clear H
           obtain ⟨Ao28, co28, eo28⟩ := Kd.R_slice HO_10.out
           subst eo28
           have p537 : 0 ≤ (x11_2 : Int) := od_
           have q537 : x11_2 < (t534.length : Int) := od_
           obtain ⟨ad537, e537, hx537_0⟩ := Kd.at_int (Kd.R_reads' HO_10.out).2.2 x11_2 p537 q537
           cases e537
           replace p537 := eq_true p537
           replace q537 := eq_true q537
           have hcz29_0 : wr.cell? ⟨gb530, 0, none⟩ = some (.int .i64 a1_0) := (blk_cell BK530.out 0).trans rfl
           have hcz29_1 : wr.cell? ⟨gb530, 1, none⟩ = some (.int .i64 a1_1) := (blk_cell BK530.out 1).trans rfl
           have hcz29_2 : wr.cell? ⟨gb530, 2, none⟩ = some (.int .i64 a1_2) := (blk_cell BK530.out 2).trans rfl
           have hcz29_3 : wr.cell? ⟨gb530, 3, none⟩ = some (.int .i64 a1_3) := (blk_cell BK530.out 3).trans rfl
           have hcz29_4 : wr.cell? ⟨gb530, 4, none⟩ = some (.string a1_4) := (blk_cell BK530.out 4).trans rfl
           have hfz29_0 := blk_frozen BK530.out 0
           have hfz29_1 := blk_frozen BK530.out 1
           have hfz29_2 := blk_frozen BK530.out 2
           have hfz29_3 := blk_frozen BK530.out 3
           have hfz29_4 := blk_frozen BK530.out 4
           go_wp2
           repeat (go_quiet (fail); try go_wp2)
           go_roundg k2
           case measure => have := HJ3.out; have := HK2.out; omega
           case rel => exact ⟨(a1_3), (wrap64 (x11_2 + 1)), (si_), (si_), H', ⟨by have := HJ3.out; have := HK2.out; omega⟩, ⟨by (with_reducible repeat (first | apply Kd.R_alloc | apply Kd.R_drewN | apply Kd.R_drew)); exact HO_10.out⟩, ⟨by (with_reducible repeat (first | refine blk_drewN ?_ _ | refine blk_drew ?_ | refine blk_alloc ?_ _)); exact BK530.out⟩, ⟨bel_⟩⟩
         ·rw [if_neg c24] at H
          have c24b0 : ((rd t534 x11_2) == a1_3) = false := beq_eq_false_iff_ne.mpr c24
          have c24b1 : ((rd t534 x11_2) != a1_3) = true := bne_iff_ne.mpr c24
          have H' := Aside0.mk H
          clear H
          obtain ⟨Ao30, co30, eo30⟩ := Kd.R_slice HO_10.out
          subst eo30
          have p537 : 0 ≤ (x11_2 : Int) := od_
          have q537 : x11_2 < (t534.length : Int) := od_
          obtain ⟨ad537, e537, hx537_0⟩ := Kd.at_int (Kd.R_reads' HO_10.out).2.2 x11_2 p537 q537
          cases e537
          replace p537 := eq_true p537
          replace q537 := eq_true q537
          have hcz31_0 : wr.cell? ⟨gb530, 0, none⟩ = some (.int .i64 a1_0) := (blk_cell BK530.out 0).trans rfl
          have hcz31_1 : wr.cell? ⟨gb530, 1, none⟩ = some (.int .i64 a1_1) := (blk_cell BK530.out 1).trans rfl
          have hcz31_2 : wr.cell? ⟨gb530, 2, none⟩ = some (.int .i64 a1_2) := (blk_cell BK530.out 2).trans rfl
          have hcz31_3 : wr.cell? ⟨gb530, 3, none⟩ = some (.int .i64 a1_3) := (blk_cell BK530.out 3).trans rfl
          have hcz31_4 : wr.cell? ⟨gb530, 4, none⟩ = some (.string a1_4) := (blk_cell BK530.out 4).trans rfl
          have hfz31_0 := blk_frozen BK530.out 0
          have hfz31_1 := blk_frozen BK530.out 1
          have hfz31_2 := blk_frozen BK530.out 2
          have hfz31_3 := blk_frozen BK530.out 3
          have hfz31_4 := blk_frozen BK530.out 4
          go_wp2
          repeat (go_quiet (fail); try go_wp2)
          go_roundg k2
          case measure => have := HJ3.out; have := HK2.out; omega
          case rel => exact ⟨(x9_2), (wrap64 (x11_2 + 1)), (si_), (si_), H', ⟨by have := HJ3.out; have := HK2.out; omega⟩, ⟨by (with_reducible repeat (first | apply Kd.R_alloc | apply Kd.R_drewN | apply Kd.R_drew)); exact HO_10.out⟩, ⟨by (with_reducible repeat (first | refine blk_drewN ?_ _ | refine blk_drew ?_ | refine blk_alloc ?_ _)); exact BK530.out⟩, ⟨bel_⟩⟩
        ·rw [if_neg c23] at H
         exact absurd H (by simp)
       ·rw [if_neg c22] at H
        have c22b0 : decide (x11_2 < (t534.length : Int)) = false := decide_eq_false c22
        clear c22
        simp only [Option.some.injEq, Prod.mk.injEq] at H
        obtain ⟨rfl, rfl, rfl⟩ := H
        obtain ⟨Ao32, co32, eo32⟩ := Kd.R_slice HO_10.out
        subst eo32
        go_wp2
        repeat (go_quiet (fail); try go_wp2)
        go_ret3
        exact ⟨fi_, bel_⟩

end Go.Proofs.YtnclcbjagleoeaaDoor.P
namespace Go.Proofs.YtnclcbjagleoeaaDoor.P
open Go.RowKit Go.Proofs.YtnclcbjagleoeaaDoorW.PrintWords Go.Proofs.YtnclcbjagleoeaaDoorW.PrintLast
set_option linter.unusedVariables false
set_option linter.unusedSimpArgs false
mutual
def spec_l3Put.j0 : Nat → List (S120) → List (S120) → Int → Int → Option ((List (S120)))
 | 0, _, _, _, _ => none
 | k + 1, x0, x1, x10, x11 => (some (([] : List (S120)) : List (S120))).bind fun y543 => (if 0 ≤ x11 then (if x11 ≤ (x0.length : Int) then ((some (x0.take (x11 : Int).toNat : List (S120))).bind fun y546 => (if y543.length + y546.length < 4398046511104 then (spec_l3Put.l0 k x0 x1 x10 x11 (y543 ++ y546) 0) else (none))) else (none)) else (none))
def spec_l3Put.l0 : Nat → List (S120) → List (S120) → Int → Int → List (S120) → Int → Option ((List (S120)))
 | 0, _, _, _, _, _, _ => none
 | k + 1, x0, x1, x10, x11, x12, x13 => if x13 < (x1.length : Int) then (if 0 ≤ x13 then (if x12.length < 4398046511104 then (spec_l3Put.l0 k x0 x1 x10 x11 (x12 ++ [(⟨(rd_T120 x1 x13).f0, wrap64 (((rd_T120 x1 x13).f1) + x10), (rd_T120 x1 x13).f2⟩ : S120)]) (wrap64 (x13 + 1))) else (none)) else (none)) else (if 0 ≤ x11 then (if x11 ≤ (x0.length : Int) then ((some (x0.drop (x11 : Int).toNat : List (S120))).bind fun y558 => (if x12.length + y558.length < 4398046511104 then (some (x12 ++ y558)) else (none))) else (none)) else (none))
end
def spec_l3Put.f (k : Nat) (l0 : List (S120)) (l1 : List (S120)) (a2 : Int) (a3 : Int) : Option ((List (S120))) := (spec_l2At.f k l0 a2).bind fun t538 => (if 0 ≤ t538 then (if t538 < (l0.length : Int) then (if 0 < (l1.length : Int) then (if a3 > 0 then ((spec_l2At.f k l0 a3).bind fun t541 => ((spec_l2End.f k l0 t541).bind fun t542 => (spec_l3Put.j0 k l0 l1 (wrap64 ((wrap64 (((rd_T120 l0 t538).f1) + 1)) - ((rd_T120 l1 0).f1))) t542))) else (spec_l3Put.j0 k l0 l1 (wrap64 ((wrap64 (((rd_T120 l0 t538).f1) + 1)) - ((rd_T120 l1 0).f1))) (wrap64 (t538 + 1)))) else (none)) else (none)) else (none))
theorem spec_l3Put.mono_l : ∀ k, (∀ y0 y1 y2 y3, LeO (spec_l3Put.j0 k y0 y1 y2 y3) (spec_l3Put.j0 (k + 1) y0 y1 y2 y3)) ∧ (∀ y0 y1 y2 y3 y4 y5, LeO (spec_l3Put.l0 k y0 y1 y2 y3 y4 y5) (spec_l3Put.l0 (k + 1) y0 y1 y2 y3 y4 y5))
 | 0 => ⟨fun _ _ _ _ r h => by simp [spec_l3Put.j0] at h, fun _ _ _ _ _ _ r h => by simp [spec_l3Put.l0] at h⟩
 | k + 1 => by
  obtain ⟨ih0, ih1⟩ := spec_l3Put.mono_l k
  refine ⟨?_, ?_⟩
  ·intro y0 y1 y2 y3
   unfold spec_l3Put.j0
   repeat' first
   | (with_reducible exact ih0 _ _ _ _)
   | (with_reducible exact ih1 _ _ _ _ _ _)
   | (with_reducible exact spec_l2At.mono _ _ _)
   | (with_reducible exact spec_l2End.mono _ _ _)
   | (with_reducible exact LeO.refl _)
   | (with_reducible exact LeO.none _)
   | (with_reducible refine LeO.ite ?_ ?_)
   | (with_reducible refine LeO.bind ?_ (fun _ => ?_))
   | exact ih0 _ _ _ _
   | exact ih1 _ _ _ _ _ _
   | exact spec_l2At.mono _ _ _
   | exact spec_l2End.mono _ _ _
   | exact LeO.none _
   | refine LeO.ite ?_ ?_
   | refine LeO.bind ?_ (fun _ => ?_)
  ·intro y0 y1 y2 y3 y4 y5
   unfold spec_l3Put.l0
   repeat' first
   | (with_reducible exact ih0 _ _ _ _)
   | (with_reducible exact ih1 _ _ _ _ _ _)
   | (with_reducible exact spec_l2At.mono _ _ _)
   | (with_reducible exact spec_l2End.mono _ _ _)
   | (with_reducible exact LeO.refl _)
   | (with_reducible exact LeO.none _)
   | (with_reducible refine LeO.ite ?_ ?_)
   | (with_reducible refine LeO.bind ?_ (fun _ => ?_))
   | exact ih0 _ _ _ _
   | exact ih1 _ _ _ _ _ _
   | exact spec_l2At.mono _ _ _
   | exact spec_l2End.mono _ _ _
   | exact LeO.none _
   | refine LeO.ite ?_ ?_
   | refine LeO.bind ?_ (fun _ => ?_)
theorem spec_l3Put.mono : ∀ a0 a1 a2 a3 k, LeO (spec_l3Put.f k a0 a1 a2 a3) (spec_l3Put.f (k + 1) a0 a1 a2 a3) := by
 intro a0 a1 a2 a3 k
 obtain ⟨ih0, ih1⟩ := spec_l3Put.mono_l k
 unfold spec_l3Put.f
 repeat' first
   | (with_reducible exact ih0 _ _ _ _)
   | (with_reducible exact ih1 _ _ _ _ _ _)
   | (with_reducible exact spec_l2At.mono _ _ _)
   | (with_reducible exact spec_l2End.mono _ _ _)
   | (with_reducible exact LeO.refl _)
   | (with_reducible exact LeO.none _)
   | (with_reducible refine LeO.ite ?_ ?_)
   | (with_reducible refine LeO.bind ?_ (fun _ => ?_))
   | exact ih0 _ _ _ _
   | exact ih1 _ _ _ _ _ _
   | exact spec_l2At.mono _ _ _
   | exact spec_l2End.mono _ _ _
   | exact LeO.none _
   | refine LeO.ite ?_ ?_
   | refine LeO.bind ?_ (fun _ => ?_)
set_option maxHeartbeats 8000000 in
set_option maxRecDepth 100000 in
theorem spec_l3Put.calls (k : Nat) (A0 : Option Addr) (c0 : Nat) (l0 : List (S120)) (A1 : Option Addr) (c1 : Nat) (l1 : List (S120)) (a2 : Int) (a3 : Int) (r : List (S120)) (w : World) (hr0 : Kd.C k120 w A0 l0.length l0) (hc0 : l0.length ≤ c0) (hr1 : Kd.C k120 w A1 l1.length l1) (hc1 : l1.length ≤ c1) (h : spec_l3Put.f k l0 l1 a2 a3 = some r) :
  Calls Tryd.prog 100 #[.slice A0 l0.length c0, .slice A1 l1.length c1, .int .i64 a2, .int .i64 a3] w fun e w' => ∃ v0_ : Value, e = .returned (v0_) ∧ Kd.R k120 120 w' w.heap.size (fun _ => True) v0_ r ∧ Below w.heap.size w w' := by
 have hu120 := Tryd.underlying120
 have HR0 := Aside0.mk hr0
 have HC0 := Aside0.mk hc0
 clear hr0 hc0
 have HR1 := Aside0.mk hr1
 have HC1 := Aside0.mk hc1
 clear hr1 hc1
 have HB := Aside0.mk (Below.refl w.heap.size w)
 have H : ((spec_l2At.f k l0 a2).bind fun t538 => (if 0 ≤ t538 then (if t538 < (l0.length : Int) then (if 0 < (l1.length : Int) then (if a3 > 0 then ((spec_l2At.f k l0 a3).bind fun t541 => ((spec_l2End.f k l0 t541).bind fun t542 => (spec_l3Put.j0 k l0 l1 (wrap64 ((wrap64 (((rd_T120 l0 t538).f1) + 1)) - ((rd_T120 l1 0).f1))) t542))) else (spec_l3Put.j0 k l0 l1 (wrap64 ((wrap64 (((rd_T120 l0 t538).f1) + 1)) - ((rd_T120 l1 0).f1))) (wrap64 (t538 + 1)))) else (none)) else (none)) else (none))) = some r := h
 clear h
 replace H := Option.bind_eq_some_iff.mp H
 obtain ⟨t538, A50, H⟩ := H
 replace H : (if 0 ≤ t538 then (if t538 < (l0.length : Int) then (if 0 < (l1.length : Int) then (if a3 > 0 then ((spec_l2At.f k l0 a3).bind fun t541 => ((spec_l2End.f k l0 t541).bind fun t542 => (spec_l3Put.j0 k l0 l1 (wrap64 ((wrap64 (((rd_T120 l0 t538).f1) + 1)) - ((rd_T120 l1 0).f1))) t542))) else (spec_l3Put.j0 k l0 l1 (wrap64 ((wrap64 (((rd_T120 l0 t538).f1) + 1)) - ((rd_T120 l1 0).f1))) (wrap64 (t538 + 1)))) else (none)) else (none)) else (none)) = some r := H
 have A5 := Aside0.mk A50
 clear A50
 by_cases c6 : 0 ≤ t538
 ·rw [if_pos c6] at H
  have c6b0 : decide (0 ≤ t538) = true := decide_eq_true c6
  clear c6
  by_cases c7 : t538 < (l0.length : Int)
  ·rw [if_pos c7] at H
   have c7b0 : decide (t538 < (l0.length : Int)) = true := decide_eq_true c7
   clear c7
   by_cases c8 : 0 < (l1.length : Int)
   ·rw [if_pos c8] at H
    have c8b0 : decide (0 < (l1.length : Int)) = true := decide_eq_true c8
    have c8b1 : decide (0 < l1.length) = true := decide_eq_true (by omega)
    clear c8
    have HC9 := Aside0.mk H
    clear H
    go_enter Tryd.func100, Tryd.ntmps100
    go_upto_if 32 with (first | (go_at_call 98; (with_reducible refine (spec_l2At.calls k _ _ l0 a2 t538 _ ?side1 ?side2 A5.out).mono ?_); (case side1 => repeat (first | exact HR0.out | (with_reducible refine Kd.C_alloc ?_ _) | (with_reducible refine Kd.C_drewN ?_ _) | (with_reducible refine Kd.C_drew ?_))); (case side2 => exact HC0.out); rintro e w' ⟨rfl, ⟨nd, rfl⟩⟩; (try first | exact ⟨rfl, _, World.drewN_drewN _ _ _⟩ | exact ⟨rfl, _, Eq.trans (World.drewN_drewN _ _ _) (congrArg (World.drewN _) (Nat.add_assoc _ _ _))⟩); have p539 : 0 ≤ (t538 : Int) := od_; have q539 : t538 < (l0.length : Int) := od_; obtain ⟨ad539, e539, hx539_0, hx539_1, hx539_2⟩ := at_T120 HR0.out t538 p539 q539; cases e539; replace p539 := eq_true p539; replace q539 := eq_true q539; have p540 : 0 ≤ (0 : Int) := (by omega); have q540 : 0 < (l1.length : Int) := od_; obtain ⟨ad540, e540, hx540_0, hx540_1, hx540_2⟩ := at_T120 HR1.out 0 p540 q540; cases e540; have qi540 : (0 < l1.length) = True := eq_true (by omega); (try rw [show ((0 : Int)).toNat = 0 from rfl] at hx540_0); (try rw [show 0 * 3 = 0 from rfl] at hx540_0); (try rw [Addr.add_zero'] at hx540_0); (try rw [show ((0 : Int)).toNat = 0 from rfl] at hx540_1); (try rw [show 0 * 3 = 0 from rfl] at hx540_1); (try rw [Addr.add_zero'] at hx540_1); (try rw [show ((0 : Int)).toNat = 0 from rfl] at hx540_2); (try rw [show 0 * 3 = 0 from rfl] at hx540_2); (try rw [Addr.add_zero'] at hx540_2); replace p540 := eq_true p540; replace q540 := eq_true q540))
    repeat (go_quiet (first | (go_at_call 98; (with_reducible refine (spec_l2At.calls k _ _ l0 a2 t538 _ ?side1 ?side2 A5.out).mono ?_); (case side1 => repeat (first | exact HR0.out | (with_reducible refine Kd.C_alloc ?_ _) | (with_reducible refine Kd.C_drewN ?_ _) | (with_reducible refine Kd.C_drew ?_))); (case side2 => exact HC0.out); rintro e w' ⟨rfl, ⟨nd, rfl⟩⟩; (try first | exact ⟨rfl, _, World.drewN_drewN _ _ _⟩ | exact ⟨rfl, _, Eq.trans (World.drewN_drewN _ _ _) (congrArg (World.drewN _) (Nat.add_assoc _ _ _))⟩); have p539 : 0 ≤ (t538 : Int) := od_; have q539 : t538 < (l0.length : Int) := od_; obtain ⟨ad539, e539, hx539_0, hx539_1, hx539_2⟩ := at_T120 HR0.out t538 p539 q539; cases e539; replace p539 := eq_true p539; replace q539 := eq_true q539; have p540 : 0 ≤ (0 : Int) := (by omega); have q540 : 0 < (l1.length : Int) := od_; obtain ⟨ad540, e540, hx540_0, hx540_1, hx540_2⟩ := at_T120 HR1.out 0 p540 q540; cases e540; have qi540 : (0 < l1.length) = True := eq_true (by omega); (try rw [show ((0 : Int)).toNat = 0 from rfl] at hx540_0); (try rw [show 0 * 3 = 0 from rfl] at hx540_0); (try rw [Addr.add_zero'] at hx540_0); (try rw [show ((0 : Int)).toNat = 0 from rfl] at hx540_1); (try rw [show 0 * 3 = 0 from rfl] at hx540_1); (try rw [Addr.add_zero'] at hx540_1); (try rw [show ((0 : Int)).toNat = 0 from rfl] at hx540_2); (try rw [show 0 * 3 = 0 from rfl] at hx540_2); (try rw [Addr.add_zero'] at hx540_2); replace p540 := eq_true p540; replace q540 := eq_true q540)); go_upto_if 32 with (first | (go_at_call 98; (with_reducible refine (spec_l2At.calls k _ _ l0 a2 t538 _ ?side1 ?side2 A5.out).mono ?_); (case side1 => repeat (first | exact HR0.out | (with_reducible refine Kd.C_alloc ?_ _) | (with_reducible refine Kd.C_drewN ?_ _) | (with_reducible refine Kd.C_drew ?_))); (case side2 => exact HC0.out); rintro e w' ⟨rfl, ⟨nd, rfl⟩⟩; (try first | exact ⟨rfl, _, World.drewN_drewN _ _ _⟩ | exact ⟨rfl, _, Eq.trans (World.drewN_drewN _ _ _) (congrArg (World.drewN _) (Nat.add_assoc _ _ _))⟩); have p539 : 0 ≤ (t538 : Int) := od_; have q539 : t538 < (l0.length : Int) := od_; obtain ⟨ad539, e539, hx539_0, hx539_1, hx539_2⟩ := at_T120 HR0.out t538 p539 q539; cases e539; replace p539 := eq_true p539; replace q539 := eq_true q539; have p540 : 0 ≤ (0 : Int) := (by omega); have q540 : 0 < (l1.length : Int) := od_; obtain ⟨ad540, e540, hx540_0, hx540_1, hx540_2⟩ := at_T120 HR1.out 0 p540 q540; cases e540; have qi540 : (0 < l1.length) = True := eq_true (by omega); (try rw [show ((0 : Int)).toNat = 0 from rfl] at hx540_0); (try rw [show 0 * 3 = 0 from rfl] at hx540_0); (try rw [Addr.add_zero'] at hx540_0); (try rw [show ((0 : Int)).toNat = 0 from rfl] at hx540_1); (try rw [show 0 * 3 = 0 from rfl] at hx540_1); (try rw [Addr.add_zero'] at hx540_1); (try rw [show ((0 : Int)).toNat = 0 from rfl] at hx540_2); (try rw [show 0 * 3 = 0 from rfl] at hx540_2); (try rw [Addr.add_zero'] at hx540_2); replace p540 := eq_true p540; replace q540 := eq_true q540)))
    (try simp only [Act.put, List.setIfInBounds_toArray, List.set_cons_zero, List.set_cons_succ])
    go_cut [11] (fun v11 wc => ∃ (kq : Nat) (x11_8 : Int), v11 = .int .i64 x11_8 ∧ Aside0 (spec_l3Put.j0 kq l0 l1 (wrap64 ((wrap64 (((rd_T120 l0 t538).f1) + 1)) - ((rd_T120 l1 0).f1))) x11_8 = some r) ∧ Aside0 (kq ≤ k) ∧ Aside0 (Below w.heap.size w wc))
    case first =>
     have H := HC9.out
     clear HC9
     by_cases c10 : a3 > 0
     ·rw [if_pos c10] at H
      have c10b0 : decide (0 < a3) = true := decide_eq_true c10
      clear c10
      (first | rw [c10b0] | (simp only [i64_w, i32_w]; rw [c10b0]) | skip)
      replace H := Option.bind_eq_some_iff.mp H
      obtain ⟨t541, A110, H⟩ := H
      replace H : ((spec_l2End.f k l0 t541).bind fun t542 => (spec_l3Put.j0 k l0 l1 (wrap64 ((wrap64 (((rd_T120 l0 t538).f1) + 1)) - ((rd_T120 l1 0).f1))) t542)) = some r := H
      have A11 := Aside0.mk A110
      clear A110
      replace H := Option.bind_eq_some_iff.mp H
      obtain ⟨t542, A120, H⟩ := H
      replace H : (spec_l3Put.j0 k l0 l1 (wrap64 ((wrap64 (((rd_T120 l0 t538).f1) + 1)) - ((rd_T120 l1 0).f1))) t542) = some r := H
      have A12 := Aside0.mk A120
      clear A120
      have H' := Aside0.mk H
      clear H
      go_wp2_with (first | (go_at_call 98; (with_reducible refine (spec_l2At.calls k _ _ l0 a3 t541 _ ?side1 ?side2 A11.out).mono ?_); (case side1 => exact cp_ HR0.out); (case side2 => exact HC0.out); rintro e w' ⟨rfl, ⟨nd, rfl⟩⟩; (try first | exact ⟨rfl, _, World.drewN_drewN _ _ _⟩ | exact ⟨rfl, _, Eq.trans (World.drewN_drewN _ _ _) (congrArg (World.drewN _) (Nat.add_assoc _ _ _))⟩)) | (go_at_call 101; (with_reducible refine (spec_l2End.calls k _ _ l0 t541 t542 _ ?side1 ?side2 A12.out).mono ?_); (case side1 => repeat (first | exact (Kd.C_below HR0.out (bel_)) | (with_reducible refine Kd.C_alloc ?_ _) | (with_reducible refine Kd.C_drewN ?_ _) | (with_reducible refine Kd.C_drew ?_))); (case side2 => exact HC0.out); rintro e w' ⟨rfl, ⟨nd, rfl⟩⟩; (try first | exact ⟨rfl, _, World.drewN_drewN _ _ _⟩ | exact ⟨rfl, _, Eq.trans (World.drewN_drewN _ _ _) (congrArg (World.drewN _) (Nat.add_assoc _ _ _))⟩)))
      repeat (go_quiet (first | (go_at_call 98; (with_reducible refine (spec_l2At.calls k _ _ l0 a3 t541 _ ?side1 ?side2 A11.out).mono ?_); (case side1 => exact cp_ HR0.out); (case side2 => exact HC0.out); rintro e w' ⟨rfl, ⟨nd, rfl⟩⟩; (try first | exact ⟨rfl, _, World.drewN_drewN _ _ _⟩ | exact ⟨rfl, _, Eq.trans (World.drewN_drewN _ _ _) (congrArg (World.drewN _) (Nat.add_assoc _ _ _))⟩)) | (go_at_call 101; (with_reducible refine (spec_l2End.calls k _ _ l0 t541 t542 _ ?side1 ?side2 A12.out).mono ?_); (case side1 => repeat (first | exact (Kd.C_below HR0.out (bel_)) | (with_reducible refine Kd.C_alloc ?_ _) | (with_reducible refine Kd.C_drewN ?_ _) | (with_reducible refine Kd.C_drew ?_))); (case side2 => exact HC0.out); rintro e w' ⟨rfl, ⟨nd, rfl⟩⟩; (try first | exact ⟨rfl, _, World.drewN_drewN _ _ _⟩ | exact ⟨rfl, _, Eq.trans (World.drewN_drewN _ _ _) (congrArg (World.drewN _) (Nat.add_assoc _ _ _))⟩))); try go_wp2_with (first | (go_at_call 98; (with_reducible refine (spec_l2At.calls k _ _ l0 a3 t541 _ ?side1 ?side2 A11.out).mono ?_); (case side1 => exact cp_ HR0.out); (case side2 => exact HC0.out); rintro e w' ⟨rfl, ⟨nd, rfl⟩⟩; (try first | exact ⟨rfl, _, World.drewN_drewN _ _ _⟩ | exact ⟨rfl, _, Eq.trans (World.drewN_drewN _ _ _) (congrArg (World.drewN _) (Nat.add_assoc _ _ _))⟩)) | (go_at_call 101; (with_reducible refine (spec_l2End.calls k _ _ l0 t541 t542 _ ?side1 ?side2 A12.out).mono ?_); (case side1 => repeat (first | exact (Kd.C_below HR0.out (bel_)) | (with_reducible refine Kd.C_alloc ?_ _) | (with_reducible refine Kd.C_drewN ?_ _) | (with_reducible refine Kd.C_drew ?_))); (case side2 => exact HC0.out); rintro e w' ⟨rfl, ⟨nd, rfl⟩⟩; (try first | exact ⟨rfl, _, World.drewN_drewN _ _ _⟩ | exact ⟨rfl, _, Eq.trans (World.drewN_drewN _ _ _) (congrArg (World.drewN _) (Nat.add_assoc _ _ _))⟩))))
      go_meet
      case rel => exact ⟨_, (t542), (si_), H', ⟨by first | omega | exact Nat.le_refl _⟩, ⟨bel_⟩⟩
     ·rw [if_neg c10] at H
      have c10b0 : decide (0 < a3) = false := decide_eq_false c10
      clear c10
      (first | rw [c10b0] | (simp only [i64_w, i32_w]; rw [c10b0]) | skip)
      have H' := Aside0.mk H
      clear H
      go_wp2
      repeat (go_quiet (fail); try go_wp2)
      go_meet
      case rel => exact ⟨_, (wrap64 (t538 + 1)), (si_), H', ⟨by first | omega | exact Nat.le_refl _⟩, ⟨bel_⟩⟩
    case rest =>
     clear HC9
     try clear c1
     try clear p2
     try clear p5
     try clear q5
     try clear hx5
     try clear qi5
     try clear c6
     try clear c6b0
     try clear p6
     try clear c7
     try clear c7b0
     try clear c8
     try clear c8b0
     try clear c8b1
     try clear c10
     try clear c10b0
     try clear hx539_0
     try clear hx539_1
     try clear hx539_2
     try clear hx540_0
     try clear hx540_1
     try clear hx540_2
     try clear p539
     try clear p540
     try clear q539
     try clear q540
     obtain ⟨kq, x11_8, rfl, HA, HJ8, HB⟩ := hcut
     cases kq with
     | zero => exact absurd HA.out (by simp [spec_l3Put.j0])
     | succ kj8 =>
      have H := HA.out
      clear HA
      simp only [spec_l3Put.j0] at H
      obtain ⟨y543, hy543⟩ : ∃ y_ : List (S120), y_ = (([] : List (S120))) := ⟨_, rfl⟩
      replace H : (if 0 ≤ x11_8 then (if x11_8 ≤ (l0.length : Int) then ((some (l0.take (x11_8 : Int).toNat : List (S120))).bind fun y546 => (if y543.length + y546.length < 4398046511104 then (spec_l3Put.l0 kj8 l0 l1 (wrap64 ((wrap64 (((rd_T120 l0 t538).f1) + 1)) - ((rd_T120 l1 0).f1))) x11_8 (y543 ++ y546) 0) else (none))) else (none)) else (none)) = some r := by first | (rw [hy543]; with_reducible exact H) | (have H2_ := (Option.bind_some _ _).symm.trans H; rw [hy543]; with_reducible exact H2_) | (have H2_ := (Option.bind_some _ _).symm.trans H; with_reducible exact H2_) | with_reducible exact H | (rw [hy543]; exact H) | exact H
      have Ny543 := Aside0.mk hy543
      clear hy543
      by_cases c13 : 0 ≤ x11_8
      ·rw [if_pos c13] at H
       have c13b0 := eq_true c13
       have c13b1 : decide (0 ≤ x11_8) = true := decide_eq_true c13
       clear c13
       by_cases c14 : x11_8 ≤ (l0.length : Int)
       ·rw [if_pos c14] at H
        have c14b0 := eq_true c14
        have c14b1 : decide (x11_8 ≤ (l0.length : Int)) = true := decide_eq_true c14
        clear c14
        obtain ⟨y546, hy546⟩ : ∃ y_ : List (S120), y_ = (l0.take (x11_8 : Int).toNat) := ⟨_, rfl⟩
        replace H : (if y543.length + y546.length < 4398046511104 then (spec_l3Put.l0 kj8 l0 l1 (wrap64 ((wrap64 (((rd_T120 l0 t538).f1) + 1)) - ((rd_T120 l1 0).f1))) x11_8 (y543 ++ y546) 0) else (none)) = some r := by first | (rw [hy546]; with_reducible exact H) | (have H2_ := (Option.bind_some _ _).symm.trans H; rw [hy546]; with_reducible exact H2_) | (have H2_ := (Option.bind_some _ _).symm.trans H; with_reducible exact H2_) | with_reducible exact H | (rw [hy546]; exact H) | exact H
        have Ny546 := Aside0.mk hy546
        clear hy546
        by_cases c15 : y543.length + y546.length < 4398046511104
        ·rw [if_pos c15] at H
         have LMc15 := Aside0.mk c15
         clear c15
         obtain ⟨y550, hy550⟩ : ∃ y_ : List (S120), y_ = (y543 ++ y546) := ⟨_, rfl⟩
         replace H : (spec_l3Put.l0 kj8 l0 l1 (wrap64 ((wrap64 (((rd_T120 l0 t538).f1) + 1)) - ((rd_T120 l1 0).f1))) x11_8 y550 0) = some r := by first | (rw [hy550]; with_reducible exact H) | (have H2_ := (Option.bind_some _ _).symm.trans H; rw [hy550]; with_reducible exact H2_) | (have H2_ := (Option.bind_some _ _).symm.trans H; with_reducible exact H2_) | with_reducible exact H | (rw [hy550]; exact H) | exact H
         have Ny550 := Aside0.mk hy550
         clear hy550
         have H' := Aside0.mk H
         clear H
         go_wp2_with (first | ((with_reducible refine gate_dst (N := 38) rfl ?_); refine Kd.R_lit k120 _ 120 ?hg (N := 38) ?hd (xs := ([] : List (S120))) (inner := []) (ok := fun _ => True) (okp := fun _ => True) ?hr ?hp (fun _ hk => hk) trivial (Below.refl _ _) (Nat.le_refl _) (by simp) ?_; (case hd => rfl); (case hg => rfl); (case hr => first | (go_simp; done) | (go_simp; rfl)); (case hp => exact (Reps.none _ _)); intro v544 w16 ho17 hb hg_ hnew_; clear hg_ hnew_; (first | rw [← Ny543.out] at ho17 | (simp only [Int.reduceToNat] at ho17; rw [← Ny543.out] at ho17)); have HO545 := Aside0.mk (Kd.R_lower ho17 (below_size (bel_))); replace HB := Aside0.mk (below_step (bel_) hb); clear hb ho17; have q18 : (x11_8 : Int) ≤ ((l0.length : Int) : Int) := od_; obtain ⟨i018, hi018, _, hsz18, _⟩ := info_parts info120; have hroom18 : l0.length ≤ c0 := HC0.out; have hC18 : Kd.C k120 _ (some ad539) l0.length l0 := HR0.out; have hcut18 := cut_to (P := Tryd.prog) 107 120 .i64 Tryd.underlying107 hi018 (some ad539) l0.length c0 x11_8 (od_) q18 hroom18; have hr18 := Kd.C_take (m := (x11_8 : Int).toNat) hC18 (by omega); have hy18 : y546.length = (x11_8 : Int).toNat := (by rw [Ny546.out, List.length_take]; omega); rw [← Ny546.out] at hr18; rw [← hy18] at hcut18; have HR549 := Aside0.mk hr18; have HC549 := Aside0.mk (show y546.length ≤ c0 from by omega); clear hr18 hC18 hroom18 hi018 hsz18; have KY18 := Aside0.mk hy18; clear hy18; replace q18 := eq_true q18) | ((with_reducible refine gate_builtin (b := .append) (xs := #[.tmp 38, .tmp 41]) rfl ?_); at_builtin; refine Kd.R_append_rows k120 (w0 := w) w.heap.size rfl (.tmp 38) (.tmp 41) 107 120 (.agg #[(.int .i64 0), (.int .i64 0), (.string ⟨#[]⟩)]) 32 rfl Tryd.underlying107 info120 rfl (by decide) (by omega) v544 y543 y546 _ _ _ (fun _ => True) (fun _ => False) rfl rfl ?aO ?aR (fun _ _ h => h) (fun _ h => h.elim) ?aF ?aB ?aS ?aL ?_; (case aR => repeat (first | exact (Kd.C_below HR549.out HB.out) | (with_reducible refine Kd.C_alloc ?_ _) | (with_reducible refine Kd.C_drewN ?_ _) | (with_reducible refine Kd.C_drew ?_))); (case aB => exact (bel_)); (case aF => exact (fun _ _ => trivial)); (case aO => exact (rp_ HO545.out)); (case aS => exact (below_size (bel_))); (case aL => have := LMc15.out; omega); intro v551 w19 ho hb hg hat; rw [← Ny550.out] at ho; replace HB := Aside0.mk (hb); have HO552 := Aside0.mk (ho); clear HO545; clear ho hb hg hat))
         repeat (go_quiet (first | ((with_reducible refine gate_dst (N := 38) rfl ?_); refine Kd.R_lit k120 _ 120 ?hg (N := 38) ?hd (xs := ([] : List (S120))) (inner := []) (ok := fun _ => True) (okp := fun _ => True) ?hr ?hp (fun _ hk => hk) trivial (Below.refl _ _) (Nat.le_refl _) (by simp) ?_; (case hd => rfl); (case hg => rfl); (case hr => first | (go_simp; done) | (go_simp; rfl)); (case hp => exact (Reps.none _ _)); intro v544 w16 ho17 hb hg_ hnew_; clear hg_ hnew_; (first | rw [← Ny543.out] at ho17 | (simp only [Int.reduceToNat] at ho17; rw [← Ny543.out] at ho17)); have HO545 := Aside0.mk (Kd.R_lower ho17 (below_size (bel_))); replace HB := Aside0.mk (below_step (bel_) hb); clear hb ho17; have q18 : (x11_8 : Int) ≤ ((l0.length : Int) : Int) := od_; obtain ⟨i018, hi018, _, hsz18, _⟩ := info_parts info120; have hroom18 : l0.length ≤ c0 := HC0.out; have hC18 : Kd.C k120 _ (some ad539) l0.length l0 := HR0.out; have hcut18 := cut_to (P := Tryd.prog) 107 120 .i64 Tryd.underlying107 hi018 (some ad539) l0.length c0 x11_8 (od_) q18 hroom18; have hr18 := Kd.C_take (m := (x11_8 : Int).toNat) hC18 (by omega); have hy18 : y546.length = (x11_8 : Int).toNat := (by rw [Ny546.out, List.length_take]; omega); rw [← Ny546.out] at hr18; rw [← hy18] at hcut18; have HR549 := Aside0.mk hr18; have HC549 := Aside0.mk (show y546.length ≤ c0 from by omega); clear hr18 hC18 hroom18 hi018 hsz18; have KY18 := Aside0.mk hy18; clear hy18; replace q18 := eq_true q18) | ((with_reducible refine gate_builtin (b := .append) (xs := #[.tmp 38, .tmp 41]) rfl ?_); at_builtin; refine Kd.R_append_rows k120 (w0 := w) w.heap.size rfl (.tmp 38) (.tmp 41) 107 120 (.agg #[(.int .i64 0), (.int .i64 0), (.string ⟨#[]⟩)]) 32 rfl Tryd.underlying107 info120 rfl (by decide) (by omega) v544 y543 y546 _ _ _ (fun _ => True) (fun _ => False) rfl rfl ?aO ?aR (fun _ _ h => h) (fun _ h => h.elim) ?aF ?aB ?aS ?aL ?_; (case aR => repeat (first | exact (Kd.C_below HR549.out HB.out) | (with_reducible refine Kd.C_alloc ?_ _) | (with_reducible refine Kd.C_drewN ?_ _) | (with_reducible refine Kd.C_drew ?_))); (case aB => exact (bel_)); (case aF => exact (fun _ _ => trivial)); (case aO => exact (rp_ HO545.out)); (case aS => exact (below_size (bel_))); (case aL => have := LMc15.out; omega); intro v551 w19 ho hb hg hat; rw [← Ny550.out] at ho; replace HB := Aside0.mk (hb); have HO552 := Aside0.mk (ho); clear HO545; clear ho hb hg hat)); try go_wp2_with (first | ((with_reducible refine gate_dst (N := 38) rfl ?_); refine Kd.R_lit k120 _ 120 ?hg (N := 38) ?hd (xs := ([] : List (S120))) (inner := []) (ok := fun _ => True) (okp := fun _ => True) ?hr ?hp (fun _ hk => hk) trivial (Below.refl _ _) (Nat.le_refl _) (by simp) ?_; (case hd => rfl); (case hg => rfl); (case hr => first | (go_simp; done) | (go_simp; rfl)); (case hp => exact (Reps.none _ _)); intro v544 w16 ho17 hb hg_ hnew_; clear hg_ hnew_; (first | rw [← Ny543.out] at ho17 | (simp only [Int.reduceToNat] at ho17; rw [← Ny543.out] at ho17)); have HO545 := Aside0.mk (Kd.R_lower ho17 (below_size (bel_))); replace HB := Aside0.mk (below_step (bel_) hb); clear hb ho17; have q18 : (x11_8 : Int) ≤ ((l0.length : Int) : Int) := od_; obtain ⟨i018, hi018, _, hsz18, _⟩ := info_parts info120; have hroom18 : l0.length ≤ c0 := HC0.out; have hC18 : Kd.C k120 _ (some ad539) l0.length l0 := HR0.out; have hcut18 := cut_to (P := Tryd.prog) 107 120 .i64 Tryd.underlying107 hi018 (some ad539) l0.length c0 x11_8 (od_) q18 hroom18; have hr18 := Kd.C_take (m := (x11_8 : Int).toNat) hC18 (by omega); have hy18 : y546.length = (x11_8 : Int).toNat := (by rw [Ny546.out, List.length_take]; omega); rw [← Ny546.out] at hr18; rw [← hy18] at hcut18; have HR549 := Aside0.mk hr18; have HC549 := Aside0.mk (show y546.length ≤ c0 from by omega); clear hr18 hC18 hroom18 hi018 hsz18; have KY18 := Aside0.mk hy18; clear hy18; replace q18 := eq_true q18) | ((with_reducible refine gate_builtin (b := .append) (xs := #[.tmp 38, .tmp 41]) rfl ?_); at_builtin; refine Kd.R_append_rows k120 (w0 := w) w.heap.size rfl (.tmp 38) (.tmp 41) 107 120 (.agg #[(.int .i64 0), (.int .i64 0), (.string ⟨#[]⟩)]) 32 rfl Tryd.underlying107 info120 rfl (by decide) (by omega) v544 y543 y546 _ _ _ (fun _ => True) (fun _ => False) rfl rfl ?aO ?aR (fun _ _ h => h) (fun _ h => h.elim) ?aF ?aB ?aS ?aL ?_; (case aR => repeat (first | exact (Kd.C_below HR549.out HB.out) | (with_reducible refine Kd.C_alloc ?_ _) | (with_reducible refine Kd.C_drewN ?_ _) | (with_reducible refine Kd.C_drew ?_))); (case aB => exact (bel_)); (case aF => exact (fun _ _ => trivial)); (case aO => exact (rp_ HO545.out)); (case aS => exact (below_size (bel_))); (case aL => have := LMc15.out; omega); intro v551 w19 ho hb hg hat; rw [← Ny550.out] at ho; replace HB := Aside0.mk (hb); have HO552 := Aside0.mk (ho); clear HO545; clear ho hb hg hat)))
         go_loopg [12, 13] kj8 (fun kq v12 v13 w' => ∃ (x12_2 : List (S120)) (x13_2 : Int), v13 = .int .i64 x13_2 ∧ Aside0 (spec_l3Put.l0 kq l0 l1 (wrap64 ((wrap64 (((rd_T120 l0 t538).f1) + 1)) - ((rd_T120 l1 0).f1))) x11_8 x12_2 x13_2 = some r) ∧ Aside0 (kq ≤ kj8) ∧ Aside0 (Kd.R k120 120 w' w.heap.size (fun _ => True) v12 x12_2) ∧ Aside0 (Below w.heap.size w w'))
         case atStart => exact ⟨(y550), (0), (si_), H', ⟨Nat.le_refl _⟩, ⟨by (with_reducible repeat (first | apply Kd.R_alloc | apply Kd.R_drewN | apply Kd.R_drew)); exact HO552.out⟩, ⟨bel_⟩⟩
         case round =>
          clear H'
          try clear c1
          try clear q1
          try clear p2
          try clear p5
          try clear q5
          try clear hx5
          try clear qi5
          try clear c6
          try clear c6b0
          try clear p6
          try clear c7
          try clear c7b0
          try clear c8
          try clear c8b0
          try clear c8b1
          try clear c10
          try clear c10b0
          try clear c13
          try clear c13b0
          try clear c13b1
          try clear c14
          try clear c14b0
          try clear c14b1
          try clear c15
          try clear q18
          try clear hx539_0
          try clear hx539_1
          try clear hx539_2
          try clear hx540_0
          try clear hx540_1
          try clear hx540_2
          try clear p2
          try clear p5
          try clear p539
          try clear p540
          try clear p6
          try clear q18
          try clear q5
          try clear q539
          try clear q540
          obtain ⟨x12_2, x13_2, rfl, HA, HK2, HO_12, HB⟩ := hrel
          cases gk with
          | zero => exact absurd HA.out (by simp [spec_l3Put.l0])
          | succ k2 =>
           have H := HA.out
           clear HA
           simp only [spec_l3Put.l0] at H
           by_cases c20 : x13_2 < (l1.length : Int)
           ·rw [if_pos c20] at H
            have c20b0 : decide (x13_2 < (l1.length : Int)) = true := decide_eq_true c20
            clear c20
            by_cases c21 : 0 ≤ x13_2
            ·rw [if_pos c21] at H
             have c21b0 : decide (0 ≤ x13_2) = true := decide_eq_true c21
             clear c21
             by_cases c22 : x12_2.length < 4398046511104
             ·rw [if_pos c22] at H
              have LMc22 := Aside0.mk c22
              clear c22
              obtain ⟨y555, hy555⟩ : ∃ y_ : List (S120), y_ = (x12_2 ++ [(⟨(rd_T120 l1 x13_2).f0, wrap64 (((rd_T120 l1 x13_2).f1) + (wrap64 ((wrap64 (((rd_T120 l0 t538).f1) + 1)) - ((rd_T120 l1 0).f1)))), (rd_T120 l1 x13_2).f2⟩ : S120)]) := ⟨_, rfl⟩
              replace H : (spec_l3Put.l0 k2 l0 l1 (wrap64 ((wrap64 (((rd_T120 l0 t538).f1) + 1)) - ((rd_T120 l1 0).f1))) x11_8 y555 (wrap64 (x13_2 + 1))) = some r := by first | (rw [hy555]; with_reducible exact H) | (have H2_ := (Option.bind_some _ _).symm.trans H; rw [hy555]; with_reducible exact H2_) | (have H2_ := (Option.bind_some _ _).symm.trans H; with_reducible exact H2_) | with_reducible exact H | (rw [hy555]; exact H) | exact H
              have Ny555 := Aside0.mk hy555
              clear hy555
              have H' := Aside0.mk H
              clear H
              have p553 : 0 ≤ (x13_2 : Int) := od_
              have q553 : x13_2 < (l1.length : Int) := od_
              obtain ⟨ad553, e553, hx553_0, hx553_1, hx553_2⟩ := at_T120 HR1.out x13_2 p553 q553
              obtain rfl : ad540 = ad553 := (by injection e553)
              replace hx553_0 := (cb_ HB.out hx553_0 :)
              replace hx553_1 := (cb_ HB.out hx553_1 :)
              replace hx553_2 := (cb_ HB.out hx553_2 :)
              replace p553 := eq_true p553
              replace q553 := eq_true q553
              go_wp2_with (first | ((with_reducible refine gate_dst (N := 14) rfl ?_); refine box_event ?hg (N := 14) ?hd (cs := #[.int .i64 0, .int .i64 0, .string (⟨#[]⟩ : ByteArray)]) (t := 120) ?hr ?_; (case hd => rfl); (case hg => rfl); (case hr => first | (go_simp; done) | (go_simp; rfl)); intro gb554 hg w23 hbox hb; have n0_ := Aside0.mk (Kd.R_below (Kd.R_elderB (rp_ HO_12.out) gb554 (Nat.le_of_eq hg.symm)) hb); have n1_ := Aside0.mk (below_step (bel_) hb); have n2_ := Aside0.mk (hbox); have n3_ := Aside0.mk ((by rw [hg]; exact (below_size (bel_)) : w.heap.size ≤ gb554)); have n4_ := Aside0.mk ((by rw [hg]; exact (below_size (bel_)) : w.heap.size ≤ gb554)); clear HO_12; clear HB; have HO_12 := n0_; have HB := n1_; have BK554 := n2_; have GW554 := n3_; have GE554 := n4_; clear n0_ n1_ n2_ n3_ n4_; clear hb hbox hg; have hcz24_0 : w23.cell? ⟨gb554, 0, none⟩ = some (.int .i64 0) := (blk_cell BK554.out 0).trans rfl; have hcz24_1 : w23.cell? ⟨gb554, 1, none⟩ = some (.int .i64 0) := (blk_cell BK554.out 1).trans rfl; have hcz24_2 : w23.cell? ⟨gb554, 2, none⟩ = some (.string (⟨#[]⟩ : ByteArray)) := (blk_cell BK554.out 2).trans rfl; have hfz24_0 := blk_frozen BK554.out 0; have hfz24_1 := blk_frozen BK554.out 1; have hfz24_2 := blk_frozen BK554.out 2; have hq_ : ((((w23.setCell ⟨gb554, 0, none⟩ (.int .i64 ((rd_T120 l1 x13_2).f0))).setCell ⟨gb554, 1, none⟩ (.int .i64 ((rd_T120 l1 x13_2).f1))).setCell ⟨gb554, 2, none⟩ (.string ((rd_T120 l1 x13_2).f2))).setCell ⟨gb554, 1, none⟩ (.int .i64 (wrap64 (((rd_T120 l1 x13_2).f1) + (wrap64 ((wrap64 (((rd_T120 l0 t538).f1) + 1)) - ((rd_T120 l1 0).f1))))))).heap[gb554]? = some (.cells #[.int .i64 ((rd_T120 l1 x13_2).f0), .int .i64 (wrap64 (((rd_T120 l1 x13_2).f1) + (wrap64 ((wrap64 (((rd_T120 l0 t538).f1) + 1)) - ((rd_T120 l1 0).f1))))), .string ((rd_T120 l1 x13_2).f2)] 120 (0, 0)) := (blk_set (blk_set (blk_set (blk_set BK554.out 0 _) 1 _) 2 _) 1 _).trans rfl; have hq0_ : ((((w23.setCell ⟨gb554, 0, none⟩ (.int .i64 ((rd_T120 l1 x13_2).f0))).setCell ⟨gb554, 1, none⟩ (.int .i64 ((rd_T120 l1 x13_2).f1))).setCell ⟨gb554, 2, none⟩ (.string ((rd_T120 l1 x13_2).f2))).setCell ⟨gb554, 1, none⟩ (.int .i64 (wrap64 (((rd_T120 l1 x13_2).f1) + (wrap64 ((wrap64 (((rd_T120 l0 t538).f1) + 1)) - ((rd_T120 l1 0).f1))))))).cell? ⟨gb554, 0, none⟩ = some (.int .i64 ((rd_T120 l1 x13_2).f0)) := (blk_cell hq_ 0).trans rfl; have hq1_ : ((((w23.setCell ⟨gb554, 0, none⟩ (.int .i64 ((rd_T120 l1 x13_2).f0))).setCell ⟨gb554, 1, none⟩ (.int .i64 ((rd_T120 l1 x13_2).f1))).setCell ⟨gb554, 2, none⟩ (.string ((rd_T120 l1 x13_2).f2))).setCell ⟨gb554, 1, none⟩ (.int .i64 (wrap64 (((rd_T120 l1 x13_2).f1) + (wrap64 ((wrap64 (((rd_T120 l0 t538).f1) + 1)) - ((rd_T120 l1 0).f1))))))).cell? ⟨gb554, 1, none⟩ = some (.int .i64 (wrap64 (((rd_T120 l1 x13_2).f1) + (wrap64 ((wrap64 (((rd_T120 l0 t538).f1) + 1)) - ((rd_T120 l1 0).f1)))))) := (blk_cell hq_ 1).trans rfl; have hq2_ : ((((w23.setCell ⟨gb554, 0, none⟩ (.int .i64 ((rd_T120 l1 x13_2).f0))).setCell ⟨gb554, 1, none⟩ (.int .i64 ((rd_T120 l1 x13_2).f1))).setCell ⟨gb554, 2, none⟩ (.string ((rd_T120 l1 x13_2).f2))).setCell ⟨gb554, 1, none⟩ (.int .i64 (wrap64 (((rd_T120 l1 x13_2).f1) + (wrap64 ((wrap64 (((rd_T120 l0 t538).f1) + 1)) - ((rd_T120 l1 0).f1))))))).cell? ⟨gb554, 2, none⟩ = some (.string ((rd_T120 l1 x13_2).f2)) := (blk_cell hq_ 2).trans rfl; clear hq_) | ((with_reducible refine gate_builtin (b := .append) (xs := #[.tmp 58, .tmp 60]) rfl ?_); at_builtin; refine Kd.R_append k120 (w0 := w) w.heap.size rfl (.tmp 58) (.tmp 60) 107 120 (.agg #[(.int .i64 0), (.int .i64 0), (.string ⟨#[]⟩)]) 32 rfl Tryd.underlying107 info120 rfl (by decide) (by omega) u12 x12_2 (⟨(rd_T120 l1 x13_2).f0, wrap64 (((rd_T120 l1 x13_2).f1) + (wrap64 ((wrap64 (((rd_T120 l0 t538).f1) + 1)) - ((rd_T120 l1 0).f1)))), (rd_T120 l1 x13_2).f2⟩ : S120) [.int .i64 ((rd_T120 l1 x13_2).f0), .int .i64 (wrap64 (((rd_T120 l1 x13_2).f1) + (wrap64 ((wrap64 (((rd_T120 l0 t538).f1) + 1)) - ((rd_T120 l1 0).f1))))), .string ((rd_T120 l1 x13_2).f2)] (fun k_ => k_ ≠ gb554) (fun _ => False) rfl (by first | (go_simp; done) | (go_simp; rfl)) ?aP (fun _ hk => hk.elim) ?aF ?aO ?aB ?aS ?aL ?_; (case aP => exact k120_mkM _ _ _ (⟨(rd_T120 l1 x13_2).f0, wrap64 (((rd_T120 l1 x13_2).f1) + (wrap64 ((wrap64 (((rd_T120 l0 t538).f1) + 1)) - ((rd_T120 l1 0).f1)))), (rd_T120 l1 x13_2).f2⟩ : S120)); (case aB => exact (bel_)); (case aF => exact (fun k_ hk => Kd.freshB (g := gb554) (o := .cells #[.int .i64 ((rd_T120 l1 x13_2).f0), .int .i64 (wrap64 (((rd_T120 l1 x13_2).f1) + (wrap64 ((wrap64 (((rd_T120 l0 t538).f1) + 1)) - ((rd_T120 l1 0).f1))))), .string ((rd_T120 l1 x13_2).f2)] 120 (0, 0)) (by (with_reducible repeat (first | refine blk_drewN ?_ _ | refine blk_drew ?_ | refine blk_alloc ?_ _)); refine blk_put (cs := #[.int .i64 ((rd_T120 l1 x13_2).f0), .int .i64 ((rd_T120 l1 x13_2).f1), .string ((rd_T120 l1 x13_2).f2)]) ?_ 1 _ rfl; (with_reducible repeat (first | refine blk_drewN ?_ _ | refine blk_drew ?_ | refine blk_alloc ?_ _)); refine blk_put (cs := #[.int .i64 ((rd_T120 l1 x13_2).f0), .int .i64 ((rd_T120 l1 x13_2).f1), .string (⟨#[]⟩ : ByteArray)]) ?_ 2 _ rfl; (with_reducible repeat (first | refine blk_drewN ?_ _ | refine blk_drew ?_ | refine blk_alloc ?_ _)); refine blk_put (cs := #[.int .i64 ((rd_T120 l1 x13_2).f0), .int .i64 0, .string (⟨#[]⟩ : ByteArray)]) ?_ 1 _ rfl; (with_reducible repeat (first | refine blk_drewN ?_ _ | refine blk_drew ?_ | refine blk_alloc ?_ _)); refine blk_put (cs := #[.int .i64 0, .int .i64 0, .string (⟨#[]⟩ : ByteArray)]) ?_ 0 _ rfl; (with_reducible repeat (first | refine blk_drewN ?_ _ | refine blk_drew ?_ | refine blk_alloc ?_ _)); exact BK554.out) k_ hk)); (case aO => exact (by (with_reducible repeat (first | apply Kd.R_alloc | apply Kd.R_drewN | apply Kd.R_drew)); exact Kd.R_mono (Kd.R_far (p := ⟨gb554, 1, none⟩) (Kd.R_far (p := ⟨gb554, 2, none⟩) (Kd.R_far (p := ⟨gb554, 1, none⟩) (Kd.R_far (p := ⟨gb554, 0, none⟩) (Kd.R_mono HO_12.out (fun k_ hk => (⟨hk, hk.2⟩ : _ ∧ k_ ≠ gb554))) (fun _ hk => hk.2) (.int .i64 ((rd_T120 l1 x13_2).f0))) (fun _ hk => hk.2) (.int .i64 ((rd_T120 l1 x13_2).f1))) (fun _ hk => hk.2) (.string ((rd_T120 l1 x13_2).f2))) (fun _ hk => hk.2) (.int .i64 (wrap64 (((rd_T120 l1 x13_2).f1) + (wrap64 ((wrap64 (((rd_T120 l0 t538).f1) + 1)) - ((rd_T120 l1 0).f1))))))) (fun _ hk => hk.1.2))); (case aS => exact (below_size (bel_))); (case aL => have := LMc22.out; omega); intro v556 w25 ho hb hg hat; rw [← Ny555.out] at ho; have n0_ := Aside0.mk (blk_grown (g := gb554) (o := .cells #[.int .i64 ((rd_T120 l1 x13_2).f0), .int .i64 (wrap64 (((rd_T120 l1 x13_2).f1) + (wrap64 ((wrap64 (((rd_T120 l0 t538).f1) + 1)) - ((rd_T120 l1 0).f1))))), .string ((rd_T120 l1 x13_2).f2)] 120 (0, 0)) (by (with_reducible repeat (first | refine blk_drewN ?_ _ | refine blk_drew ?_ | refine blk_alloc ?_ _)); refine blk_put (cs := #[.int .i64 ((rd_T120 l1 x13_2).f0), .int .i64 ((rd_T120 l1 x13_2).f1), .string ((rd_T120 l1 x13_2).f2)]) ?_ 1 _ rfl; (with_reducible repeat (first | refine blk_drewN ?_ _ | refine blk_drew ?_ | refine blk_alloc ?_ _)); refine blk_put (cs := #[.int .i64 ((rd_T120 l1 x13_2).f0), .int .i64 ((rd_T120 l1 x13_2).f1), .string (⟨#[]⟩ : ByteArray)]) ?_ 2 _ rfl; (with_reducible repeat (first | refine blk_drewN ?_ _ | refine blk_drew ?_ | refine blk_alloc ?_ _)); refine blk_put (cs := #[.int .i64 ((rd_T120 l1 x13_2).f0), .int .i64 0, .string (⟨#[]⟩ : ByteArray)]) ?_ 1 _ rfl; (with_reducible repeat (first | refine blk_drewN ?_ _ | refine blk_drew ?_ | refine blk_alloc ?_ _)); refine blk_put (cs := #[.int .i64 0, .int .i64 0, .string (⟨#[]⟩ : ByteArray)]) ?_ 0 _ rfl; (with_reducible repeat (first | refine blk_drewN ?_ _ | refine blk_drew ?_ | refine blk_alloc ?_ _)); exact BK554.out) hg (Kd.R_away HO_12.out (fun _ hk => hk.2))); have n1_ := Aside0.mk (hb); have n2_ := Aside0.mk (ho); clear BK554; clear HB; clear HO_12; have BK554 := n0_; have HB := n1_; have HO557 := n2_; clear n0_ n1_ n2_; clear ho hb hg hat))
              repeat (go_quiet (first | ((with_reducible refine gate_dst (N := 14) rfl ?_); refine box_event ?hg (N := 14) ?hd (cs := #[.int .i64 0, .int .i64 0, .string (⟨#[]⟩ : ByteArray)]) (t := 120) ?hr ?_; (case hd => rfl); (case hg => rfl); (case hr => first | (go_simp; done) | (go_simp; rfl)); intro gb554 hg w23 hbox hb; have n0_ := Aside0.mk (Kd.R_below (Kd.R_elderB (rp_ HO_12.out) gb554 (Nat.le_of_eq hg.symm)) hb); have n1_ := Aside0.mk (below_step (bel_) hb); have n2_ := Aside0.mk (hbox); have n3_ := Aside0.mk ((by rw [hg]; exact (below_size (bel_)) : w.heap.size ≤ gb554)); have n4_ := Aside0.mk ((by rw [hg]; exact (below_size (bel_)) : w.heap.size ≤ gb554)); clear HO_12; clear HB; have HO_12 := n0_; have HB := n1_; have BK554 := n2_; have GW554 := n3_; have GE554 := n4_; clear n0_ n1_ n2_ n3_ n4_; clear hb hbox hg; have hcz24_0 : w23.cell? ⟨gb554, 0, none⟩ = some (.int .i64 0) := (blk_cell BK554.out 0).trans rfl; have hcz24_1 : w23.cell? ⟨gb554, 1, none⟩ = some (.int .i64 0) := (blk_cell BK554.out 1).trans rfl; have hcz24_2 : w23.cell? ⟨gb554, 2, none⟩ = some (.string (⟨#[]⟩ : ByteArray)) := (blk_cell BK554.out 2).trans rfl; have hfz24_0 := blk_frozen BK554.out 0; have hfz24_1 := blk_frozen BK554.out 1; have hfz24_2 := blk_frozen BK554.out 2; have hq_ : ((((w23.setCell ⟨gb554, 0, none⟩ (.int .i64 ((rd_T120 l1 x13_2).f0))).setCell ⟨gb554, 1, none⟩ (.int .i64 ((rd_T120 l1 x13_2).f1))).setCell ⟨gb554, 2, none⟩ (.string ((rd_T120 l1 x13_2).f2))).setCell ⟨gb554, 1, none⟩ (.int .i64 (wrap64 (((rd_T120 l1 x13_2).f1) + (wrap64 ((wrap64 (((rd_T120 l0 t538).f1) + 1)) - ((rd_T120 l1 0).f1))))))).heap[gb554]? = some (.cells #[.int .i64 ((rd_T120 l1 x13_2).f0), .int .i64 (wrap64 (((rd_T120 l1 x13_2).f1) + (wrap64 ((wrap64 (((rd_T120 l0 t538).f1) + 1)) - ((rd_T120 l1 0).f1))))), .string ((rd_T120 l1 x13_2).f2)] 120 (0, 0)) := (blk_set (blk_set (blk_set (blk_set BK554.out 0 _) 1 _) 2 _) 1 _).trans rfl; have hq0_ : ((((w23.setCell ⟨gb554, 0, none⟩ (.int .i64 ((rd_T120 l1 x13_2).f0))).setCell ⟨gb554, 1, none⟩ (.int .i64 ((rd_T120 l1 x13_2).f1))).setCell ⟨gb554, 2, none⟩ (.string ((rd_T120 l1 x13_2).f2))).setCell ⟨gb554, 1, none⟩ (.int .i64 (wrap64 (((rd_T120 l1 x13_2).f1) + (wrap64 ((wrap64 (((rd_T120 l0 t538).f1) + 1)) - ((rd_T120 l1 0).f1))))))).cell? ⟨gb554, 0, none⟩ = some (.int .i64 ((rd_T120 l1 x13_2).f0)) := (blk_cell hq_ 0).trans rfl; have hq1_ : ((((w23.setCell ⟨gb554, 0, none⟩ (.int .i64 ((rd_T120 l1 x13_2).f0))).setCell ⟨gb554, 1, none⟩ (.int .i64 ((rd_T120 l1 x13_2).f1))).setCell ⟨gb554, 2, none⟩ (.string ((rd_T120 l1 x13_2).f2))).setCell ⟨gb554, 1, none⟩ (.int .i64 (wrap64 (((rd_T120 l1 x13_2).f1) + (wrap64 ((wrap64 (((rd_T120 l0 t538).f1) + 1)) - ((rd_T120 l1 0).f1))))))).cell? ⟨gb554, 1, none⟩ = some (.int .i64 (wrap64 (((rd_T120 l1 x13_2).f1) + (wrap64 ((wrap64 (((rd_T120 l0 t538).f1) + 1)) - ((rd_T120 l1 0).f1)))))) := (blk_cell hq_ 1).trans rfl; have hq2_ : ((((w23.setCell ⟨gb554, 0, none⟩ (.int .i64 ((rd_T120 l1 x13_2).f0))).setCell ⟨gb554, 1, none⟩ (.int .i64 ((rd_T120 l1 x13_2).f1))).setCell ⟨gb554, 2, none⟩ (.string ((rd_T120 l1 x13_2).f2))).setCell ⟨gb554, 1, none⟩ (.int .i64 (wrap64 (((rd_T120 l1 x13_2).f1) + (wrap64 ((wrap64 (((rd_T120 l0 t538).f1) + 1)) - ((rd_T120 l1 0).f1))))))).cell? ⟨gb554, 2, none⟩ = some (.string ((rd_T120 l1 x13_2).f2)) := (blk_cell hq_ 2).trans rfl; clear hq_) | ((with_reducible refine gate_builtin (b := .append) (xs := #[.tmp 58, .tmp 60]) rfl ?_); at_builtin; refine Kd.R_append k120 (w0 := w) w.heap.size rfl (.tmp 58) (.tmp 60) 107 120 (.agg #[(.int .i64 0), (.int .i64 0), (.string ⟨#[]⟩)]) 32 rfl Tryd.underlying107 info120 rfl (by decide) (by omega) u12 x12_2 (⟨(rd_T120 l1 x13_2).f0, wrap64 (((rd_T120 l1 x13_2).f1) + (wrap64 ((wrap64 (((rd_T120 l0 t538).f1) + 1)) - ((rd_T120 l1 0).f1)))), (rd_T120 l1 x13_2).f2⟩ : S120) [.int .i64 ((rd_T120 l1 x13_2).f0), .int .i64 (wrap64 (((rd_T120 l1 x13_2).f1) + (wrap64 ((wrap64 (((rd_T120 l0 t538).f1) + 1)) - ((rd_T120 l1 0).f1))))), .string ((rd_T120 l1 x13_2).f2)] (fun k_ => k_ ≠ gb554) (fun _ => False) rfl (by first | (go_simp; done) | (go_simp; rfl)) ?aP (fun _ hk => hk.elim) ?aF ?aO ?aB ?aS ?aL ?_; (case aP => exact k120_mkM _ _ _ (⟨(rd_T120 l1 x13_2).f0, wrap64 (((rd_T120 l1 x13_2).f1) + (wrap64 ((wrap64 (((rd_T120 l0 t538).f1) + 1)) - ((rd_T120 l1 0).f1)))), (rd_T120 l1 x13_2).f2⟩ : S120)); (case aB => exact (bel_)); (case aF => exact (fun k_ hk => Kd.freshB (g := gb554) (o := .cells #[.int .i64 ((rd_T120 l1 x13_2).f0), .int .i64 (wrap64 (((rd_T120 l1 x13_2).f1) + (wrap64 ((wrap64 (((rd_T120 l0 t538).f1) + 1)) - ((rd_T120 l1 0).f1))))), .string ((rd_T120 l1 x13_2).f2)] 120 (0, 0)) (by (with_reducible repeat (first | refine blk_drewN ?_ _ | refine blk_drew ?_ | refine blk_alloc ?_ _)); refine blk_put (cs := #[.int .i64 ((rd_T120 l1 x13_2).f0), .int .i64 ((rd_T120 l1 x13_2).f1), .string ((rd_T120 l1 x13_2).f2)]) ?_ 1 _ rfl; (with_reducible repeat (first | refine blk_drewN ?_ _ | refine blk_drew ?_ | refine blk_alloc ?_ _)); refine blk_put (cs := #[.int .i64 ((rd_T120 l1 x13_2).f0), .int .i64 ((rd_T120 l1 x13_2).f1), .string (⟨#[]⟩ : ByteArray)]) ?_ 2 _ rfl; (with_reducible repeat (first | refine blk_drewN ?_ _ | refine blk_drew ?_ | refine blk_alloc ?_ _)); refine blk_put (cs := #[.int .i64 ((rd_T120 l1 x13_2).f0), .int .i64 0, .string (⟨#[]⟩ : ByteArray)]) ?_ 1 _ rfl; (with_reducible repeat (first | refine blk_drewN ?_ _ | refine blk_drew ?_ | refine blk_alloc ?_ _)); refine blk_put (cs := #[.int .i64 0, .int .i64 0, .string (⟨#[]⟩ : ByteArray)]) ?_ 0 _ rfl; (with_reducible repeat (first | refine blk_drewN ?_ _ | refine blk_drew ?_ | refine blk_alloc ?_ _)); exact BK554.out) k_ hk)); (case aO => exact (by (with_reducible repeat (first | apply Kd.R_alloc | apply Kd.R_drewN | apply Kd.R_drew)); exact Kd.R_mono (Kd.R_far (p := ⟨gb554, 1, none⟩) (Kd.R_far (p := ⟨gb554, 2, none⟩) (Kd.R_far (p := ⟨gb554, 1, none⟩) (Kd.R_far (p := ⟨gb554, 0, none⟩) (Kd.R_mono HO_12.out (fun k_ hk => (⟨hk, hk.2⟩ : _ ∧ k_ ≠ gb554))) (fun _ hk => hk.2) (.int .i64 ((rd_T120 l1 x13_2).f0))) (fun _ hk => hk.2) (.int .i64 ((rd_T120 l1 x13_2).f1))) (fun _ hk => hk.2) (.string ((rd_T120 l1 x13_2).f2))) (fun _ hk => hk.2) (.int .i64 (wrap64 (((rd_T120 l1 x13_2).f1) + (wrap64 ((wrap64 (((rd_T120 l0 t538).f1) + 1)) - ((rd_T120 l1 0).f1))))))) (fun _ hk => hk.1.2))); (case aS => exact (below_size (bel_))); (case aL => have := LMc22.out; omega); intro v556 w25 ho hb hg hat; rw [← Ny555.out] at ho; have n0_ := Aside0.mk (blk_grown (g := gb554) (o := .cells #[.int .i64 ((rd_T120 l1 x13_2).f0), .int .i64 (wrap64 (((rd_T120 l1 x13_2).f1) + (wrap64 ((wrap64 (((rd_T120 l0 t538).f1) + 1)) - ((rd_T120 l1 0).f1))))), .string ((rd_T120 l1 x13_2).f2)] 120 (0, 0)) (by (with_reducible repeat (first | refine blk_drewN ?_ _ | refine blk_drew ?_ | refine blk_alloc ?_ _)); refine blk_put (cs := #[.int .i64 ((rd_T120 l1 x13_2).f0), .int .i64 ((rd_T120 l1 x13_2).f1), .string ((rd_T120 l1 x13_2).f2)]) ?_ 1 _ rfl; (with_reducible repeat (first | refine blk_drewN ?_ _ | refine blk_drew ?_ | refine blk_alloc ?_ _)); refine blk_put (cs := #[.int .i64 ((rd_T120 l1 x13_2).f0), .int .i64 ((rd_T120 l1 x13_2).f1), .string (⟨#[]⟩ : ByteArray)]) ?_ 2 _ rfl; (with_reducible repeat (first | refine blk_drewN ?_ _ | refine blk_drew ?_ | refine blk_alloc ?_ _)); refine blk_put (cs := #[.int .i64 ((rd_T120 l1 x13_2).f0), .int .i64 0, .string (⟨#[]⟩ : ByteArray)]) ?_ 1 _ rfl; (with_reducible repeat (first | refine blk_drewN ?_ _ | refine blk_drew ?_ | refine blk_alloc ?_ _)); refine blk_put (cs := #[.int .i64 0, .int .i64 0, .string (⟨#[]⟩ : ByteArray)]) ?_ 0 _ rfl; (with_reducible repeat (first | refine blk_drewN ?_ _ | refine blk_drew ?_ | refine blk_alloc ?_ _)); exact BK554.out) hg (Kd.R_away HO_12.out (fun _ hk => hk.2))); have n1_ := Aside0.mk (hb); have n2_ := Aside0.mk (ho); clear BK554; clear HB; clear HO_12; have BK554 := n0_; have HB := n1_; have HO557 := n2_; clear n0_ n1_ n2_; clear ho hb hg hat)); try go_wp2_with (first | ((with_reducible refine gate_dst (N := 14) rfl ?_); refine box_event ?hg (N := 14) ?hd (cs := #[.int .i64 0, .int .i64 0, .string (⟨#[]⟩ : ByteArray)]) (t := 120) ?hr ?_; (case hd => rfl); (case hg => rfl); (case hr => first | (go_simp; done) | (go_simp; rfl)); intro gb554 hg w23 hbox hb; have n0_ := Aside0.mk (Kd.R_below (Kd.R_elderB (rp_ HO_12.out) gb554 (Nat.le_of_eq hg.symm)) hb); have n1_ := Aside0.mk (below_step (bel_) hb); have n2_ := Aside0.mk (hbox); have n3_ := Aside0.mk ((by rw [hg]; exact (below_size (bel_)) : w.heap.size ≤ gb554)); have n4_ := Aside0.mk ((by rw [hg]; exact (below_size (bel_)) : w.heap.size ≤ gb554)); clear HO_12; clear HB; have HO_12 := n0_; have HB := n1_; have BK554 := n2_; have GW554 := n3_; have GE554 := n4_; clear n0_ n1_ n2_ n3_ n4_; clear hb hbox hg; have hcz24_0 : w23.cell? ⟨gb554, 0, none⟩ = some (.int .i64 0) := (blk_cell BK554.out 0).trans rfl; have hcz24_1 : w23.cell? ⟨gb554, 1, none⟩ = some (.int .i64 0) := (blk_cell BK554.out 1).trans rfl; have hcz24_2 : w23.cell? ⟨gb554, 2, none⟩ = some (.string (⟨#[]⟩ : ByteArray)) := (blk_cell BK554.out 2).trans rfl; have hfz24_0 := blk_frozen BK554.out 0; have hfz24_1 := blk_frozen BK554.out 1; have hfz24_2 := blk_frozen BK554.out 2) | ((with_reducible refine gate_builtin (b := .append) (xs := #[.tmp 58, .tmp 60]) rfl ?_); at_builtin; refine Kd.R_append k120 (w0 := w) w.heap.size rfl (.tmp 58) (.tmp 60) 107 120 (.agg #[(.int .i64 0), (.int .i64 0), (.string ⟨#[]⟩)]) 32 rfl Tryd.underlying107 info120 rfl (by decide) (by omega) u12 x12_2 (⟨(rd_T120 l1 x13_2).f0, wrap64 (((rd_T120 l1 x13_2).f1) + (wrap64 ((wrap64 (((rd_T120 l0 t538).f1) + 1)) - ((rd_T120 l1 0).f1)))), (rd_T120 l1 x13_2).f2⟩ : S120) [.int .i64 ((rd_T120 l1 x13_2).f0), .int .i64 (wrap64 (((rd_T120 l1 x13_2).f1) + (wrap64 ((wrap64 (((rd_T120 l0 t538).f1) + 1)) - ((rd_T120 l1 0).f1))))), .string ((rd_T120 l1 x13_2).f2)] (fun k_ => k_ ≠ gb554) (fun _ => False) rfl (by first | (go_simp; done) | (go_simp; rfl)) ?aP (fun _ hk => hk.elim) ?aF ?aO ?aB ?aS ?aL ?_; (case aP => exact k120_mkM _ _ _ (⟨(rd_T120 l1 x13_2).f0, wrap64 (((rd_T120 l1 x13_2).f1) + (wrap64 ((wrap64 (((rd_T120 l0 t538).f1) + 1)) - ((rd_T120 l1 0).f1)))), (rd_T120 l1 x13_2).f2⟩ : S120)); (case aB => exact (bel_)); (case aF => exact (fun k_ hk => Kd.freshB (g := gb554) (o := .cells #[.int .i64 ((rd_T120 l1 x13_2).f0), .int .i64 (wrap64 (((rd_T120 l1 x13_2).f1) + (wrap64 ((wrap64 (((rd_T120 l0 t538).f1) + 1)) - ((rd_T120 l1 0).f1))))), .string ((rd_T120 l1 x13_2).f2)] 120 (0, 0)) (by (with_reducible repeat (first | refine blk_drewN ?_ _ | refine blk_drew ?_ | refine blk_alloc ?_ _)); refine blk_put (cs := #[.int .i64 ((rd_T120 l1 x13_2).f0), .int .i64 ((rd_T120 l1 x13_2).f1), .string ((rd_T120 l1 x13_2).f2)]) ?_ 1 _ rfl; (with_reducible repeat (first | refine blk_drewN ?_ _ | refine blk_drew ?_ | refine blk_alloc ?_ _)); refine blk_put (cs := #[.int .i64 ((rd_T120 l1 x13_2).f0), .int .i64 ((rd_T120 l1 x13_2).f1), .string (⟨#[]⟩ : ByteArray)]) ?_ 2 _ rfl; (with_reducible repeat (first | refine blk_drewN ?_ _ | refine blk_drew ?_ | refine blk_alloc ?_ _)); refine blk_put (cs := #[.int .i64 ((rd_T120 l1 x13_2).f0), .int .i64 0, .string (⟨#[]⟩ : ByteArray)]) ?_ 1 _ rfl; (with_reducible repeat (first | refine blk_drewN ?_ _ | refine blk_drew ?_ | refine blk_alloc ?_ _)); refine blk_put (cs := #[.int .i64 0, .int .i64 0, .string (⟨#[]⟩ : ByteArray)]) ?_ 0 _ rfl; (with_reducible repeat (first | refine blk_drewN ?_ _ | refine blk_drew ?_ | refine blk_alloc ?_ _)); exact BK554.out) k_ hk)); (case aO => exact (by (with_reducible repeat (first | apply Kd.R_alloc | apply Kd.R_drewN | apply Kd.R_drew)); exact Kd.R_mono (Kd.R_far (p := ⟨gb554, 1, none⟩) (Kd.R_far (p := ⟨gb554, 2, none⟩) (Kd.R_far (p := ⟨gb554, 1, none⟩) (Kd.R_far (p := ⟨gb554, 0, none⟩) (Kd.R_mono HO_12.out (fun k_ hk => (⟨hk, hk.2⟩ : _ ∧ k_ ≠ gb554))) (fun _ hk => hk.2) (.int .i64 ((rd_T120 l1 x13_2).f0))) (fun _ hk => hk.2) (.int .i64 ((rd_T120 l1 x13_2).f1))) (fun _ hk => hk.2) (.string ((rd_T120 l1 x13_2).f2))) (fun _ hk => hk.2) (.int .i64 (wrap64 (((rd_T120 l1 x13_2).f1) + (wrap64 ((wrap64 (((rd_T120 l0 t538).f1) + 1)) - ((rd_T120 l1 0).f1))))))) (fun _ hk => hk.1.2))); (case aS => exact (below_size (bel_))); (case aL => have := LMc22.out; omega); intro v556 w25 ho hb hg hat; rw [← Ny555.out] at ho; have n0_ := Aside0.mk (blk_grown (g := gb554) (o := .cells #[.int .i64 ((rd_T120 l1 x13_2).f0), .int .i64 (wrap64 (((rd_T120 l1 x13_2).f1) + (wrap64 ((wrap64 (((rd_T120 l0 t538).f1) + 1)) - ((rd_T120 l1 0).f1))))), .string ((rd_T120 l1 x13_2).f2)] 120 (0, 0)) (by (with_reducible repeat (first | refine blk_drewN ?_ _ | refine blk_drew ?_ | refine blk_alloc ?_ _)); refine blk_put (cs := #[.int .i64 ((rd_T120 l1 x13_2).f0), .int .i64 ((rd_T120 l1 x13_2).f1), .string ((rd_T120 l1 x13_2).f2)]) ?_ 1 _ rfl; (with_reducible repeat (first | refine blk_drewN ?_ _ | refine blk_drew ?_ | refine blk_alloc ?_ _)); refine blk_put (cs := #[.int .i64 ((rd_T120 l1 x13_2).f0), .int .i64 ((rd_T120 l1 x13_2).f1), .string (⟨#[]⟩ : ByteArray)]) ?_ 2 _ rfl; (with_reducible repeat (first | refine blk_drewN ?_ _ | refine blk_drew ?_ | refine blk_alloc ?_ _)); refine blk_put (cs := #[.int .i64 ((rd_T120 l1 x13_2).f0), .int .i64 0, .string (⟨#[]⟩ : ByteArray)]) ?_ 1 _ rfl; (with_reducible repeat (first | refine blk_drewN ?_ _ | refine blk_drew ?_ | refine blk_alloc ?_ _)); refine blk_put (cs := #[.int .i64 0, .int .i64 0, .string (⟨#[]⟩ : ByteArray)]) ?_ 0 _ rfl; (with_reducible repeat (first | refine blk_drewN ?_ _ | refine blk_drew ?_ | refine blk_alloc ?_ _)); exact BK554.out) hg (Kd.R_away HO_12.out (fun _ hk => hk.2))); have n1_ := Aside0.mk (hb); have n2_ := Aside0.mk (ho); clear BK554; clear HB; clear HO_12; have BK554 := n0_; have HB := n1_; have HO557 := n2_; clear n0_ n1_ n2_; clear ho hb hg hat)))
              go_roundg k2
              case measure => have := HJ8.out; have := HK2.out; omega
              case rel => exact ⟨(y555), (wrap64 (x13_2 + 1)), (si_), H', ⟨by have := HJ8.out; have := HK2.out; omega⟩, ⟨by (with_reducible repeat (first | apply Kd.R_alloc | apply Kd.R_drewN | apply Kd.R_drew)); exact Kd.R_mono HO557.out (fun _ hk => trivial)⟩, ⟨bel_⟩⟩
             ·rw [if_neg c22] at H
              exact absurd H (by simp)
            ·rw [if_neg c21] at H
             exact absurd H (by simp)
           ·rw [if_neg c20] at H
            have c20b0 : decide (x13_2 < (l1.length : Int)) = false := decide_eq_false c20
            clear c20
            by_cases c26 : 0 ≤ x11_8
            ·rw [if_pos c26] at H
             have c26b0 := eq_true c26
             have c26b1 : decide (0 ≤ x11_8) = true := decide_eq_true c26
             clear c26
             by_cases c27 : x11_8 ≤ (l0.length : Int)
             ·rw [if_pos c27] at H
              have c27b0 := eq_true c27
              have c27b1 : decide (x11_8 ≤ (l0.length : Int)) = true := decide_eq_true c27
              clear c27
              obtain ⟨y558, hy558⟩ : ∃ y_ : List (S120), y_ = (l0.drop (x11_8 : Int).toNat) := ⟨_, rfl⟩
              replace H : (if x12_2.length + y558.length < 4398046511104 then (some (x12_2 ++ y558)) else (none)) = some r := by first | (rw [hy558]; with_reducible exact H) | (have H2_ := (Option.bind_some _ _).symm.trans H; rw [hy558]; with_reducible exact H2_) | (have H2_ := (Option.bind_some _ _).symm.trans H; with_reducible exact H2_) | with_reducible exact H | (rw [hy558]; exact H) | exact H
              have Ny558 := Aside0.mk hy558
              clear hy558
              by_cases c28 : x12_2.length + y558.length < 4398046511104
              ·rw [if_pos c28] at H
               have LMc28 := Aside0.mk c28
               clear c28
               obtain ⟨y562, hy562⟩ : ∃ y_ : List (S120), y_ = (x12_2 ++ y558) := ⟨_, rfl⟩
               replace H : (some y562) = some r := by first | (rw [hy562]; with_reducible exact H) | (have H2_ := (Option.bind_some _ _).symm.trans H; rw [hy562]; with_reducible exact H2_) | (have H2_ := (Option.bind_some _ _).symm.trans H; with_reducible exact H2_) | with_reducible exact H | (rw [hy562]; exact H) | exact H
               have Ny562 := Aside0.mk hy562
               clear hy562
               obtain rfl := Option.some.inj H
               have q29 : (x11_8 : Int) ≤ ((l0.length : Int) : Int) := od_
               obtain ⟨i029, hi029, _, hsz29, _⟩ := info_parts info120
               have hroom29 : l0.length ≤ c0 := HC0.out
               have hC29 : Kd.C k120 _ (some ad539) l0.length l0 := HR0.out
               have q029 : (0 : Int) ≤ (x11_8 : Int) := od_
               have hcut29 := cut_from (P := Tryd.prog) 107 120 .i64 Tryd.underlying107 hi029 3 hsz29 (some ad539) l0.length c0 x11_8 q029 q29
               have hr29 := Kd.C_drop (m := (x11_8 : Int).toNat) (c := c0) hC29 (by omega) hroom29
               obtain ⟨A29, hA29⟩ : ∃ A1, A1 = (if c0 = (x11_8 : Int).toNat then (some ad539) else ((some ad539) : Option Addr).map (·.add ((x11_8 : Int).toNat * 3))) := ⟨_, rfl⟩
               obtain ⟨c29, hc29⟩ : ∃ c1, c1 = c0 - (x11_8 : Int).toNat := ⟨_, rfl⟩
               have hy29 : y558.length = l0.length - (x11_8 : Int).toNat := (by rw [Ny558.out, List.length_drop] <;> omega)
               rw [show (l0).drop (x11_8 : Int).toNat = y558 from Ny558.out.symm] at hr29
               replace hr29 : Kd.C k120 _ A29 y558.length y558 := (by rw [hA29]; exact hr29)
               rw [← hy29, ← hA29, ← hc29] at hcut29
               have HR561 := Aside0.mk hr29
               have HC561 := Aside0.mk (show y558.length ≤ c29 from by rw [hy29, hc29]; exact Nat.sub_le_sub_right hroom29 _)
               clear hr29 hC29 hroom29 hi029 hsz29 hc29
               have KY29 := Aside0.mk hy29
               have KA29 := Aside0.mk hA29
               clear hy29 hA29
               replace q29 := eq_true q29
               go_wp2_with (first | ((with_reducible refine gate_builtin (b := .append) (xs := #[.tmp 62, .tmp 65]) rfl ?_); at_builtin; refine Kd.R_append_rows k120 (w0 := w) w.heap.size rfl (.tmp 62) (.tmp 65) 107 120 (.agg #[(.int .i64 0), (.int .i64 0), (.string ⟨#[]⟩)]) 32 rfl Tryd.underlying107 info120 rfl (by decide) (by omega) u12 x12_2 y558 _ _ _ (fun _ => True) (fun _ => False) rfl rfl ?aO ?aR (fun _ _ h => h) (fun _ h => h.elim) ?aF ?aB ?aS ?aL ?_; (case aR => repeat (first | exact (Kd.C_below HR561.out HB.out) | (with_reducible refine Kd.C_alloc ?_ _) | (with_reducible refine Kd.C_drewN ?_ _) | (with_reducible refine Kd.C_drew ?_))); (case aB => exact (bel_)); (case aF => exact (fun _ _ => trivial)); (case aO => exact (rp_ HO_12.out)); (case aS => exact (below_size (bel_))); (case aL => have := LMc28.out; omega); intro v563 w30 ho hb hg hat; rw [← Ny562.out] at ho; replace HB := Aside0.mk (hb); have HO564 := Aside0.mk (ho); clear HO_12; clear ho hb hg hat))
               repeat (go_quiet (first | ((with_reducible refine gate_builtin (b := .append) (xs := #[.tmp 62, .tmp 65]) rfl ?_); at_builtin; refine Kd.R_append_rows k120 (w0 := w) w.heap.size rfl (.tmp 62) (.tmp 65) 107 120 (.agg #[(.int .i64 0), (.int .i64 0), (.string ⟨#[]⟩)]) 32 rfl Tryd.underlying107 info120 rfl (by decide) (by omega) u12 x12_2 y558 _ _ _ (fun _ => True) (fun _ => False) rfl rfl ?aO ?aR (fun _ _ h => h) (fun _ h => h.elim) ?aF ?aB ?aS ?aL ?_; (case aR => repeat (first | exact (Kd.C_below HR561.out HB.out) | (with_reducible refine Kd.C_alloc ?_ _) | (with_reducible refine Kd.C_drewN ?_ _) | (with_reducible refine Kd.C_drew ?_))); (case aB => exact (bel_)); (case aF => exact (fun _ _ => trivial)); (case aO => exact (rp_ HO_12.out)); (case aS => exact (below_size (bel_))); (case aL => have := LMc28.out; omega); intro v563 w30 ho hb hg hat; rw [← Ny562.out] at ho; replace HB := Aside0.mk (hb); have HO564 := Aside0.mk (ho); clear HO_12; clear ho hb hg hat)); try go_wp2_with (first | ((with_reducible refine gate_builtin (b := .append) (xs := #[.tmp 62, .tmp 65]) rfl ?_); at_builtin; refine Kd.R_append_rows k120 (w0 := w) w.heap.size rfl (.tmp 62) (.tmp 65) 107 120 (.agg #[(.int .i64 0), (.int .i64 0), (.string ⟨#[]⟩)]) 32 rfl Tryd.underlying107 info120 rfl (by decide) (by omega) u12 x12_2 y558 _ _ _ (fun _ => True) (fun _ => False) rfl rfl ?aO ?aR (fun _ _ h => h) (fun _ h => h.elim) ?aF ?aB ?aS ?aL ?_; (case aR => repeat (first | exact (Kd.C_below HR561.out HB.out) | (with_reducible refine Kd.C_alloc ?_ _) | (with_reducible refine Kd.C_drewN ?_ _) | (with_reducible refine Kd.C_drew ?_))); (case aB => exact (bel_)); (case aF => exact (fun _ _ => trivial)); (case aO => exact (rp_ HO_12.out)); (case aS => exact (below_size (bel_))); (case aL => have := LMc28.out; omega); intro v563 w30 ho hb hg hat; rw [← Ny562.out] at ho; replace HB := Aside0.mk (hb); have HO564 := Aside0.mk (ho); clear HO_12; clear ho hb hg hat)))
               go_ret
               exact ⟨_, fi_, by (with_reducible repeat (first | apply Kd.R_alloc | apply Kd.R_drewN | apply Kd.R_drew)); exact HO564.out, bel_⟩
              ·rw [if_neg c28] at H
               exact absurd H (by simp)
             ·rw [if_neg c27] at H
              exact absurd H (by simp)
            ·rw [if_neg c26] at H
             exact absurd H (by simp)
        ·rw [if_neg c15] at H
         exact absurd H (by simp)
       ·rw [if_neg c14] at H
        exact absurd H (by simp)
      ·rw [if_neg c13] at H
       exact absurd H (by simp)
   ·rw [if_neg c8] at H
    exact absurd H (by simp)
  ·rw [if_neg c7] at H
   exact absurd H (by simp)
 ·rw [if_neg c6] at H
  exact absurd H (by simp)

def spec_l3Do.f (k : Nat) (l0 : List (S120)) (a1_0 : Int) (a1_1 : Int) (a1_2 : Int) (a1_3 : Int) (a1_4 : ByteArray) : Option ((List (S120))) := (spec_l2At.f k l0 a1_1).bind fun t566 => (if a1_0 = 2 then ((some (([] : List (S120)) : List (S120))).bind fun y567 => (if y567.length + l0.length < 4398046511104 then ((some (y567 ++ l0 : List (S120))).bind fun y570 => (if t566 ≥ 0 then (if 0 ≤ t566 then (if t566 < (y570.length : Int) then (some (y570.set (t566 : Int).toNat (⟨(rd_T120 y570 t566).f0, (rd_T120 y570 t566).f1, a1_4⟩ : S120))) else (none)) else (none)) else (some y570))) else (none))) else ((spec_l3Where.f k l0 a1_0 a1_1 a1_2 a1_3 a1_4).bind fun bt574 => (if bt574.2.2 = true then (if a1_0 = 1 then ((spec_l3Put.f k l0 (([(⟨a1_1, 0, a1_4⟩ : S120)] : List (S120))) bt574.1 bt574.2.1).bind fun t586 => (some t586)) else ((spec_l2End.f k l0 t566).bind fun t589 => ((some (([] : List (S120)) : List (S120))).bind fun y590 => (if 0 ≤ t566 then (if t566 ≤ t589 then (if t589 ≤ (l0.length : Int) then ((some ((l0.take (t589 : Int).toNat).drop (t566 : Int).toNat : List (S120))).bind fun y593 => (if y590.length + y593.length < 4398046511104 then ((some (([] : List (S120)) : List (S120))).bind fun y600 => (if t566 ≤ (l0.length : Int) then ((some (l0.take (t566 : Int).toNat : List (S120))).bind fun y603 => (if y600.length + y603.length < 4398046511104 then ((some (y600 ++ y603 : List (S120))).bind fun y607 => (if 0 ≤ t589 then ((some (l0.drop (t589 : Int).toNat : List (S120))).bind fun y610 => (if y607.length + y610.length < 4398046511104 then ((spec_l3Put.f k (y607 ++ y610) (y590 ++ y593) bt574.1 bt574.2.1).bind fun t617 => (some t617)) else (none))) else (none))) else (none))) else (none))) else (none))) else (none)) else (none)) else (none))))) else ((some (([] : List (S120)) : List (S120))).bind fun y577 => (if y577.length + l0.length < 4398046511104 then (some (y577 ++ l0)) else (none))))))
theorem spec_l3Do.mono : ∀ a0 a1 a2 a3 a4 a5 k, LeO (spec_l3Do.f k a0 a1 a2 a3 a4 a5) (spec_l3Do.f (k + 1) a0 a1 a2 a3 a4 a5) := by
 intro a0 a1 a2 a3 a4 a5 k
 unfold spec_l3Do.f
 repeat' first
   | (with_reducible exact spec_l2At.mono _ _ _)
   | (with_reducible exact spec_l2End.mono _ _ _)
   | (with_reducible exact spec_l3Put.mono _ _ _ _ _)
   | (with_reducible exact spec_l3Where.mono _ _ _ _ _ _ _)
   | (with_reducible exact LeO.refl _)
   | (with_reducible exact LeO.none _)
   | (with_reducible refine LeO.ite ?_ ?_)
   | (with_reducible refine LeO.bind ?_ (fun _ => ?_))
   | exact spec_l2At.mono _ _ _
   | exact spec_l2End.mono _ _ _
   | exact spec_l3Put.mono _ _ _ _ _
   | exact spec_l3Where.mono _ _ _ _ _ _ _
   | exact LeO.none _
   | refine LeO.ite ?_ ?_
   | refine LeO.bind ?_ (fun _ => ?_)
def spec_l3Do.T14 : Bool × List (List Nat × List Nat) := (true, [([], []), ([], []), ([], []), ([1, 2], [1, 2]), ([0, 3], [0, 3]), ([], []), ([], []), ([5, 6], [5, 6]), ([4, 7, 4], [4, 7]), ([8, 8, 0, 1, 2, 3, 4, 5, 6, 7, 8], [8])])
def spec_l3Do.B14 : List Nat := [0, 0, 0, 6, 15, 0, 0, 96, 255, 511]
theorem spec_l3Do.tab14 : rtab .any (opsOf Tryd.f89 14) = spec_l3Do.T14 := by kernel_rfl
theorem spec_l3Do.bits14 : waitsOk spec_l3Do.T14.2 spec_l3Do.B14 = true := by kernel_rfl
end Go.Proofs.YtnclcbjagleoeaaDoor.P
