/- Joined by a program (wip/shake.py): the declarations that 'YtnclcbjagleoeaaDoorCardFnSyncNews' reaches. -/
import Derived.Test.YtnclcbjagleoeaaDoorZQ44
namespace Go.Proofs.YtnclcbjagleoeaaDoor.P
open Go.RowKit Go.Proofs.YtnclcbjagleoeaaDoorW.PrintWords Go.Proofs.YtnclcbjagleoeaaDoorW.PrintLast
set_option linter.unusedVariables false
set_option linter.unusedSimpArgs false
set_option maxHeartbeats 8000000 in
set_option maxRecDepth 100000 in
theorem spec_l72Log.calls (k : Nat) (g : Nat) (s0_0 : List Int) (s0_1 : Int) (r1 : List (S56)) (r2 : Int) (w0 w : World) (hI : IsS96 w0 w g s0_0 s0_1) (hB : Below w0.heap.size w0 w) (h : spec_l72Log.f k s0_0 s0_1 = some (r1, r2)) :
  Calls Tryd.prog 74 #[.pointer (some ⟨g, 0, none⟩)] w fun e w' => ∃ v0_ : Value, e = .returned (v0_) ∧ Kd.R k56 56 w' w.heap.size (fun _ => True) v0_ r1 ∧ IsS96 w0 w' g s0_0 r2 ∧ Below w0.heap.size w0 w' ∧ KeepBut w w' g none := by
 have hu54 := Tryd.underlying54
 have hu56 := Tryd.underlying56
 have HI0 := Aside0.mk hI
 have HK := Aside0.mk (KeepBut.refl w g none)
 have HL := Aside0.mk hB.size
 clear hI
 have HW0 := Aside0.mk hB.size
 have HB := Aside0.mk hB
 clear hB
 have H : ((spec_TreeNew.f).bind fun t657 => ((spec_l6Rd_pick.f k s0_0 s0_1 14).bind fun bt663 => (spec_l72Log.l0 k (([] : List (S56))) t657 (([0, 0, 0] : List Int)) bt663.1 s0_0 bt663.2))) = some (r1, r2) := h
 clear h
 obtain ⟨y654, hy654⟩ : ∃ y_ : List (S56), y_ = (([] : List (S56))) := ⟨_, rfl⟩
 replace H : ((spec_TreeNew.f).bind fun t657 => ((spec_l6Rd_pick.f k s0_0 s0_1 14).bind fun bt663 => (spec_l72Log.l0 k y654 t657 (([0, 0, 0] : List Int)) bt663.1 s0_0 bt663.2))) = some (r1, r2) := by first | (rw [hy654]; with_reducible exact H) | (have H2_ := (Option.bind_some _ _).symm.trans H; rw [hy654]; with_reducible exact H2_) | (have H2_ := (Option.bind_some _ _).symm.trans H; with_reducible exact H2_) | with_reducible exact H | (rw [hy654]; exact H) | exact H
 have Ny654 := Aside0.mk hy654
 clear hy654
 replace H := Option.bind_eq_some_iff.mp H
 obtain ⟨t657, A20, H⟩ := H
 replace H : ((spec_l6Rd_pick.f k s0_0 s0_1 14).bind fun bt663 => (spec_l72Log.l0 k y654 t657 (([0, 0, 0] : List Int)) bt663.1 s0_0 bt663.2)) = some (r1, r2) := H
 have A2 := Aside0.mk A20
 clear A20
 obtain ⟨y660, hy660⟩ : ∃ y_ : List Int, y_ = (([0, 0, 0] : List Int)) := ⟨_, rfl⟩
 replace H : ((spec_l6Rd_pick.f k s0_0 s0_1 14).bind fun bt663 => (spec_l72Log.l0 k y654 t657 y660 bt663.1 s0_0 bt663.2)) = some (r1, r2) := by first | (rw [hy660]; with_reducible exact H) | (have H2_ := (Option.bind_some _ _).symm.trans H; rw [hy660]; with_reducible exact H2_) | (have H2_ := (Option.bind_some _ _).symm.trans H; with_reducible exact H2_) | with_reducible exact H | (rw [hy660]; exact H) | exact H
 have Ny660 := Aside0.mk hy660
 clear hy660
 replace H := Option.bind_eq_some_iff.mp H
 obtain ⟨⟨t663, t664⟩, A30, H⟩ := H
 replace H : (spec_l72Log.l0 k y654 t657 y660 t663 s0_0 t664) = some (r1, r2) := H
 have A3 := Aside0.mk A30
 clear A30
 have H' := Aside0.mk H
 clear H
 go_enter Tryd.func74, Tryd.ntmps74
 go_wp2_with (first | ((with_reducible refine gate_dst (N := 9) rfl ?_); refine Kd.R_lit k56 _ 56 ?hg (N := 9) ?hd (xs := ([] : List (S56))) (inner := []) (ok := fun _ => True) (okp := fun _ => True) ?hr ?hp (fun _ hk => hk) trivial (Below.refl _ _) (Nat.le_refl _) (by simp) ?_; (case hd => rfl); (case hg => rfl); (case hr => first | (go_simp; done) | (go_simp; rfl)); (case hp => exact (Reps.none _ _)); intro v655 w4 ho5 hb hg_ hnew_; clear hg_ hnew_; (first | rw [← Ny654.out] at ho5 | (simp only [Int.reduceToNat] at ho5; rw [← Ny654.out] at ho5)); have HO656 := Aside0.mk (Kd.R_lower ho5 (keep_size (w := w) (g := g) (row := none) (ke_))); replace HK := Aside0.mk (KeepBut.trans (ke_) (KeepBut.of_below hb g none) (.inl rfl)); replace HB := Aside0.mk (below_step (bel_) hb); replace HI0 := Aside0.mk (IsS96.below (is_HI0) hb); clear hb ho5) | ((with_reducible refine gate_callee (f := 87) rfl ?_); refine gl_ 10 Tryd.func87 #[] ?_; (with_reducible refine (spec_TreeNew.calls  t657 _ A2.out).mono ?_); rintro e w6 ⟨v658, rfl, ho0, hb⟩; refine ⟨_, rfl, ?_⟩; replace HO656 := Aside0.mk (Kd.R_below (rp_ HO656.out) hb); have HO659 := Aside0.mk (Kd.R_lower ho0 (keep_size (w := w) (g := g) (row := none) (ke_))); replace HK := Aside0.mk (KeepBut.trans (ke_) (KeepBut.of_below hb g none) (.inl rfl)); replace HB := Aside0.mk (below_step (bel_) hb); replace HI0 := Aside0.mk (IsS96.below (is_HI0) hb); (try clear hb); (try clear hb2); (try clear hk); (try clear hi); (try clear ho0)) | ((with_reducible refine gate_dst (N := 11) rfl ?_); refine Kd.R_lit (Kd.int .i64) _ 3 ?hg (N := 11) ?hd (xs := ([0, 0, 0] : List Int)) (inner := [.int .i64 0, .int .i64 0, .int .i64 0]) (ok := fun _ => True) (okp := fun _ => True) ?hr ?hp (fun _ hk => hk) trivial (Below.refl _ _) (Nat.le_refl _) (by simp) ?_; (case hd => rfl); (case hg => rfl); (case hr => first | (go_simp; done) | (go_simp; rfl)); (case hp => exact (Reps.one (show Kd.M (Kd.int .i64) _ _ _ 0 [.int .i64 0] from rfl) (Reps.one (show Kd.M (Kd.int .i64) _ _ _ 0 [.int .i64 0] from rfl) (Reps.one (show Kd.M (Kd.int .i64) _ _ _ 0 [.int .i64 0] from rfl) (Reps.none _ _))))); intro v661 w7 ho8 hb hg_ hnew_; clear hg_ hnew_; (first | rw [← Ny660.out] at ho8 | (simp only [Int.reduceToNat] at ho8; rw [← Ny660.out] at ho8)); replace HO656 := Aside0.mk (Kd.R_below (rp_ HO656.out) hb); replace HO659 := Aside0.mk (Kd.R_below (rp_ HO659.out) hb); have HO662 := Aside0.mk (Kd.R_lower ho8 (keep_size (w := w) (g := g) (row := none) (ke_))); replace HK := Aside0.mk (KeepBut.trans (ke_) (KeepBut.of_below hb g none) (.inl rfl)); replace HB := Aside0.mk (below_step (bel_) hb); replace HI0 := Aside0.mk (IsS96.below (is_HI0) hb); clear hb ho8) | ((with_reducible refine gate_callee (f := 56) rfl ?_); refine gl_ 13 Tryd.func56 #[.pointer (some ⟨g, 0, none⟩), .int .i64 14] ?_; (with_reducible refine (spec_l6Rd_pick.calls k g s0_0 s0_1 14 t663 t664 w0 _ ?side1 ?side2 A3.out).mono ?_); (case side1 => exact is_HI0); (case side2 => exact bel_); rintro e w9 ⟨rfl, hi, hb, hk⟩; refine ⟨_, rfl, ?_⟩; replace HO656 := Aside0.mk (Kd.R_mono (Kd.R_keep (IsS96.apart (show IsS96 w0 _ g s0_0 s0_1 from is_HI0) (rp_ HO656.out) (by decide)) hk (fun _ h => h.2)) (fun _ h => h.1)); replace HO659 := Aside0.mk (Kd.R_mono (Kd.R_keep (IsS96.apart (show IsS96 w0 _ g s0_0 s0_1 from is_HI0) (rp_ HO659.out) (by decide)) hk (fun _ h => h.2)) (fun _ h => h.1)); replace HO662 := Aside0.mk (Kd.R_mono (Kd.R_keep (IsS96.apart (show IsS96 w0 _ g s0_0 s0_1 from is_HI0) (rp_ HO662.out) (by decide)) hk (fun _ h => h.2)) (fun _ h => h.1)); replace HK := Aside0.mk (KeepBut.trans (ke_) hk (.inl rfl)); replace HB := Aside0.mk (hb); replace HI0 := Aside0.mk (hi); (try clear hb); (try clear hb2); (try clear hk); (try clear hi)))
 go_loopg [3, 4, 6] k (fun kq v3 v4 v6 w' => ∃ (x3_1 : List (S56)) (x4_1 : List (S120)) (x5_1 : List Int) (x6_1 : Int) (x1001_1 : Int), v6 = .int .i64 x6_1 ∧ Aside0 (spec_l72Log.l0 kq x3_1 x4_1 x5_1 x6_1 s0_0 x1001_1 = some (r1, r2)) ∧ Aside0 (kq ≤ k) ∧ Aside0 (Kd.R k56 56 w' w.heap.size (fun _ => True) v3 x3_1) ∧ Aside0 (Kd.R k120 120 w' w.heap.size (fun _ => True) v4 x4_1) ∧ Aside0 (Kd.R (Kd.int .i64) 3 w' w.heap.size (fun _ => True) v661 x5_1) ∧ Aside0 (IsS96 w0 w' g s0_0 x1001_1) ∧ Aside0 (KeepBut w w' g none) ∧ Aside0 (Below w0.heap.size w0 w'))
 case atStart => exact ⟨(y654), (t657), (y660), (t663), (t664), (si_), H', ⟨Nat.le_refl _⟩, ⟨by (with_reducible repeat (first | apply Kd.R_alloc | apply Kd.R_drewN | apply Kd.R_drew)); exact HO656.out⟩, ⟨by (with_reducible repeat (first | apply Kd.R_alloc | apply Kd.R_drewN | apply Kd.R_drew)); exact HO659.out⟩, ⟨by (with_reducible repeat (first | apply Kd.R_alloc | apply Kd.R_drewN | apply Kd.R_drew)); exact HO662.out⟩, ⟨is_HI0⟩, ⟨ke_⟩, ⟨bel_⟩⟩
 case round =>
  clear H'
  try clear p2
  try clear c5
  try clear c7
  try clear c8
  obtain ⟨x3_1, x4_1, x5_1, x6_1, x1001_1, rfl, HA, HK1, HO_3, HO_4, HO_5, HI0, HK, HB⟩ := hrel
  cases gk with
  | zero => exact absurd HA.out (by simp [spec_l72Log.l0])
  | succ k1 =>
   have H := HA.out
   clear HA
   simp only [spec_l72Log.l0] at H
   by_cases c10 : x6_1 > 0
   ·rw [if_pos c10] at H
    have c10b0 : decide (0 < x6_1) = true := decide_eq_true c10
    clear c10
    replace H := Option.bind_eq_some_iff.mp H
    obtain ⟨⟨t665, t666⟩, A110, H⟩ := H
    replace H : (if 0 ≤ (wrap64 ((wrap64 (1 + t665)) - 1)) then (if (wrap64 ((wrap64 (1 + t665)) - 1)) < (x5_1.length : Int) then ((spec_l72Op.f k1 s0_0 t666 x4_1 (wrap64 (1 + t665)) (rd x5_1 (wrap64 ((wrap64 (1 + t665)) - 1)))).bind fun bt668 => (if bt668.1 = 1 then ((spec_l12Seq.f k1 x3_1 (wrap64 (1 + t665))).bind fun t677 => (if x3_1.length < 2199023255552 then ((spec_l3Do.f k1 x4_1 bt668.1 bt668.2.1 bt668.2.2.1 bt668.2.2.2.1 bt668.2.2.2.2.1).bind fun t681 => (spec_l72Log.l0 k1 (x3_1 ++ [(⟨wrap64 (1 + t665), wrap64 (t677 + 1), (⟨bt668.1, bt668.2.1, bt668.2.2.1, bt668.2.2.2.1, bt668.2.2.2.2.1⟩ : S54)⟩ : S56)]) t681 (x5_1.set ((wrap64 ((wrap64 (1 + t665)) - 1)) : Int).toNat (wrap64 ((rd x5_1 (wrap64 ((wrap64 (1 + t665)) - 1))) + 1))) (wrap64 (x6_1 - 1)) s0_0 bt668.2.2.2.2.2)) else (none))) else ((spec_l12Seq.f k1 x3_1 (wrap64 (1 + t665))).bind fun t684 => (if x3_1.length < 2199023255552 then ((spec_l3Do.f k1 x4_1 bt668.1 bt668.2.1 bt668.2.2.1 bt668.2.2.2.1 bt668.2.2.2.2.1).bind fun t688 => (spec_l72Log.l0 k1 (x3_1 ++ [(⟨wrap64 (1 + t665), wrap64 (t684 + 1), (⟨bt668.1, bt668.2.1, bt668.2.2.1, bt668.2.2.2.1, bt668.2.2.2.2.1⟩ : S54)⟩ : S56)]) t688 x5_1 (wrap64 (x6_1 - 1)) s0_0 bt668.2.2.2.2.2)) else (none))))) else (none)) else (none)) = some (r1, r2) := H
    have A11 := Aside0.mk A110
    clear A110
    obtain ⟨ji12, hji12⟩ : ∃ j_ : Int, (wrap64 ((wrap64 (1 + t665)) - 1)) = j_ := ⟨_, rfl⟩
    replace H : (if 0 ≤ (ji12) then (if (ji12) < (x5_1.length : Int) then ((spec_l72Op.f k1 s0_0 t666 x4_1 (wrap64 (1 + t665)) (rd x5_1 (ji12))).bind fun bt668 => (if bt668.1 = 1 then ((spec_l12Seq.f k1 x3_1 (wrap64 (1 + t665))).bind fun t677 => (if x3_1.length < 2199023255552 then ((spec_l3Do.f k1 x4_1 bt668.1 bt668.2.1 bt668.2.2.1 bt668.2.2.2.1 bt668.2.2.2.2.1).bind fun t681 => (spec_l72Log.l0 k1 (x3_1 ++ [(⟨wrap64 (1 + t665), wrap64 (t677 + 1), (⟨bt668.1, bt668.2.1, bt668.2.2.1, bt668.2.2.2.1, bt668.2.2.2.2.1⟩ : S54)⟩ : S56)]) t681 (x5_1.set ((ji12) : Int).toNat (wrap64 ((rd x5_1 (ji12)) + 1))) (wrap64 (x6_1 - 1)) s0_0 bt668.2.2.2.2.2)) else (none))) else ((spec_l12Seq.f k1 x3_1 (wrap64 (1 + t665))).bind fun t684 => (if x3_1.length < 2199023255552 then ((spec_l3Do.f k1 x4_1 bt668.1 bt668.2.1 bt668.2.2.1 bt668.2.2.2.1 bt668.2.2.2.2.1).bind fun t688 => (spec_l72Log.l0 k1 (x3_1 ++ [(⟨wrap64 (1 + t665), wrap64 (t684 + 1), (⟨bt668.1, bt668.2.1, bt668.2.2.1, bt668.2.2.2.1, bt668.2.2.2.2.1⟩ : S54)⟩ : S56)]) t688 x5_1 (wrap64 (x6_1 - 1)) s0_0 bt668.2.2.2.2.2)) else (none))))) else (none)) else (none)) = some (r1, r2) := by first | (rw [hji12] at H; exact H) | (simp only [hji12] at H ⊢; exact H)
    (try rw [hji12] at A11)
    have hji12w : (IntKind.i64.wrap ((wrap64 (1 + t665)) - 1)) = ji12 := (i64_w _).trans hji12
    by_cases c13 : 0 ≤ (ji12)
    ·rw [if_pos c13] at H
     have c13b0 : decide (0 ≤ (ji12)) = true := decide_eq_true c13
     clear c13
     by_cases c14 : (ji12) < (x5_1.length : Int)
     ·rw [if_pos c14] at H
      have c14b0 : decide ((ji12) < (x5_1.length : Int)) = true := decide_eq_true c14
      clear c14
      replace H := Option.bind_eq_some_iff.mp H
      obtain ⟨⟨t668, t669, t670, t671, t672, t673⟩, A150, H⟩ := H
      replace H : (if t668 = 1 then ((spec_l12Seq.f k1 x3_1 (wrap64 (1 + t665))).bind fun t677 => (if x3_1.length < 2199023255552 then ((spec_l3Do.f k1 x4_1 t668 t669 t670 t671 t672).bind fun t681 => (spec_l72Log.l0 k1 (x3_1 ++ [(⟨wrap64 (1 + t665), wrap64 (t677 + 1), (⟨t668, t669, t670, t671, t672⟩ : S54)⟩ : S56)]) t681 (x5_1.set ((ji12) : Int).toNat (wrap64 ((rd x5_1 (ji12)) + 1))) (wrap64 (x6_1 - 1)) s0_0 t673)) else (none))) else ((spec_l12Seq.f k1 x3_1 (wrap64 (1 + t665))).bind fun t684 => (if x3_1.length < 2199023255552 then ((spec_l3Do.f k1 x4_1 t668 t669 t670 t671 t672).bind fun t688 => (spec_l72Log.l0 k1 (x3_1 ++ [(⟨wrap64 (1 + t665), wrap64 (t684 + 1), (⟨t668, t669, t670, t671, t672⟩ : S54)⟩ : S56)]) t688 x5_1 (wrap64 (x6_1 - 1)) s0_0 t673)) else (none)))) = some (r1, r2) := H
      have A15 := Aside0.mk A150
      clear A150
      by_cases c16 : t668 = 1
      ·rw [if_pos c16] at H
       have c16b0 : (t668 == 1) = true := beq_iff_eq.mpr c16
       have c16b1 : (t668 != 1) = false := bne_eq_false_iff_eq.mpr c16
       clear c16
       obtain ⟨y676, hy676⟩ : ∃ y_ : List Int, y_ = (x5_1.set ((ji12) : Int).toNat (wrap64 ((rd x5_1 (ji12)) + 1))) := ⟨_, rfl⟩
       replace H : ((spec_l12Seq.f k1 x3_1 (wrap64 (1 + t665))).bind fun t677 => (if x3_1.length < 2199023255552 then ((spec_l3Do.f k1 x4_1 t668 t669 t670 t671 t672).bind fun t681 => (spec_l72Log.l0 k1 (x3_1 ++ [(⟨wrap64 (1 + t665), wrap64 (t677 + 1), (⟨t668, t669, t670, t671, t672⟩ : S54)⟩ : S56)]) t681 y676 (wrap64 (x6_1 - 1)) s0_0 t673)) else (none))) = some (r1, r2) := by first | (rw [hy676]; with_reducible exact H) | (have H2_ := (Option.bind_some _ _).symm.trans H; rw [hy676]; with_reducible exact H2_) | (have H2_ := (Option.bind_some _ _).symm.trans H; with_reducible exact H2_) | with_reducible exact H | (rw [hy676]; exact H) | exact H
       have Ny676 := Aside0.mk hy676
       clear hy676
       replace H := Option.bind_eq_some_iff.mp H
       obtain ⟨t677, A180, H⟩ := H
       replace H : (if x3_1.length < 2199023255552 then ((spec_l3Do.f k1 x4_1 t668 t669 t670 t671 t672).bind fun t681 => (spec_l72Log.l0 k1 (x3_1 ++ [(⟨wrap64 (1 + t665), wrap64 (t677 + 1), (⟨t668, t669, t670, t671, t672⟩ : S54)⟩ : S56)]) t681 y676 (wrap64 (x6_1 - 1)) s0_0 t673)) else (none)) = some (r1, r2) := H
       have A18 := Aside0.mk A180
       clear A180
       by_cases c19 : x3_1.length < 2199023255552
       ·rw [if_pos c19] at H
        have LMc19 := Aside0.mk c19
        clear c19
        obtain ⟨y678, hy678⟩ : ∃ y_ : List (S56), y_ = (x3_1 ++ [(⟨wrap64 (1 + t665), wrap64 (t677 + 1), (⟨t668, t669, t670, t671, t672⟩ : S54)⟩ : S56)]) := ⟨_, rfl⟩
        replace H : ((spec_l3Do.f k1 x4_1 t668 t669 t670 t671 t672).bind fun t681 => (spec_l72Log.l0 k1 y678 t681 y676 (wrap64 (x6_1 - 1)) s0_0 t673)) = some (r1, r2) := by first | (rw [hy678]; with_reducible exact H) | (have H2_ := (Option.bind_some _ _).symm.trans H; rw [hy678]; with_reducible exact H2_) | (have H2_ := (Option.bind_some _ _).symm.trans H; with_reducible exact H2_) | with_reducible exact H | (rw [hy678]; exact H) | exact H
        have Ny678 := Aside0.mk hy678
        clear hy678
        replace H := Option.bind_eq_some_iff.mp H
        obtain ⟨t681, A200, H⟩ := H
        replace H : (spec_l72Log.l0 k1 y678 t681 y676 (wrap64 (x6_1 - 1)) s0_0 t673) = some (r1, r2) := H
        have A20 := Aside0.mk A200
        clear A200
        have H' := Aside0.mk H
        clear H
        try go_wp2_with (first | ((with_reducible refine gate_callee (f := 56) rfl ?_); refine gl_ 19 Tryd.func56 #[.pointer (some ⟨g, 0, none⟩), .int .i64 3] ?_; (with_reducible refine (spec_l6Rd_pick.calls k1 g s0_0 x1001_1 3 t665 t666 w0 _ ?side1 ?side2 A11.out).mono ?_); (case side1 => exact is_HI0); (case side2 => exact bel_); rintro e w21 ⟨rfl, hi, hb, hk⟩; refine ⟨_, rfl, ?_⟩; replace HO_3 := Aside0.mk (Kd.R_mono (Kd.R_keep (IsS96.apart (show IsS96 w0 _ g s0_0 x1001_1 from is_HI0) (rp_ HO_3.out) (by decide)) hk (fun _ h => h.2)) (fun _ h => h.1)); replace HO_4 := Aside0.mk (Kd.R_mono (Kd.R_keep (IsS96.apart (show IsS96 w0 _ g s0_0 x1001_1 from is_HI0) (rp_ HO_4.out) (by decide)) hk (fun _ h => h.2)) (fun _ h => h.1)); replace HO_5 := Aside0.mk (Kd.R_mono (Kd.R_keep (IsS96.apart (show IsS96 w0 _ g s0_0 x1001_1 from is_HI0) (rp_ HO_5.out) (by decide)) hk (fun _ h => h.2)) (fun _ h => h.1)); replace HK := Aside0.mk (KeepBut.trans (ke_) hk (.inl rfl)); replace HB := Aside0.mk (hb); replace HI0 := Aside0.mk (hi); (try clear hb); (try clear hb2); (try clear hk); (try clear hi); obtain ⟨Ao22, co22, eo22⟩ := Kd.R_slice HO_5.out; subst eo22; have p667 : 0 ≤ ((ji12) : Int) := od_; have q667 : (ji12) < (x5_1.length : Int) := od_; obtain ⟨ad667, e667, hx667_0⟩ := Kd.at_int (Kd.R_reads' HO_5.out).2.2 (ji12) p667 q667; cases e667; replace p667 := eq_true p667; replace q667 := eq_true q667; obtain ⟨Ao23, co23, eo23⟩ := Kd.R_slice HO_4.out; subst eo23) | ((with_reducible refine gate_callee (f := 88) rfl ?_); refine goesL_ (some 29) rfl rfl Tryd.func88 (by kernel_rfl) rfl #[.pointer (some ⟨g, 0, none⟩), .slice Ao23 x4_1.length co23, .int .i64 (wrap64 (1 + t665)), .int .i64 (rd x5_1 (ji12))] rfl (by (try simp only [List.map_toArray, List.map_cons, List.map_nil]); first | done | (simp only [hji12]; rfl) | rfl | (simp only [List.length_drop, List.length_take]; rfl)) ?_; (with_reducible refine (spec_l72Op.calls k1 g s0_0 t666 _ _ x4_1 (wrap64 (1 + t665)) (rd x5_1 (ji12)) t668 t669 t670 t671 t672 t673 w0 _ ?side1 ?side2 ?side3 ?side4 A15.out).mono ?_); (case side1 => exact is_HI0); (case side2 => exact bel_); (case side3 => exact Kd.C_foot_own (IsS96.apart (show IsS96 w0 _ g s0_0 t666 from is_HI0) (rp_ HO_4.out) (by decide)) (fun _ h_ => h_.2)); (case side4 => exact (Kd.R_reads' HO_4.out).2.1); rintro e w24 ⟨rfl, hi, hb, hk⟩; refine ⟨_, rfl, ?_⟩; replace HO_3 := Aside0.mk (Kd.R_mono (Kd.R_keep (IsS96.apart (show IsS96 w0 _ g s0_0 t666 from is_HI0) (rp_ HO_3.out) (by decide)) hk (fun _ h => h.2)) (fun _ h => h.1)); replace HO_4 := Aside0.mk (Kd.R_mono (Kd.R_keep (IsS96.apart (show IsS96 w0 _ g s0_0 t666 from is_HI0) (rp_ HO_4.out) (by decide)) hk (fun _ h => h.2)) (fun _ h => h.1)); replace HO_5 := Aside0.mk (Kd.R_mono (Kd.R_keep (IsS96.apart (show IsS96 w0 _ g s0_0 t666 from is_HI0) (rp_ HO_5.out) (by decide)) hk (fun _ h => h.2)) (fun _ h => h.1)); replace HK := Aside0.mk (KeepBut.trans (ke_) hk (.inl rfl)); replace HB := Aside0.mk (hb); replace HI0 := Aside0.mk (hi); (try clear hb); (try clear hb2); (try clear hk); (try clear hi)) | ((with_reducible refine gate_dst (N := 8) rfl ?_); refine box_event ?hg (N := 8) ?hd (cs := #[.int .i64 0, .int .i64 0, .int .i64 0, .int .i64 0, .string (⟨#[]⟩ : ByteArray)]) (t := 54) ?hr ?_; (case hd => rfl); (case hg => rfl); (case hr => first | (go_simp; done) | (go_simp; rfl)); intro gb674 hg w25 hbox hb; have n0_ := Aside0.mk (Kd.R_below (rp_ HO_3.out) hb); have n1_ := Aside0.mk (Kd.R_below (rp_ HO_4.out) hb); have n2_ := Aside0.mk (Kd.R_below (rp_ HO_5.out) hb); have n3_ := Aside0.mk (IsS96.below (is_HI0) hb); have n4_ := Aside0.mk (KeepBut.trans (ke_) (KeepBut.of_below hb g none) (.inl rfl)); have n5_ := Aside0.mk (below_step (bel_) hb); have n6_ := Aside0.mk (hbox); have n7_ := Aside0.mk ((by rw [hg]; exact (keep_size (w := w) (g := g) (row := none) (ke_)) : w.heap.size ≤ gb674)); have n8_ := Aside0.mk ((Nat.le_trans HW0.out (by rw [hg]; exact (keep_size (w := w) (g := g) (row := none) (ke_)) : w.heap.size ≤ gb674) : w0.heap.size ≤ gb674)); have n9_ := Aside0.mk ((by rw [hg]; exact Nat.ne_of_lt (IsS96.lt (show IsS96 w0 _ g s0_0 t673 from is_HI0)) : g ≠ gb674)); have n10_ := Aside0.mk ((by rw [hg]; exact Nat.ne_of_gt (IsS96.lt (show IsS96 w0 _ g s0_0 t673 from is_HI0)) : gb674 ≠ g)); clear HO_3; clear HO_4; clear HO_5; clear HI0; clear HK; clear HB; have HO_3 := n0_; have HO_4 := n1_; have HO_5 := n2_; have HI0 := n3_; have HK := n4_; have HB := n5_; have BK674 := n6_; have GW674 := n7_; have GE674 := n8_; have NB0_674 := n9_; have NB674_0 := n10_; clear n0_ n1_ n2_ n3_ n4_ n5_ n6_ n7_ n8_ n9_ n10_; clear hb hbox hg; have hnb26 := NB674_0.out; have hnc26 := NB0_674.out; have hcz27_0 : w25.cell? ⟨gb674, 0, none⟩ = some (.int .i64 0) := (blk_cell BK674.out 0).trans rfl; have hcz27_1 : w25.cell? ⟨gb674, 1, none⟩ = some (.int .i64 0) := (blk_cell BK674.out 1).trans rfl; have hcz27_2 : w25.cell? ⟨gb674, 2, none⟩ = some (.int .i64 0) := (blk_cell BK674.out 2).trans rfl; have hcz27_3 : w25.cell? ⟨gb674, 3, none⟩ = some (.int .i64 0) := (blk_cell BK674.out 3).trans rfl; have hcz27_4 : w25.cell? ⟨gb674, 4, none⟩ = some (.string (⟨#[]⟩ : ByteArray)) := (blk_cell BK674.out 4).trans rfl; have hfz27_0 := blk_frozen BK674.out 0; have hfz27_1 := blk_frozen BK674.out 1; have hfz27_2 := blk_frozen BK674.out 2; have hfz27_3 := blk_frozen BK674.out 3; have hfz27_4 := blk_frozen BK674.out 4) | ((with_reducible refine gate_store (t := 54) (p := 8) rfl ?_); refine store_event (t := 54) (p := 8) (v := ?vo_w28) (w1 := (((((w25.setCell ⟨gb674, 0, none⟩ (.int .i64 t668)).setCell ⟨gb674, 1, none⟩ (.int .i64 t669)).setCell ⟨gb674, 2, none⟩ (.int .i64 t670)).setCell ⟨gb674, 3, none⟩ (.int .i64 t671)).setCell ⟨gb674, 4, none⟩ (.string t672))) ?hg ?ho ?hn ?hr ?_; (case ho => rfl); (case hg => rfl); (case hn => rfl); (case hr => first | (go_simp; done) | (go_simp; rfl)); intro w28 hw; have n0_ : Aside0 (Kd.R k56 56 w28 w.heap.size (fun _ => True) u3 x3_1) := ⟨(by rw [hw]; exact (by (with_reducible repeat (first | apply Kd.R_alloc | apply Kd.R_drewN | apply Kd.R_drew)); exact Kd.R_mono (Kd.R_far (p := ⟨gb674, 4, none⟩) (Kd.R_far (p := ⟨gb674, 3, none⟩) (Kd.R_far (p := ⟨gb674, 2, none⟩) (Kd.R_far (p := ⟨gb674, 1, none⟩) (Kd.R_far (p := ⟨gb674, 0, none⟩) (Kd.R_types HO_3.out BK674.out (by decide)) (fun _ hk => hk.2) (.int .i64 t668)) (fun _ hk => hk.2) (.int .i64 t669)) (fun _ hk => hk.2) (.int .i64 t670)) (fun _ hk => hk.2) (.int .i64 t671)) (fun _ hk => hk.2) (.string t672)) (fun _ hk => trivial)))⟩; have n1_ : Aside0 (Kd.R k120 120 w28 w.heap.size (fun _ => True) (.slice Ao23 x4_1.length co23) x4_1) := ⟨(by rw [hw]; exact (by (with_reducible repeat (first | apply Kd.R_alloc | apply Kd.R_drewN | apply Kd.R_drew)); exact Kd.R_mono (Kd.R_far (p := ⟨gb674, 4, none⟩) (Kd.R_far (p := ⟨gb674, 3, none⟩) (Kd.R_far (p := ⟨gb674, 2, none⟩) (Kd.R_far (p := ⟨gb674, 1, none⟩) (Kd.R_far (p := ⟨gb674, 0, none⟩) (Kd.R_types HO_4.out BK674.out (by decide)) (fun _ hk => hk.2) (.int .i64 t668)) (fun _ hk => hk.2) (.int .i64 t669)) (fun _ hk => hk.2) (.int .i64 t670)) (fun _ hk => hk.2) (.int .i64 t671)) (fun _ hk => hk.2) (.string t672)) (fun _ hk => trivial)))⟩; have n2_ : Aside0 (Kd.R (Kd.int .i64) 3 w28 w.heap.size (fun _ => True) (.slice (some ad667) x5_1.length co22) x5_1) := ⟨(by rw [hw]; exact (by (with_reducible repeat (first | apply Kd.R_alloc | apply Kd.R_drewN | apply Kd.R_drew)); exact Kd.R_mono (Kd.R_far (p := ⟨gb674, 4, none⟩) (Kd.R_far (p := ⟨gb674, 3, none⟩) (Kd.R_far (p := ⟨gb674, 2, none⟩) (Kd.R_far (p := ⟨gb674, 1, none⟩) (Kd.R_far (p := ⟨gb674, 0, none⟩) (Kd.R_types HO_5.out BK674.out (by decide)) (fun _ hk => hk.2) (.int .i64 t668)) (fun _ hk => hk.2) (.int .i64 t669)) (fun _ hk => hk.2) (.int .i64 t670)) (fun _ hk => hk.2) (.int .i64 t671)) (fun _ hk => hk.2) (.string t672)) (fun _ hk => trivial)))⟩; have n3_ : Aside0 (w28.heap[gb674]? = some (.cells #[.int .i64 t668, .int .i64 t669, .int .i64 t670, .int .i64 t671, .string t672] 54 (0, 0))) := ⟨(by rw [hw]; exact (by (with_reducible repeat (first | refine blk_drewN ?_ _ | refine blk_drew ?_ | refine blk_alloc ?_ _)); refine blk_put (cs := #[.int .i64 t668, .int .i64 t669, .int .i64 t670, .int .i64 t671, .string (⟨#[]⟩ : ByteArray)]) ?_ 4 _ rfl; (with_reducible repeat (first | refine blk_drewN ?_ _ | refine blk_drew ?_ | refine blk_alloc ?_ _)); refine blk_put (cs := #[.int .i64 t668, .int .i64 t669, .int .i64 t670, .int .i64 0, .string (⟨#[]⟩ : ByteArray)]) ?_ 3 _ rfl; (with_reducible repeat (first | refine blk_drewN ?_ _ | refine blk_drew ?_ | refine blk_alloc ?_ _)); refine blk_put (cs := #[.int .i64 t668, .int .i64 t669, .int .i64 0, .int .i64 0, .string (⟨#[]⟩ : ByteArray)]) ?_ 2 _ rfl; (with_reducible repeat (first | refine blk_drewN ?_ _ | refine blk_drew ?_ | refine blk_alloc ?_ _)); refine blk_put (cs := #[.int .i64 t668, .int .i64 0, .int .i64 0, .int .i64 0, .string (⟨#[]⟩ : ByteArray)]) ?_ 1 _ rfl; (with_reducible repeat (first | refine blk_drewN ?_ _ | refine blk_drew ?_ | refine blk_alloc ?_ _)); refine blk_put (cs := #[.int .i64 0, .int .i64 0, .int .i64 0, .int .i64 0, .string (⟨#[]⟩ : ByteArray)]) ?_ 0 _ rfl; (with_reducible repeat (first | refine blk_drewN ?_ _ | refine blk_drew ?_ | refine blk_alloc ?_ _)); exact BK674.out))⟩; have n4_ : Aside0 (IsS96 w0 w28 g s0_0 t673) := ⟨(by rw [hw]; exact (by repeat (first | (with_reducible first | exact HI0.out | apply IsS96.alloc | apply IsS96.drewN | apply IsS96.drew | apply IsS96.set_1 | refine IsS96.far ?_ NB0_674.out _) | exact HI0.out)))⟩; have n5_ : Aside0 (KeepBut w w28 g none) := ⟨(by rw [hw]; exact (by repeat (first | (with_reducible first | exact HK.out | apply KeepBut.set_ | apply keep_drewN | apply keep_drew | apply keep_alloc | refine keep_far ?_ GW674.out _) | exact HK.out)))⟩; have n6_ : Aside0 (Below w0.heap.size w0 w28) := ⟨(by rw [hw]; exact (bel_))⟩; clear hw; clear HO_3; clear HO_4; clear HO_5; clear BK674; clear HI0; clear HK; clear HB; have HO_3 := n0_; have HO_4 := n1_; have HO_5 := n2_; have BK674 := n3_; have HI0 := n4_; have HK := n5_; have HB := n6_; clear n0_ n1_ n2_ n3_ n4_ n5_ n6_; have hcz29_0 : w28.cell? ⟨gb674, 0, none⟩ = some (.int .i64 t668) := (blk_cell BK674.out 0).trans rfl; have hcz29_1 : w28.cell? ⟨gb674, 1, none⟩ = some (.int .i64 t669) := (blk_cell BK674.out 1).trans rfl; have hcz29_2 : w28.cell? ⟨gb674, 2, none⟩ = some (.int .i64 t670) := (blk_cell BK674.out 2).trans rfl; have hcz29_3 : w28.cell? ⟨gb674, 3, none⟩ = some (.int .i64 t671) := (blk_cell BK674.out 3).trans rfl; have hcz29_4 : w28.cell? ⟨gb674, 4, none⟩ = some (.string t672) := (blk_cell BK674.out 4).trans rfl; have hfz29_0 := blk_frozen BK674.out 0; have hfz29_1 := blk_frozen BK674.out 1; have hfz29_2 := blk_frozen BK674.out 2; have hfz29_3 := blk_frozen BK674.out 3; have hfz29_4 := blk_frozen BK674.out 4; have p675 : 0 ≤ ((ji12) : Int) := od_; have q675 : (ji12) < (x5_1.length : Int) := od_; obtain ⟨ad675, e675, hx675_0⟩ := Kd.at_int (Kd.R_reads' HO_5.out).2.2 (ji12) p675 q675; obtain rfl : ad667 = ad675 := (by injection e675); replace p675 := eq_true p675; replace q675 := eq_true q675; have p17 : 0 ≤ ((ji12) : Int) := od_; have q17 : ((ji12) : Int) < ((x5_1.length : Int) : Int) := od_; obtain ⟨go17, co17, eo17, gb17, gl17, cl17, HG17⟩ := Kd.R_form HO_5.out (by omega); (first | cases eo17 | (injection eo17 with ea_ en_ ec_; (first | subst ea_ | (injection ea_ with ea_; subst ea_)); subst ec_; clear en_)); have GB17 := Aside0.mk gb17; have GG17 := Aside0.mk HG17; clear gb17 gl17 HG17; (first | simp only [add_plain] at hx667_0 | skip); (first | simp only [add_plain] at hx675_0 | skip); obtain ⟨hx17_0, hf17_0⟩ := Kd.R_celln 0 HO_5.out ((ji12) : Int) p17 q17; replace p17 := eq_true p17; replace q17 := eq_true q17; obtain ⟨hy30_, hz30_⟩ := Kd.R_celln 0 HO_5.out ((ji12) : Int) (od_) (od_); have HP30 := Kd.R_putg HO_5.out ((ji12) : Int) (wrap64 ((rd x5_1 (ji12)) + 1))) | ((with_reducible refine gate_store (t := 3) (p := 42) rfl ?_); refine store_event (t := 3) (p := 42) (v := ?vo_w31) (w1 := (w28.setCell ⟨go17, ((ji12) : Int).toNat, none⟩ (.int .i64 (wrap64 ((rd x5_1 (ji12)) + 1))))) ?hg ?ho ?hn ?hr ?_; (case ho => rfl); (case hg => rfl); (case hn => rfl); (case hr => first | (go_simp; done) | (go_simp; rfl)); intro w31 hw; have hg : w28.grownBy w31 (some go17) := (by rw [hw]; exact HP30.2); have hp_ : Kd.R (Kd.int .i64) 3 w31 w.heap.size (fun _ => True) (.slice (some ⟨go17, 0, none⟩) x5_1.length co22) y676 := (by rw [hw, Ny676.out]; exact HP30.1); clear HP30; have n0_ := Aside0.mk (Kd.R_over' (v := (.slice (some ⟨go17, 0, none⟩) x5_1.length co22)) (rp_ HO_3.out) (Kd.R_typed HO_5.out) (by decide) hg); have n1_ := Aside0.mk (Kd.R_over' (v := (.slice (some ⟨go17, 0, none⟩) x5_1.length co22)) (rp_ HO_4.out) (Kd.R_typed HO_5.out) (by decide) hg); have n2_ := Aside0.mk (hp_); have n3_ := Aside0.mk (IsS96.grown (by repeat (first | (with_reducible first | exact HI0.out | apply IsS96.alloc | apply IsS96.drewN | apply IsS96.drew | apply IsS96.set_1 | refine IsS96.far ?_ NB0_674.out _) | exact HI0.out)) hg (IsS96.own_ne HI0.out HO_5.out (by decide))); have n4_ := Aside0.mk (blk_grown (g := gb674) (o := .cells #[.int .i64 t668, .int .i64 t669, .int .i64 t670, .int .i64 t671, .string t672] 54 (0, 0)) (bp_ BK674.out) hg (Kd.R_ne HO_5.out BK674.out (by decide))); have n5_ := Aside0.mk ((by rw [hw]; exact below_set (HB.out) (Nat.le_trans HL.out GB17.out) : Below w0.heap.size w0 w31)); have n6_ := Aside0.mk (KeepBut.trans (by repeat (first | (with_reducible first | exact HK.out | apply KeepBut.set_ | apply keep_drewN | apply keep_drew | apply keep_alloc | refine keep_far ?_ GW674.out _) | exact HK.out)) (KeepBut.of_grown hg g) (Kd.R_base2 HO_5.out)); clear HO_3; clear HO_4; clear HO_5; clear HI0; clear BK674; clear HB; clear HK; have HO_3 := n0_; have HO_4 := n1_; have HO_5 := n2_; have HI0 := n3_; have BK674 := n4_; have HB := n5_; have HK := n6_; clear n0_ n1_ n2_ n3_ n4_ n5_ n6_; clear hg hw hp_))
        have n0_ := Aside0.mk (Kd.R_drew HO_3.out)
        have n1_ := Aside0.mk (Kd.R_drew HO_4.out)
        have n2_ := Aside0.mk (Kd.R_drew HO_5.out)
        have n3_ := Aside0.mk (blk_drew BK674.out)
        have n4_ := Aside0.mk (IsS96.drew HI0.out)
        have n5_ := Aside0.mk (keep_drew HK.out)
        have n6_ := Aside0.mk (below_drew1 HB.out)
        clear HO_3
        clear HO_4
        clear HO_5
        clear BK674
        clear HI0
        clear HK
        clear HB
        have HO_3 := n0_
        have HO_4 := n1_
        have HO_5 := n2_
        have BK674 := n3_
        have HI0 := n4_
        have HK := n5_
        have HB := n6_
        clear n0_ n1_ n2_ n3_ n4_ n5_ n6_
        obtain ⟨Ao33, co33, eo33⟩ := Kd.R_slice HO_3.out
        (first | subst eo33 | (injection eo33 with f1_ f2_ f3_; have f4_ := f1_.symm; have f5_ := f3_.symm; clear f1_ f2_ f3_; subst f4_; subst f5_))
        refine start_ (n := 11) (S := fun w' => w'.cell? ⟨gb674, 0, none⟩ = some (.int .i64 t668) ∧ w'.cell? ⟨gb674, 1, none⟩ = some (.int .i64 t669) ∧ w'.cell? ⟨gb674, 2, none⟩ = some (.int .i64 t670) ∧ w'.cell? ⟨gb674, 3, none⟩ = some (.int .i64 t671) ∧ w'.cell? ⟨gb674, 4, none⟩ = some (.string t672)) (ds := []) #[false, false, false, false, false, false, false, false, false, false, false] (by kernel_rfl) rfl rfl ⟨(blk_cell BK674.out 0).trans rfl, (blk_cell BK674.out 1).trans rfl, (blk_cell BK674.out 2).trans rfl, (blk_cell BK674.out 3).trans rfl, (blk_cell BK674.out 4).trans rfl⟩ (fun hHeld => ?_); refine with_tabW spec_l72Log.tab11 spec_l72Log.bits11 (fun HT_ HW_ => ?_)
        generalize w31.drew = w32 at HO_3 HO_4 HO_5 BK674 HI0 HK HB hHeld ⊢
        refine pa_ 0 43 ?_
        refine pa_ 1 44 ?_
        refine pa_ 2 45 ?_
        refine pa_ 3 46 ?_
        refine ta5_ 6 49 hHeld ?_
        refine on_ 4 47 (fun K hK => ?_)
        refine goes_ Tryd.func75 (by kernel_rfl) rfl #[.slice Ao33 x3_1.length co33, .int .i64 (wrap64 (1 + t665))] (by rfl) rfl rfl ar_ ?_
        with_reducible refine (spec_l12Seq.calls k1 _ _ x3_1 (wrap64 (1 + t665)) t677 _ ?side1 ?side2 A18.out).mono ?_
        (case side1 => repeat (first | exact (Kd.R_reads' HO_3.out).2.2 | (with_reducible refine Kd.C_alloc ?_ _) | (with_reducible refine Kd.C_drewN ?_ _) | (with_reducible refine Kd.C_drew ?_)))
        (case side2 => exact (Kd.R_reads' HO_3.out).2.1)
        rintro e w' ⟨rfl, ⟨nd, rfl⟩⟩
        refine ⟨_, rfl, ?_⟩
        refine hK.out _ _ ⟨(blk_cell BK674.out 0).trans rfl, (blk_cell BK674.out 1).trans rfl, (blk_cell BK674.out 2).trans rfl, (blk_cell BK674.out 3).trans rfl, (blk_cell BK674.out 4).trans rfl⟩ (fun hHeld => ?_)
        clear hK K
        refine no_ ?_
        refine pa_ 5 48 ?_
        refine pa_ 7 50 ?_
        refine on_ 8 51 (fun K hK => ?_)
        refine value_ (w1 := ?_) (v := ?_) (by rfl) rfl ?_ ?_
        rotate_left 2
        ·go_simp
         constructor
         ·rfl
         ·rfl
        refine hK.out _ _ ⟨(blk_cell (blk_alloc BK674.out _) 0).trans rfl, (blk_cell (blk_alloc BK674.out _) 1).trans rfl, (blk_cell (blk_alloc BK674.out _) 2).trans rfl, (blk_cell (blk_alloc BK674.out _) 3).trans rfl, (blk_cell (blk_alloc BK674.out _) 4).trans rfl⟩ (fun hHeld => ?_)
        clear hK K
        refine no_ ?_
        refine on_ 9 52 (fun K hK => ?_)
        refine Kd.R_append_step k56 w.heap.size (by rfl) (.tmp 43) (.tmp 51) 26 56 (.agg #[(.int .i64 0), (.int .i64 0), (.int .i64 0), (.int .i64 0), (.int .i64 0), (.int .i64 0), (.string ⟨#[]⟩)]) 64 rfl Tryd.underlying26 info56 rfl (by decide) (by omega) (.slice Ao33 x3_1.length co33) x3_1 (⟨wrap64 (1 + t665), wrap64 (t677 + 1), (⟨t668, t669, t670, t671, t672⟩ : S54)⟩ : S56) [.int .i64 (wrap64 (1 + t665)), .int .i64 (wrap64 (t677 + 1)), .int .i64 t668, .int .i64 t669, .int .i64 t670, .int .i64 t671, .string t672] (fun _ => True) (fun _ => False) rfl rfl ?aP (fun _ hk => hk.elim) ?aF ?aO (Below.refl _ _) ?aS ?aL ?_
        (case aP => exact k56_mkM _ _ _ (⟨wrap64 (1 + t665), wrap64 (t677 + 1), (⟨t668, t669, t670, t671, t672⟩ : S54)⟩ : S56))
        (case aF => exact (fun _ _ => trivial))
        (case aO => exact (rp_ HO_3.out))
        (case aS => exact (keep_size (w := w) (g := g) (row := none) (by repeat (first | (with_reducible first | exact HK.out | apply KeepBut.set_ | apply keep_drewN | apply keep_drew | apply keep_alloc | refine keep_far ?_ GW674.out _) | exact HK.out))))
        (case aL => have := LMc19.out; omega)
        intro v679 w34 ho hb hg hat
        rw [← Ny678.out] at ho
        have n0_ := Aside0.mk (Kd.R_over' (rp_ HO_4.out) (Kd.R_typed (rp_ HO_3.out)) (by decide) hg)
        have n1_ := Aside0.mk (Kd.R_over' (rp_ HO_5.out) (Kd.R_typed (rp_ HO_3.out)) (by decide) hg)
        have n2_ := Aside0.mk (IsS96.grown (by repeat (first | (with_reducible first | exact HI0.out | apply IsS96.alloc | apply IsS96.drewN | apply IsS96.drew | apply IsS96.set_1 | refine IsS96.far ?_ NB0_674.out _) | exact HI0.out)) hg (IsS96.own_ne HI0.out HO_3.out (by decide)))
        have n3_ := Aside0.mk (blk_grown (g := gb674) (o := .cells #[.int .i64 t668, .int .i64 t669, .int .i64 t670, .int .i64 t671, .string t672] 54 (0, 0)) (bp_ BK674.out) hg (Kd.R_ne HO_3.out BK674.out (by decide)))
        have n4_ := Aside0.mk (below_weaken (bel_) HL.out hb)
        have n5_ := Aside0.mk (KeepBut.trans (by repeat (first | (with_reducible first | exact HK.out | apply KeepBut.set_ | apply keep_drewN | apply keep_drew | apply keep_alloc | refine keep_far ?_ GW674.out _) | exact HK.out)) (KeepBut.of_grown hg g) (Kd.R_base2 HO_3.out))
        have n6_ := Aside0.mk (ho)
        clear HO_4
        clear HO_5
        clear HI0
        clear BK674
        clear HB
        clear HK
        clear HO_3
        have HO_4 := n0_
        have HO_5 := n1_
        have HI0 := n2_
        have BK674 := n3_
        have HB := n4_
        have HK := n5_
        have HO680 := n6_
        clear n0_ n1_ n2_ n3_ n4_ n5_ n6_
        clear ho hb hg hat
        refine hK.out _ _ ⟨(blk_cell BK674.out 0).trans rfl, (blk_cell BK674.out 1).trans rfl, (blk_cell BK674.out 2).trans rfl, (blk_cell BK674.out 3).trans rfl, (blk_cell BK674.out 4).trans rfl⟩ (fun hHeld => ?_)
        clear hK K
        refine no_ ?_
        refine pa_ 10 3 ?_
        refine done_ (done_of HT_.out (by kernel_rfl)) ?_
        have hcz35_0 : w34.cell? ⟨gb674, 0, none⟩ = some (.int .i64 t668) := (blk_cell BK674.out 0).trans rfl
        have hcz35_1 : w34.cell? ⟨gb674, 1, none⟩ = some (.int .i64 t669) := (blk_cell BK674.out 1).trans rfl
        have hcz35_2 : w34.cell? ⟨gb674, 2, none⟩ = some (.int .i64 t670) := (blk_cell BK674.out 2).trans rfl
        have hcz35_3 : w34.cell? ⟨gb674, 3, none⟩ = some (.int .i64 t671) := (blk_cell BK674.out 3).trans rfl
        have hcz35_4 : w34.cell? ⟨gb674, 4, none⟩ = some (.string t672) := (blk_cell BK674.out 4).trans rfl
        have hfz35_0 := blk_frozen BK674.out 0
        have hfz35_1 := blk_frozen BK674.out 1
        have hfz35_2 := blk_frozen BK674.out 2
        have hfz35_3 := blk_frozen BK674.out 3
        have hfz35_4 := blk_frozen BK674.out 4
        try go_wp2_with (first | ((with_reducible refine gate_callee (f := 89) rfl ?_); refine gl_ 55 Tryd.func89 #[.slice Ao23 x4_1.length co23, .agg #[.int .i64 t668, .int .i64 t669, .int .i64 t670, .int .i64 t671, .string t672]] ?_; (with_reducible refine (spec_l3Do.calls k1 _ _ x4_1 t668 t669 t670 t671 t672 t681 _ ?side1 ?side2 A20.out).mono ?_); (case side1 => repeat (first | exact (Kd.R_reads' HO_4.out).2.2 | (with_reducible refine Kd.C_alloc ?_ _) | (with_reducible refine Kd.C_drewN ?_ _) | (with_reducible refine Kd.C_drew ?_))); (case side2 => exact (Kd.R_reads' HO_4.out).2.1); rintro e w36 ⟨v682, rfl, ho0, hb⟩; refine ⟨_, rfl, ?_⟩; replace HO_5 := Aside0.mk (Kd.R_below (rp_ HO_5.out) hb); replace HO680 := Aside0.mk (Kd.R_below (rp_ HO680.out) hb); have HO683 := Aside0.mk (Kd.R_lower (Kd.R_new' ho0 (Kd.R_lt (rp_ HO_4.out))) (keep_size (w := w) (g := g) (row := none) (by repeat (first | (with_reducible first | exact HK.out | apply KeepBut.set_ | apply keep_drewN | apply keep_drew | apply keep_alloc | refine keep_far ?_ GW674.out _) | exact HK.out)))); replace HO_4 := Aside0.mk (Kd.R_elder' (rp_ HO_4.out) (Kd.R_base ho0) hb); replace HK := Aside0.mk (KeepBut.trans (by repeat (first | (with_reducible first | exact HK.out | apply KeepBut.set_ | apply keep_drewN | apply keep_drew | apply keep_alloc | refine keep_far ?_ GW674.out _) | exact HK.out)) (KeepBut.of_below hb g none) (.inl rfl)); replace HB := Aside0.mk (below_step (bel_) hb); replace HI0 := Aside0.mk (IsS96.below (by repeat (first | (with_reducible first | exact HI0.out | apply IsS96.alloc | apply IsS96.drewN | apply IsS96.drew | apply IsS96.set_1 | refine IsS96.far ?_ NB0_674.out _) | exact HI0.out)) hb); replace BK674 := Aside0.mk (blk_below (g := gb674) (o := .cells #[.int .i64 t668, .int .i64 t669, .int .i64 t670, .int .i64 t671, .string t672] 54 (0, 0)) (bp_ BK674.out) hb); (try clear hb); (try clear hb2); (try clear hk); (try clear hi); (try clear ho0)))
        go_roundg k1
        case measure => have := HK1.out; omega
        case rel => exact ⟨(y678), (t681), (y676), (wrap64 (x6_1 - 1)), (t673), (si_), H', ⟨by have := HK1.out; omega⟩, ⟨by (with_reducible repeat (first | apply Kd.R_alloc | apply Kd.R_drewN | apply Kd.R_drew)); exact HO680.out⟩, ⟨by (with_reducible repeat (first | apply Kd.R_alloc | apply Kd.R_drewN | apply Kd.R_drew)); exact Kd.R_mono HO683.out (fun _ hk => trivial)⟩, ⟨by (with_reducible repeat (first | apply Kd.R_alloc | apply Kd.R_drewN | apply Kd.R_drew)); exact HO_5.out⟩, ⟨by repeat (first | (with_reducible first | exact HI0.out | apply IsS96.alloc | apply IsS96.drewN | apply IsS96.drew | apply IsS96.set_1 | refine IsS96.far ?_ NB0_674.out _) | exact HI0.out)⟩, ⟨by repeat (first | (with_reducible first | exact HK.out | apply KeepBut.set_ | apply keep_drewN | apply keep_drew | apply keep_alloc | refine keep_far ?_ GW674.out _) | exact HK.out)⟩, ⟨bel_⟩⟩
       ·rw [if_neg c19] at H
        exact absurd H (by simp)
      ·rw [if_neg c16] at H
       have c16b0 : (t668 == 1) = false := beq_eq_false_iff_ne.mpr c16
       have c16b1 : (t668 != 1) = true := bne_iff_ne.mpr c16
       replace H := Option.bind_eq_some_iff.mp H
       obtain ⟨t684, A370, H⟩ := H
       replace H : (if x3_1.length < 2199023255552 then ((spec_l3Do.f k1 x4_1 t668 t669 t670 t671 t672).bind fun t688 => (spec_l72Log.l0 k1 (x3_1 ++ [(⟨wrap64 (1 + t665), wrap64 (t684 + 1), (⟨t668, t669, t670, t671, t672⟩ : S54)⟩ : S56)]) t688 x5_1 (wrap64 (x6_1 - 1)) s0_0 t673)) else (none)) = some (r1, r2) := H
       have A37 := Aside0.mk A370
       clear A370
       by_cases c38 : x3_1.length < 2199023255552
       ·rw [if_pos c38] at H
        have LMc38 := Aside0.mk c38
        clear c38
        obtain ⟨y685, hy685⟩ : ∃ y_ : List (S56), y_ = (x3_1 ++ [(⟨wrap64 (1 + t665), wrap64 (t684 + 1), (⟨t668, t669, t670, t671, t672⟩ : S54)⟩ : S56)]) := ⟨_, rfl⟩
        replace H : ((spec_l3Do.f k1 x4_1 t668 t669 t670 t671 t672).bind fun t688 => (spec_l72Log.l0 k1 y685 t688 x5_1 (wrap64 (x6_1 - 1)) s0_0 t673)) = some (r1, r2) := by first | (rw [hy685]; with_reducible exact H) | (have H2_ := (Option.bind_some _ _).symm.trans H; rw [hy685]; with_reducible exact H2_) | (have H2_ := (Option.bind_some _ _).symm.trans H; with_reducible exact H2_) | with_reducible exact H | (rw [hy685]; exact H) | exact H
        have Ny685 := Aside0.mk hy685
        clear hy685
        replace H := Option.bind_eq_some_iff.mp H
        obtain ⟨t688, A390, H⟩ := H
        replace H : (spec_l72Log.l0 k1 y685 t688 x5_1 (wrap64 (x6_1 - 1)) s0_0 t673) = some (r1, r2) := H
        have A39 := Aside0.mk A390
        clear A390
        have H' := Aside0.mk H
        clear H
        try go_wp2_with (first | ((with_reducible refine gate_callee (f := 56) rfl ?_); refine gl_ 19 Tryd.func56 #[.pointer (some ⟨g, 0, none⟩), .int .i64 3] ?_; (with_reducible refine (spec_l6Rd_pick.calls k1 g s0_0 x1001_1 3 t665 t666 w0 _ ?side1 ?side2 A11.out).mono ?_); (case side1 => exact is_HI0); (case side2 => exact bel_); rintro e w40 ⟨rfl, hi, hb, hk⟩; refine ⟨_, rfl, ?_⟩; replace HO_3 := Aside0.mk (Kd.R_mono (Kd.R_keep (IsS96.apart (show IsS96 w0 _ g s0_0 x1001_1 from is_HI0) (rp_ HO_3.out) (by decide)) hk (fun _ h => h.2)) (fun _ h => h.1)); replace HO_4 := Aside0.mk (Kd.R_mono (Kd.R_keep (IsS96.apart (show IsS96 w0 _ g s0_0 x1001_1 from is_HI0) (rp_ HO_4.out) (by decide)) hk (fun _ h => h.2)) (fun _ h => h.1)); replace HO_5 := Aside0.mk (Kd.R_mono (Kd.R_keep (IsS96.apart (show IsS96 w0 _ g s0_0 x1001_1 from is_HI0) (rp_ HO_5.out) (by decide)) hk (fun _ h => h.2)) (fun _ h => h.1)); replace HK := Aside0.mk (KeepBut.trans (ke_) hk (.inl rfl)); replace HB := Aside0.mk (hb); replace HI0 := Aside0.mk (hi); (try clear hb); (try clear hb2); (try clear hk); (try clear hi); obtain ⟨Ao41, co41, eo41⟩ := Kd.R_slice HO_5.out; subst eo41; have p667 : 0 ≤ ((ji12) : Int) := od_; have q667 : (ji12) < (x5_1.length : Int) := od_; obtain ⟨ad667, e667, hx667_0⟩ := Kd.at_int (Kd.R_reads' HO_5.out).2.2 (ji12) p667 q667; cases e667; replace p667 := eq_true p667; replace q667 := eq_true q667; obtain ⟨Ao42, co42, eo42⟩ := Kd.R_slice HO_4.out; subst eo42) | ((with_reducible refine gate_callee (f := 88) rfl ?_); refine goesL_ (some 29) rfl rfl Tryd.func88 (by kernel_rfl) rfl #[.pointer (some ⟨g, 0, none⟩), .slice Ao42 x4_1.length co42, .int .i64 (wrap64 (1 + t665)), .int .i64 (rd x5_1 (ji12))] rfl (by (try simp only [List.map_toArray, List.map_cons, List.map_nil]); first | done | (simp only [hji12]; rfl) | rfl | (simp only [List.length_drop, List.length_take]; rfl)) ?_; (with_reducible refine (spec_l72Op.calls k1 g s0_0 t666 _ _ x4_1 (wrap64 (1 + t665)) (rd x5_1 (ji12)) t668 t669 t670 t671 t672 t673 w0 _ ?side1 ?side2 ?side3 ?side4 A15.out).mono ?_); (case side1 => exact is_HI0); (case side2 => exact bel_); (case side3 => exact Kd.C_foot_own (IsS96.apart (show IsS96 w0 _ g s0_0 t666 from is_HI0) (rp_ HO_4.out) (by decide)) (fun _ h_ => h_.2)); (case side4 => exact (Kd.R_reads' HO_4.out).2.1); rintro e w43 ⟨rfl, hi, hb, hk⟩; refine ⟨_, rfl, ?_⟩; replace HO_3 := Aside0.mk (Kd.R_mono (Kd.R_keep (IsS96.apart (show IsS96 w0 _ g s0_0 t666 from is_HI0) (rp_ HO_3.out) (by decide)) hk (fun _ h => h.2)) (fun _ h => h.1)); replace HO_4 := Aside0.mk (Kd.R_mono (Kd.R_keep (IsS96.apart (show IsS96 w0 _ g s0_0 t666 from is_HI0) (rp_ HO_4.out) (by decide)) hk (fun _ h => h.2)) (fun _ h => h.1)); replace HO_5 := Aside0.mk (Kd.R_mono (Kd.R_keep (IsS96.apart (show IsS96 w0 _ g s0_0 t666 from is_HI0) (rp_ HO_5.out) (by decide)) hk (fun _ h => h.2)) (fun _ h => h.1)); replace HK := Aside0.mk (KeepBut.trans (ke_) hk (.inl rfl)); replace HB := Aside0.mk (hb); replace HI0 := Aside0.mk (hi); (try clear hb); (try clear hb2); (try clear hk); (try clear hi)) | ((with_reducible refine gate_dst (N := 8) rfl ?_); refine box_event ?hg (N := 8) ?hd (cs := #[.int .i64 0, .int .i64 0, .int .i64 0, .int .i64 0, .string (⟨#[]⟩ : ByteArray)]) (t := 54) ?hr ?_; (case hd => rfl); (case hg => rfl); (case hr => first | (go_simp; done) | (go_simp; rfl)); intro gb674 hg w44 hbox hb; have n0_ := Aside0.mk (Kd.R_below (rp_ HO_3.out) hb); have n1_ := Aside0.mk (Kd.R_below (rp_ HO_4.out) hb); have n2_ := Aside0.mk (Kd.R_below (rp_ HO_5.out) hb); have n3_ := Aside0.mk (IsS96.below (is_HI0) hb); have n4_ := Aside0.mk (KeepBut.trans (ke_) (KeepBut.of_below hb g none) (.inl rfl)); have n5_ := Aside0.mk (below_step (bel_) hb); have n6_ := Aside0.mk (hbox); have n7_ := Aside0.mk ((by rw [hg]; exact (keep_size (w := w) (g := g) (row := none) (ke_)) : w.heap.size ≤ gb674)); have n8_ := Aside0.mk ((Nat.le_trans HW0.out (by rw [hg]; exact (keep_size (w := w) (g := g) (row := none) (ke_)) : w.heap.size ≤ gb674) : w0.heap.size ≤ gb674)); have n9_ := Aside0.mk ((by rw [hg]; exact Nat.ne_of_lt (IsS96.lt (show IsS96 w0 _ g s0_0 t673 from is_HI0)) : g ≠ gb674)); have n10_ := Aside0.mk ((by rw [hg]; exact Nat.ne_of_gt (IsS96.lt (show IsS96 w0 _ g s0_0 t673 from is_HI0)) : gb674 ≠ g)); clear HO_3; clear HO_4; clear HO_5; clear HI0; clear HK; clear HB; have HO_3 := n0_; have HO_4 := n1_; have HO_5 := n2_; have HI0 := n3_; have HK := n4_; have HB := n5_; have BK674 := n6_; have GW674 := n7_; have GE674 := n8_; have NB0_674 := n9_; have NB674_0 := n10_; clear n0_ n1_ n2_ n3_ n4_ n5_ n6_ n7_ n8_ n9_ n10_; clear hb hbox hg; have hnb45 := NB674_0.out; have hnc45 := NB0_674.out; have hcz46_0 : w44.cell? ⟨gb674, 0, none⟩ = some (.int .i64 0) := (blk_cell BK674.out 0).trans rfl; have hcz46_1 : w44.cell? ⟨gb674, 1, none⟩ = some (.int .i64 0) := (blk_cell BK674.out 1).trans rfl; have hcz46_2 : w44.cell? ⟨gb674, 2, none⟩ = some (.int .i64 0) := (blk_cell BK674.out 2).trans rfl; have hcz46_3 : w44.cell? ⟨gb674, 3, none⟩ = some (.int .i64 0) := (blk_cell BK674.out 3).trans rfl; have hcz46_4 : w44.cell? ⟨gb674, 4, none⟩ = some (.string (⟨#[]⟩ : ByteArray)) := (blk_cell BK674.out 4).trans rfl; have hfz46_0 := blk_frozen BK674.out 0; have hfz46_1 := blk_frozen BK674.out 1; have hfz46_2 := blk_frozen BK674.out 2; have hfz46_3 := blk_frozen BK674.out 3; have hfz46_4 := blk_frozen BK674.out 4))
        have n0_ : Aside0 (Kd.R k56 56 (((((w44.setCell ⟨gb674, 0, none⟩ (.int .i64 t668)).setCell ⟨gb674, 1, none⟩ (.int .i64 t669)).setCell ⟨gb674, 2, none⟩ (.int .i64 t670)).setCell ⟨gb674, 3, none⟩ (.int .i64 t671)).setCell ⟨gb674, 4, none⟩ (.string t672)) w.heap.size (fun _ => True) u3 x3_1) := ⟨by (with_reducible repeat (first | apply Kd.R_alloc | apply Kd.R_drewN | apply Kd.R_drew)); exact Kd.R_mono (Kd.R_far (p := ⟨gb674, 4, none⟩) (Kd.R_far (p := ⟨gb674, 3, none⟩) (Kd.R_far (p := ⟨gb674, 2, none⟩) (Kd.R_far (p := ⟨gb674, 1, none⟩) (Kd.R_far (p := ⟨gb674, 0, none⟩) (Kd.R_types HO_3.out BK674.out (by decide)) (fun _ hk => hk.2) (.int .i64 t668)) (fun _ hk => hk.2) (.int .i64 t669)) (fun _ hk => hk.2) (.int .i64 t670)) (fun _ hk => hk.2) (.int .i64 t671)) (fun _ hk => hk.2) (.string t672)) (fun _ hk => trivial)⟩
        have n1_ : Aside0 (Kd.R k120 120 (((((w44.setCell ⟨gb674, 0, none⟩ (.int .i64 t668)).setCell ⟨gb674, 1, none⟩ (.int .i64 t669)).setCell ⟨gb674, 2, none⟩ (.int .i64 t670)).setCell ⟨gb674, 3, none⟩ (.int .i64 t671)).setCell ⟨gb674, 4, none⟩ (.string t672)) w.heap.size (fun _ => True) (.slice Ao42 x4_1.length co42) x4_1) := ⟨by (with_reducible repeat (first | apply Kd.R_alloc | apply Kd.R_drewN | apply Kd.R_drew)); exact Kd.R_mono (Kd.R_far (p := ⟨gb674, 4, none⟩) (Kd.R_far (p := ⟨gb674, 3, none⟩) (Kd.R_far (p := ⟨gb674, 2, none⟩) (Kd.R_far (p := ⟨gb674, 1, none⟩) (Kd.R_far (p := ⟨gb674, 0, none⟩) (Kd.R_types HO_4.out BK674.out (by decide)) (fun _ hk => hk.2) (.int .i64 t668)) (fun _ hk => hk.2) (.int .i64 t669)) (fun _ hk => hk.2) (.int .i64 t670)) (fun _ hk => hk.2) (.int .i64 t671)) (fun _ hk => hk.2) (.string t672)) (fun _ hk => trivial)⟩
        have n2_ : Aside0 (Kd.R (Kd.int .i64) 3 (((((w44.setCell ⟨gb674, 0, none⟩ (.int .i64 t668)).setCell ⟨gb674, 1, none⟩ (.int .i64 t669)).setCell ⟨gb674, 2, none⟩ (.int .i64 t670)).setCell ⟨gb674, 3, none⟩ (.int .i64 t671)).setCell ⟨gb674, 4, none⟩ (.string t672)) w.heap.size (fun _ => True) (.slice (some ad667) x5_1.length co41) x5_1) := ⟨by (with_reducible repeat (first | apply Kd.R_alloc | apply Kd.R_drewN | apply Kd.R_drew)); exact Kd.R_mono (Kd.R_far (p := ⟨gb674, 4, none⟩) (Kd.R_far (p := ⟨gb674, 3, none⟩) (Kd.R_far (p := ⟨gb674, 2, none⟩) (Kd.R_far (p := ⟨gb674, 1, none⟩) (Kd.R_far (p := ⟨gb674, 0, none⟩) (Kd.R_types HO_5.out BK674.out (by decide)) (fun _ hk => hk.2) (.int .i64 t668)) (fun _ hk => hk.2) (.int .i64 t669)) (fun _ hk => hk.2) (.int .i64 t670)) (fun _ hk => hk.2) (.int .i64 t671)) (fun _ hk => hk.2) (.string t672)) (fun _ hk => trivial)⟩
        have n3_ : Aside0 ((((((w44.setCell ⟨gb674, 0, none⟩ (.int .i64 t668)).setCell ⟨gb674, 1, none⟩ (.int .i64 t669)).setCell ⟨gb674, 2, none⟩ (.int .i64 t670)).setCell ⟨gb674, 3, none⟩ (.int .i64 t671)).setCell ⟨gb674, 4, none⟩ (.string t672)).heap[gb674]? = some (.cells #[.int .i64 t668, .int .i64 t669, .int .i64 t670, .int .i64 t671, .string t672] 54 (0, 0))) := ⟨by (with_reducible repeat (first | refine blk_drewN ?_ _ | refine blk_drew ?_ | refine blk_alloc ?_ _)); refine blk_put (cs := #[.int .i64 t668, .int .i64 t669, .int .i64 t670, .int .i64 t671, .string (⟨#[]⟩ : ByteArray)]) ?_ 4 _ rfl; (with_reducible repeat (first | refine blk_drewN ?_ _ | refine blk_drew ?_ | refine blk_alloc ?_ _)); refine blk_put (cs := #[.int .i64 t668, .int .i64 t669, .int .i64 t670, .int .i64 0, .string (⟨#[]⟩ : ByteArray)]) ?_ 3 _ rfl; (with_reducible repeat (first | refine blk_drewN ?_ _ | refine blk_drew ?_ | refine blk_alloc ?_ _)); refine blk_put (cs := #[.int .i64 t668, .int .i64 t669, .int .i64 0, .int .i64 0, .string (⟨#[]⟩ : ByteArray)]) ?_ 2 _ rfl; (with_reducible repeat (first | refine blk_drewN ?_ _ | refine blk_drew ?_ | refine blk_alloc ?_ _)); refine blk_put (cs := #[.int .i64 t668, .int .i64 0, .int .i64 0, .int .i64 0, .string (⟨#[]⟩ : ByteArray)]) ?_ 1 _ rfl; (with_reducible repeat (first | refine blk_drewN ?_ _ | refine blk_drew ?_ | refine blk_alloc ?_ _)); refine blk_put (cs := #[.int .i64 0, .int .i64 0, .int .i64 0, .int .i64 0, .string (⟨#[]⟩ : ByteArray)]) ?_ 0 _ rfl; (with_reducible repeat (first | refine blk_drewN ?_ _ | refine blk_drew ?_ | refine blk_alloc ?_ _)); exact BK674.out⟩
        have n4_ : Aside0 (IsS96 w0 (((((w44.setCell ⟨gb674, 0, none⟩ (.int .i64 t668)).setCell ⟨gb674, 1, none⟩ (.int .i64 t669)).setCell ⟨gb674, 2, none⟩ (.int .i64 t670)).setCell ⟨gb674, 3, none⟩ (.int .i64 t671)).setCell ⟨gb674, 4, none⟩ (.string t672)) g s0_0 t673) := ⟨by repeat (first | (with_reducible first | exact HI0.out | apply IsS96.alloc | apply IsS96.drewN | apply IsS96.drew | apply IsS96.set_1 | refine IsS96.far ?_ NB0_674.out _) | exact HI0.out)⟩
        have n5_ : Aside0 (KeepBut w (((((w44.setCell ⟨gb674, 0, none⟩ (.int .i64 t668)).setCell ⟨gb674, 1, none⟩ (.int .i64 t669)).setCell ⟨gb674, 2, none⟩ (.int .i64 t670)).setCell ⟨gb674, 3, none⟩ (.int .i64 t671)).setCell ⟨gb674, 4, none⟩ (.string t672)) g none) := ⟨by repeat (first | (with_reducible first | exact HK.out | apply KeepBut.set_ | apply keep_drewN | apply keep_drew | apply keep_alloc | refine keep_far ?_ GW674.out _) | exact HK.out)⟩
        have n6_ : Aside0 (Below w0.heap.size w0 (((((w44.setCell ⟨gb674, 0, none⟩ (.int .i64 t668)).setCell ⟨gb674, 1, none⟩ (.int .i64 t669)).setCell ⟨gb674, 2, none⟩ (.int .i64 t670)).setCell ⟨gb674, 3, none⟩ (.int .i64 t671)).setCell ⟨gb674, 4, none⟩ (.string t672))) := ⟨bel_⟩
        (try clear HO_3)
        (try clear HO_4)
        (try clear HO_5)
        (try clear BK674)
        (try clear HI0)
        (try clear HK)
        (try clear HB)
        generalize (((((w44.setCell ⟨gb674, 0, none⟩ (.int .i64 t668)).setCell ⟨gb674, 1, none⟩ (.int .i64 t669)).setCell ⟨gb674, 2, none⟩ (.int .i64 t670)).setCell ⟨gb674, 3, none⟩ (.int .i64 t671)).setCell ⟨gb674, 4, none⟩ (.string t672)) = w47 at n0_ n1_ n2_ n3_ n4_ n5_ n6_ ⊢
        have HO_3 := n0_
        have HO_4 := n1_
        have HO_5 := n2_
        have BK674 := n3_
        have HI0 := n4_
        have HK := n5_
        have HB := n6_
        clear n0_ n1_ n2_ n3_ n4_ n5_ n6_
        have n0_ := Aside0.mk (Kd.R_drew HO_3.out)
        have n1_ := Aside0.mk (Kd.R_drew HO_4.out)
        have n2_ := Aside0.mk (Kd.R_drew HO_5.out)
        have n3_ := Aside0.mk (blk_drew BK674.out)
        have n4_ := Aside0.mk (IsS96.drew HI0.out)
        have n5_ := Aside0.mk (keep_drew HK.out)
        have n6_ := Aside0.mk (below_drew1 HB.out)
        clear HO_3
        clear HO_4
        clear HO_5
        clear BK674
        clear HI0
        clear HK
        clear HB
        have HO_3 := n0_
        have HO_4 := n1_
        have HO_5 := n2_
        have BK674 := n3_
        have HI0 := n4_
        have HK := n5_
        have HB := n6_
        clear n0_ n1_ n2_ n3_ n4_ n5_ n6_
        obtain ⟨Ao49, co49, eo49⟩ := Kd.R_slice HO_3.out
        (first | subst eo49 | (injection eo49 with f1_ f2_ f3_; have f4_ := f1_.symm; have f5_ := f3_.symm; clear f1_ f2_ f3_; subst f4_; subst f5_))
        refine start_ (n := 11) (S := fun w' => w'.cell? ⟨gb674, 0, none⟩ = some (.int .i64 t668) ∧ w'.cell? ⟨gb674, 1, none⟩ = some (.int .i64 t669) ∧ w'.cell? ⟨gb674, 2, none⟩ = some (.int .i64 t670) ∧ w'.cell? ⟨gb674, 3, none⟩ = some (.int .i64 t671) ∧ w'.cell? ⟨gb674, 4, none⟩ = some (.string t672)) (ds := []) #[false, false, false, false, false, false, false, false, false, false, false] (by kernel_rfl) rfl rfl ⟨(blk_cell BK674.out 0).trans rfl, (blk_cell BK674.out 1).trans rfl, (blk_cell BK674.out 2).trans rfl, (blk_cell BK674.out 3).trans rfl, (blk_cell BK674.out 4).trans rfl⟩ (fun hHeld => ?_); refine with_tabW spec_l72Log.tab11 spec_l72Log.bits11 (fun HT_ HW_ => ?_)
        generalize w47.drew = w48 at HO_3 HO_4 HO_5 BK674 HI0 HK HB hHeld ⊢
        refine pa_ 0 43 ?_
        refine pa_ 1 44 ?_
        refine pa_ 2 45 ?_
        refine pa_ 3 46 ?_
        refine ta5_ 6 49 hHeld ?_
        refine on_ 4 47 (fun K hK => ?_)
        refine goes_ Tryd.func75 (by kernel_rfl) rfl #[.slice Ao49 x3_1.length co49, .int .i64 (wrap64 (1 + t665))] (by rfl) rfl rfl ar_ ?_
        with_reducible refine (spec_l12Seq.calls k1 _ _ x3_1 (wrap64 (1 + t665)) t684 _ ?side1 ?side2 A37.out).mono ?_
        (case side1 => repeat (first | exact (Kd.R_reads' HO_3.out).2.2 | (with_reducible refine Kd.C_alloc ?_ _) | (with_reducible refine Kd.C_drewN ?_ _) | (with_reducible refine Kd.C_drew ?_)))
        (case side2 => exact (Kd.R_reads' HO_3.out).2.1)
        rintro e w' ⟨rfl, ⟨nd, rfl⟩⟩
        refine ⟨_, rfl, ?_⟩
        refine hK.out _ _ ⟨(blk_cell BK674.out 0).trans rfl, (blk_cell BK674.out 1).trans rfl, (blk_cell BK674.out 2).trans rfl, (blk_cell BK674.out 3).trans rfl, (blk_cell BK674.out 4).trans rfl⟩ (fun hHeld => ?_)
        clear hK K
        refine no_ ?_
        refine pa_ 5 48 ?_
        refine pa_ 7 50 ?_
        refine on_ 8 51 (fun K hK => ?_)
        refine value_ (w1 := ?_) (v := ?_) (by rfl) rfl ?_ ?_
        rotate_left 2
        ·go_simp
         constructor
         ·rfl
         ·rfl
        refine hK.out _ _ ⟨(blk_cell (blk_alloc BK674.out _) 0).trans rfl, (blk_cell (blk_alloc BK674.out _) 1).trans rfl, (blk_cell (blk_alloc BK674.out _) 2).trans rfl, (blk_cell (blk_alloc BK674.out _) 3).trans rfl, (blk_cell (blk_alloc BK674.out _) 4).trans rfl⟩ (fun hHeld => ?_)
        clear hK K
        refine no_ ?_
        refine on_ 9 52 (fun K hK => ?_)
        refine Kd.R_append_step k56 w.heap.size (by rfl) (.tmp 43) (.tmp 51) 26 56 (.agg #[(.int .i64 0), (.int .i64 0), (.int .i64 0), (.int .i64 0), (.int .i64 0), (.int .i64 0), (.string ⟨#[]⟩)]) 64 rfl Tryd.underlying26 info56 rfl (by decide) (by omega) (.slice Ao49 x3_1.length co49) x3_1 (⟨wrap64 (1 + t665), wrap64 (t684 + 1), (⟨t668, t669, t670, t671, t672⟩ : S54)⟩ : S56) [.int .i64 (wrap64 (1 + t665)), .int .i64 (wrap64 (t684 + 1)), .int .i64 t668, .int .i64 t669, .int .i64 t670, .int .i64 t671, .string t672] (fun _ => True) (fun _ => False) rfl rfl ?aP (fun _ hk => hk.elim) ?aF ?aO (Below.refl _ _) ?aS ?aL ?_
        (case aP => exact k56_mkM _ _ _ (⟨wrap64 (1 + t665), wrap64 (t684 + 1), (⟨t668, t669, t670, t671, t672⟩ : S54)⟩ : S56))
        (case aF => exact (fun _ _ => trivial))
        (case aO => exact (rp_ HO_3.out))
        (case aS => exact (keep_size (w := w) (g := g) (row := none) (by repeat (first | (with_reducible first | exact HK.out | apply KeepBut.set_ | apply keep_drewN | apply keep_drew | apply keep_alloc | refine keep_far ?_ GW674.out _) | exact HK.out))))
        (case aL => have := LMc38.out; omega)
        intro v686 w50 ho hb hg hat
        rw [← Ny685.out] at ho
        have n0_ := Aside0.mk (Kd.R_over' (rp_ HO_4.out) (Kd.R_typed (rp_ HO_3.out)) (by decide) hg)
        have n1_ := Aside0.mk (Kd.R_over' (rp_ HO_5.out) (Kd.R_typed (rp_ HO_3.out)) (by decide) hg)
        have n2_ := Aside0.mk (IsS96.grown (by repeat (first | (with_reducible first | exact HI0.out | apply IsS96.alloc | apply IsS96.drewN | apply IsS96.drew | apply IsS96.set_1 | refine IsS96.far ?_ NB0_674.out _) | exact HI0.out)) hg (IsS96.own_ne HI0.out HO_3.out (by decide)))
        have n3_ := Aside0.mk (blk_grown (g := gb674) (o := .cells #[.int .i64 t668, .int .i64 t669, .int .i64 t670, .int .i64 t671, .string t672] 54 (0, 0)) (bp_ BK674.out) hg (Kd.R_ne HO_3.out BK674.out (by decide)))
        have n4_ := Aside0.mk (below_weaken (bel_) HL.out hb)
        have n5_ := Aside0.mk (KeepBut.trans (by repeat (first | (with_reducible first | exact HK.out | apply KeepBut.set_ | apply keep_drewN | apply keep_drew | apply keep_alloc | refine keep_far ?_ GW674.out _) | exact HK.out)) (KeepBut.of_grown hg g) (Kd.R_base2 HO_3.out))
        have n6_ := Aside0.mk (ho)
        clear HO_4
        clear HO_5
        clear HI0
        clear BK674
        clear HB
        clear HK
        clear HO_3
        have HO_4 := n0_
        have HO_5 := n1_
        have HI0 := n2_
        have BK674 := n3_
        have HB := n4_
        have HK := n5_
        have HO687 := n6_
        clear n0_ n1_ n2_ n3_ n4_ n5_ n6_
        clear ho hb hg hat
        refine hK.out _ _ ⟨(blk_cell BK674.out 0).trans rfl, (blk_cell BK674.out 1).trans rfl, (blk_cell BK674.out 2).trans rfl, (blk_cell BK674.out 3).trans rfl, (blk_cell BK674.out 4).trans rfl⟩ (fun hHeld => ?_)
        clear hK K
        refine no_ ?_
        refine pa_ 10 3 ?_
        refine done_ (done_of HT_.out (by kernel_rfl)) ?_
        have hcz51_0 : w50.cell? ⟨gb674, 0, none⟩ = some (.int .i64 t668) := (blk_cell BK674.out 0).trans rfl
        have hcz51_1 : w50.cell? ⟨gb674, 1, none⟩ = some (.int .i64 t669) := (blk_cell BK674.out 1).trans rfl
        have hcz51_2 : w50.cell? ⟨gb674, 2, none⟩ = some (.int .i64 t670) := (blk_cell BK674.out 2).trans rfl
        have hcz51_3 : w50.cell? ⟨gb674, 3, none⟩ = some (.int .i64 t671) := (blk_cell BK674.out 3).trans rfl
        have hcz51_4 : w50.cell? ⟨gb674, 4, none⟩ = some (.string t672) := (blk_cell BK674.out 4).trans rfl
        have hfz51_0 := blk_frozen BK674.out 0
        have hfz51_1 := blk_frozen BK674.out 1
        have hfz51_2 := blk_frozen BK674.out 2
        have hfz51_3 := blk_frozen BK674.out 3
        have hfz51_4 := blk_frozen BK674.out 4
        try go_wp2_with (first | ((with_reducible refine gate_callee (f := 89) rfl ?_); refine gl_ 55 Tryd.func89 #[.slice Ao42 x4_1.length co42, .agg #[.int .i64 t668, .int .i64 t669, .int .i64 t670, .int .i64 t671, .string t672]] ?_; (with_reducible refine (spec_l3Do.calls k1 _ _ x4_1 t668 t669 t670 t671 t672 t688 _ ?side1 ?side2 A39.out).mono ?_); (case side1 => repeat (first | exact (Kd.R_reads' HO_4.out).2.2 | (with_reducible refine Kd.C_alloc ?_ _) | (with_reducible refine Kd.C_drewN ?_ _) | (with_reducible refine Kd.C_drew ?_))); (case side2 => exact (Kd.R_reads' HO_4.out).2.1); rintro e w52 ⟨v689, rfl, ho0, hb⟩; refine ⟨_, rfl, ?_⟩; replace HO_5 := Aside0.mk (Kd.R_below (rp_ HO_5.out) hb); replace HO687 := Aside0.mk (Kd.R_below (rp_ HO687.out) hb); have HO690 := Aside0.mk (Kd.R_lower (Kd.R_new' ho0 (Kd.R_lt (rp_ HO_4.out))) (keep_size (w := w) (g := g) (row := none) (by repeat (first | (with_reducible first | exact HK.out | apply KeepBut.set_ | apply keep_drewN | apply keep_drew | apply keep_alloc | refine keep_far ?_ GW674.out _) | exact HK.out)))); replace HO_4 := Aside0.mk (Kd.R_elder' (rp_ HO_4.out) (Kd.R_base ho0) hb); replace HK := Aside0.mk (KeepBut.trans (by repeat (first | (with_reducible first | exact HK.out | apply KeepBut.set_ | apply keep_drewN | apply keep_drew | apply keep_alloc | refine keep_far ?_ GW674.out _) | exact HK.out)) (KeepBut.of_below hb g none) (.inl rfl)); replace HB := Aside0.mk (below_step (bel_) hb); replace HI0 := Aside0.mk (IsS96.below (by repeat (first | (with_reducible first | exact HI0.out | apply IsS96.alloc | apply IsS96.drewN | apply IsS96.drew | apply IsS96.set_1 | refine IsS96.far ?_ NB0_674.out _) | exact HI0.out)) hb); replace BK674 := Aside0.mk (blk_below (g := gb674) (o := .cells #[.int .i64 t668, .int .i64 t669, .int .i64 t670, .int .i64 t671, .string t672] 54 (0, 0)) (bp_ BK674.out) hb); (try clear hb); (try clear hb2); (try clear hk); (try clear hi); (try clear ho0)))
        go_roundg k1
        case measure => have := HK1.out; omega
        case rel => exact ⟨(y685), (t688), (x5_1), (wrap64 (x6_1 - 1)), (t673), (si_), H', ⟨by have := HK1.out; omega⟩, ⟨by (with_reducible repeat (first | apply Kd.R_alloc | apply Kd.R_drewN | apply Kd.R_drew)); exact HO687.out⟩, ⟨by (with_reducible repeat (first | apply Kd.R_alloc | apply Kd.R_drewN | apply Kd.R_drew)); exact Kd.R_mono HO690.out (fun _ hk => trivial)⟩, ⟨by (with_reducible repeat (first | apply Kd.R_alloc | apply Kd.R_drewN | apply Kd.R_drew)); exact HO_5.out⟩, ⟨by repeat (first | (with_reducible first | exact HI0.out | apply IsS96.alloc | apply IsS96.drewN | apply IsS96.drew | apply IsS96.set_1 | refine IsS96.far ?_ NB0_674.out _) | exact HI0.out)⟩, ⟨by repeat (first | (with_reducible first | exact HK.out | apply KeepBut.set_ | apply keep_drewN | apply keep_drew | apply keep_alloc | refine keep_far ?_ GW674.out _) | exact HK.out)⟩, ⟨bel_⟩⟩
       ·rw [if_neg c38] at H
        exact absurd H (by simp)
     ·rw [if_neg c14] at H
      exact absurd H (by simp)
    ·rw [if_neg c13] at H
     exact absurd H (by simp)
   ·rw [if_neg c10] at H
    have c10b0 : decide (0 < x6_1) = false := decide_eq_false c10
    clear c10
    replace H := Option.bind_eq_some_iff.mp H
    obtain ⟨⟨t691, t692⟩, A530, H⟩ := H
    replace H : (if t691 = 0 then ((spec_l6Rd_pick.f k1 s0_0 t692 3).bind fun bt693 => ((spec_l6Rd_pick.f k1 s0_0 bt693.2 4).bind fun bt695 => ((spec_l71Op.f k1 s0_0 bt695.2).bind fun bt697 => (if x3_1.length < 2199023255552 then (some ((x3_1 ++ [(⟨wrap64 (1 + bt693.1), wrap64 (1 + bt695.1), (⟨bt697.1, bt697.2.1, bt697.2.2.1, bt697.2.2.2.1, bt697.2.2.2.2.1⟩ : S54)⟩ : S56)]), bt697.2.2.2.2.2)) else (none))))) else (if t691 = 1 then (if (x3_1.length : Int) > 0 then ((spec_l6Rd_pick.f k1 s0_0 t692 (x3_1.length : Int)).bind fun bt706 => ((spec_l6Rd_pick.f k1 s0_0 bt706.2 4).bind fun bt708 => (if 0 ≤ bt706.1 then (if bt706.1 < (x3_1.length : Int) then (some ((x3_1.set (bt706.1 : Int).toNat (⟨(rd_T56 x3_1 bt706.1).f0, bt708.1, (⟨(rd_T56 x3_1 bt706.1).f2.f0, (rd_T56 x3_1 bt706.1).f2.f1, (rd_T56 x3_1 bt706.1).f2.f2, (rd_T56 x3_1 bt706.1).f2.f3, (rd_T56 x3_1 bt706.1).f2.f4⟩ : S54)⟩ : S56)), bt708.2)) else (none)) else (none)))) else (some (x3_1, t692))) else (some (x3_1, t692)))) = some (r1, r2) := H
    have A53 := Aside0.mk A530
    clear A530
    by_cases c54 : t691 = 0
    ·rw [if_pos c54] at H
     have c54b0 : (t691 == 0) = true := beq_iff_eq.mpr c54
     have c54b1 : (t691 != 0) = false := bne_eq_false_iff_eq.mpr c54
     clear c54
     replace H := Option.bind_eq_some_iff.mp H
     obtain ⟨⟨t693, t694⟩, A550, H⟩ := H
     replace H : ((spec_l6Rd_pick.f k1 s0_0 t694 4).bind fun bt695 => ((spec_l71Op.f k1 s0_0 bt695.2).bind fun bt697 => (if x3_1.length < 2199023255552 then (some ((x3_1 ++ [(⟨wrap64 (1 + t693), wrap64 (1 + bt695.1), (⟨bt697.1, bt697.2.1, bt697.2.2.1, bt697.2.2.2.1, bt697.2.2.2.2.1⟩ : S54)⟩ : S56)]), bt697.2.2.2.2.2)) else (none)))) = some (r1, r2) := H
     have A55 := Aside0.mk A550
     clear A550
     replace H := Option.bind_eq_some_iff.mp H
     obtain ⟨⟨t695, t696⟩, A560, H⟩ := H
     replace H : ((spec_l71Op.f k1 s0_0 t696).bind fun bt697 => (if x3_1.length < 2199023255552 then (some ((x3_1 ++ [(⟨wrap64 (1 + t693), wrap64 (1 + t695), (⟨bt697.1, bt697.2.1, bt697.2.2.1, bt697.2.2.2.1, bt697.2.2.2.2.1⟩ : S54)⟩ : S56)]), bt697.2.2.2.2.2)) else (none))) = some (r1, r2) := H
     have A56 := Aside0.mk A560
     clear A560
     replace H := Option.bind_eq_some_iff.mp H
     obtain ⟨⟨t697, t698, t699, t700, t701, t702⟩, A570, H⟩ := H
     replace H : (if x3_1.length < 2199023255552 then (some ((x3_1 ++ [(⟨wrap64 (1 + t693), wrap64 (1 + t695), (⟨t697, t698, t699, t700, t701⟩ : S54)⟩ : S56)]), t702)) else (none)) = some (r1, r2) := H
     have A57 := Aside0.mk A570
     clear A570
     by_cases c58 : x3_1.length < 2199023255552
     ·rw [if_pos c58] at H
      have LMc58 := Aside0.mk c58
      clear c58
      obtain ⟨y703, hy703⟩ : ∃ y_ : List (S56), y_ = (x3_1 ++ [(⟨wrap64 (1 + t693), wrap64 (1 + t695), (⟨t697, t698, t699, t700, t701⟩ : S54)⟩ : S56)]) := ⟨_, rfl⟩
      replace H : (some (y703, t702)) = some (r1, r2) := by first | (rw [hy703]; with_reducible exact H) | (have H2_ := (Option.bind_some _ _).symm.trans H; rw [hy703]; with_reducible exact H2_) | (have H2_ := (Option.bind_some _ _).symm.trans H; with_reducible exact H2_) | with_reducible exact H | (rw [hy703]; exact H) | exact H
      have Ny703 := Aside0.mk hy703
      clear hy703
      simp only [Option.some.injEq, Prod.mk.injEq] at H
      obtain ⟨rfl, rfl⟩ := H
      go_wp2_with (first | ((with_reducible refine gate_callee (f := 56) rfl ?_); refine gl_ 57 Tryd.func56 #[.pointer (some ⟨g, 0, none⟩), .int .i64 24] ?_; (with_reducible refine (spec_l6Rd_pick.calls k1 g s0_0 x1001_1 24 t691 t692 w0 _ ?side1 ?side2 A53.out).mono ?_); (case side1 => exact is_HI0); (case side2 => exact bel_); rintro e w59 ⟨rfl, hi, hb, hk⟩; refine ⟨_, rfl, ?_⟩; replace HO_3 := Aside0.mk (Kd.R_mono (Kd.R_keep (IsS96.apart (show IsS96 w0 _ g s0_0 x1001_1 from is_HI0) (rp_ HO_3.out) (by decide)) hk (fun _ h => h.2)) (fun _ h => h.1)); replace HO_4 := Aside0.mk (Kd.R_mono (Kd.R_keep (IsS96.apart (show IsS96 w0 _ g s0_0 x1001_1 from is_HI0) (rp_ HO_4.out) (by decide)) hk (fun _ h => h.2)) (fun _ h => h.1)); replace HO_5 := Aside0.mk (Kd.R_mono (Kd.R_keep (IsS96.apart (show IsS96 w0 _ g s0_0 x1001_1 from is_HI0) (rp_ HO_5.out) (by decide)) hk (fun _ h => h.2)) (fun _ h => h.1)); replace HK := Aside0.mk (KeepBut.trans (ke_) hk (.inl rfl)); replace HB := Aside0.mk (hb); replace HI0 := Aside0.mk (hi); (try clear hb); (try clear hb2); (try clear hk); (try clear hi)) | ((with_reducible refine gate_callee (f := 56) rfl ?_); refine gl_ 62 Tryd.func56 #[.pointer (some ⟨g, 0, none⟩), .int .i64 3] ?_; (with_reducible refine (spec_l6Rd_pick.calls k1 g s0_0 t692 3 t693 t694 w0 _ ?side1 ?side2 A55.out).mono ?_); (case side1 => exact is_HI0); (case side2 => exact bel_); rintro e w60 ⟨rfl, hi, hb, hk⟩; refine ⟨_, rfl, ?_⟩; replace HO_3 := Aside0.mk (Kd.R_mono (Kd.R_keep (IsS96.apart (show IsS96 w0 _ g s0_0 t692 from is_HI0) (rp_ HO_3.out) (by decide)) hk (fun _ h => h.2)) (fun _ h => h.1)); replace HO_4 := Aside0.mk (Kd.R_mono (Kd.R_keep (IsS96.apart (show IsS96 w0 _ g s0_0 t692 from is_HI0) (rp_ HO_4.out) (by decide)) hk (fun _ h => h.2)) (fun _ h => h.1)); replace HO_5 := Aside0.mk (Kd.R_mono (Kd.R_keep (IsS96.apart (show IsS96 w0 _ g s0_0 t692 from is_HI0) (rp_ HO_5.out) (by decide)) hk (fun _ h => h.2)) (fun _ h => h.1)); replace HK := Aside0.mk (KeepBut.trans (ke_) hk (.inl rfl)); replace HB := Aside0.mk (hb); replace HI0 := Aside0.mk (hi); (try clear hb); (try clear hb2); (try clear hk); (try clear hi)) | ((with_reducible refine gate_callee (f := 56) rfl ?_); refine gl_ 65 Tryd.func56 #[.pointer (some ⟨g, 0, none⟩), .int .i64 4] ?_; (with_reducible refine (spec_l6Rd_pick.calls k1 g s0_0 t694 4 t695 t696 w0 _ ?side1 ?side2 A56.out).mono ?_); (case side1 => exact is_HI0); (case side2 => exact bel_); rintro e w61 ⟨rfl, hi, hb, hk⟩; refine ⟨_, rfl, ?_⟩; replace HO_3 := Aside0.mk (Kd.R_mono (Kd.R_keep (IsS96.apart (show IsS96 w0 _ g s0_0 t694 from is_HI0) (rp_ HO_3.out) (by decide)) hk (fun _ h => h.2)) (fun _ h => h.1)); replace HO_4 := Aside0.mk (Kd.R_mono (Kd.R_keep (IsS96.apart (show IsS96 w0 _ g s0_0 t694 from is_HI0) (rp_ HO_4.out) (by decide)) hk (fun _ h => h.2)) (fun _ h => h.1)); replace HO_5 := Aside0.mk (Kd.R_mono (Kd.R_keep (IsS96.apart (show IsS96 w0 _ g s0_0 t694 from is_HI0) (rp_ HO_5.out) (by decide)) hk (fun _ h => h.2)) (fun _ h => h.1)); replace HK := Aside0.mk (KeepBut.trans (ke_) hk (.inl rfl)); replace HB := Aside0.mk (hb); replace HI0 := Aside0.mk (hi); (try clear hb); (try clear hb2); (try clear hk); (try clear hi)) | ((with_reducible refine gate_callee (f := 90) rfl ?_); refine gl_ 68 Tryd.func90 #[.pointer (some ⟨g, 0, none⟩)] ?_; (with_reducible refine (spec_l71Op.calls k1 g s0_0 t696 t697 t698 t699 t700 t701 t702 w0 _ ?side1 ?side2 A57.out).mono ?_); (case side1 => exact is_HI0); (case side2 => exact bel_); rintro e w62 ⟨rfl, hi, hb, hk⟩; refine ⟨_, rfl, ?_⟩; replace HO_3 := Aside0.mk (Kd.R_mono (Kd.R_keep (IsS96.apart (show IsS96 w0 _ g s0_0 t696 from is_HI0) (rp_ HO_3.out) (by decide)) hk (fun _ h => h.2)) (fun _ h => h.1)); replace HO_4 := Aside0.mk (Kd.R_mono (Kd.R_keep (IsS96.apart (show IsS96 w0 _ g s0_0 t696 from is_HI0) (rp_ HO_4.out) (by decide)) hk (fun _ h => h.2)) (fun _ h => h.1)); replace HO_5 := Aside0.mk (Kd.R_mono (Kd.R_keep (IsS96.apart (show IsS96 w0 _ g s0_0 t696 from is_HI0) (rp_ HO_5.out) (by decide)) hk (fun _ h => h.2)) (fun _ h => h.1)); replace HK := Aside0.mk (KeepBut.trans (ke_) hk (.inl rfl)); replace HB := Aside0.mk (hb); replace HI0 := Aside0.mk (hi); (try clear hb); (try clear hb2); (try clear hk); (try clear hi)) | ((with_reducible refine gate_builtin (b := .append) (xs := #[.tmp 60, .tmp 70]) rfl ?_); at_builtin; refine Kd.R_append k56 w.heap.size rfl (.tmp 60) (.tmp 70) 26 56 (.agg #[(.int .i64 0), (.int .i64 0), (.int .i64 0), (.int .i64 0), (.int .i64 0), (.int .i64 0), (.string ⟨#[]⟩)]) 64 rfl Tryd.underlying26 info56 rfl (by decide) (by omega) u3 x3_1 (⟨wrap64 (1 + t693), wrap64 (1 + t695), (⟨t697, t698, t699, t700, t701⟩ : S54)⟩ : S56) [.int .i64 (wrap64 (1 + t693)), .int .i64 (wrap64 (1 + t695)), .int .i64 t697, .int .i64 t698, .int .i64 t699, .int .i64 t700, .string t701] (fun _ => True) (fun _ => False) rfl rfl ?aP (fun _ hk => hk.elim) ?aF ?aO (Below.refl _ _) ?aS ?aL ?_; (case aP => exact k56_mkM _ _ _ (⟨wrap64 (1 + t693), wrap64 (1 + t695), (⟨t697, t698, t699, t700, t701⟩ : S54)⟩ : S56)); (case aF => exact (fun _ _ => trivial)); (case aO => exact (rp_ HO_3.out)); (case aS => exact (keep_size (w := w) (g := g) (row := none) (ke_))); (case aL => have := LMc58.out; omega); intro v704 w63 ho hb hg hat; rw [← Ny703.out] at ho; replace HO_4 := Aside0.mk (Kd.R_over' (rp_ HO_4.out) (Kd.R_typed (rp_ HO_3.out)) (by decide) hg); replace HO_5 := Aside0.mk (Kd.R_over' (rp_ HO_5.out) (Kd.R_typed (rp_ HO_3.out)) (by decide) hg); replace HB := Aside0.mk (below_weaken (bel_) HL.out hb); replace HI0 := Aside0.mk (IsS96.grown (is_HI0) hg (IsS96.own_ne HI0.out HO_3.out (by decide))); replace HK := Aside0.mk (KeepBut.trans (ke_) (KeepBut.of_grown hg g) (Kd.R_base2 HO_3.out)); have HO705 := Aside0.mk (ho); clear HO_3; clear ho hb hg hat))
      go_ret
      exact ⟨_, fi_, by (with_reducible repeat (first | apply Kd.R_alloc | apply Kd.R_drewN | apply Kd.R_drew)); exact HO705.out, is_HI0, bel_, ke_⟩
     ·rw [if_neg c58] at H
      exact absurd H (by simp)
    ·rw [if_neg c54] at H
     have c54b0 : (t691 == 0) = false := beq_eq_false_iff_ne.mpr c54
     have c54b1 : (t691 != 0) = true := bne_iff_ne.mpr c54
     by_cases c64 : t691 = 1
     ·rw [if_pos c64] at H
      have c64b0 : (t691 == 1) = true := beq_iff_eq.mpr c64
      have c64b1 : (t691 != 1) = false := bne_eq_false_iff_eq.mpr c64
      clear c64
      by_cases c65 : (x3_1.length : Int) > 0
      ·rw [if_pos c65] at H
       have c65b0 : decide (0 < (x3_1.length : Int)) = true := decide_eq_true c65
       have c65b1 : decide (0 < x3_1.length) = true := decide_eq_true (by omega)
       clear c65
       replace H := Option.bind_eq_some_iff.mp H
       obtain ⟨⟨t706, t707⟩, A660, H⟩ := H
       replace H : ((spec_l6Rd_pick.f k1 s0_0 t707 4).bind fun bt708 => (if 0 ≤ t706 then (if t706 < (x3_1.length : Int) then (some ((x3_1.set (t706 : Int).toNat (⟨(rd_T56 x3_1 t706).f0, bt708.1, (⟨(rd_T56 x3_1 t706).f2.f0, (rd_T56 x3_1 t706).f2.f1, (rd_T56 x3_1 t706).f2.f2, (rd_T56 x3_1 t706).f2.f3, (rd_T56 x3_1 t706).f2.f4⟩ : S54)⟩ : S56)), bt708.2)) else (none)) else (none))) = some (r1, r2) := H
       have A66 := Aside0.mk A660
       clear A660
       replace H := Option.bind_eq_some_iff.mp H
       obtain ⟨⟨t708, t709⟩, A670, H⟩ := H
       replace H : (if 0 ≤ t706 then (if t706 < (x3_1.length : Int) then (some ((x3_1.set (t706 : Int).toNat (⟨(rd_T56 x3_1 t706).f0, t708, (⟨(rd_T56 x3_1 t706).f2.f0, (rd_T56 x3_1 t706).f2.f1, (rd_T56 x3_1 t706).f2.f2, (rd_T56 x3_1 t706).f2.f3, (rd_T56 x3_1 t706).f2.f4⟩ : S54)⟩ : S56)), t709)) else (none)) else (none)) = some (r1, r2) := H
       have A67 := Aside0.mk A670
       clear A670
       by_cases c68 : 0 ≤ t706
       ·rw [if_pos c68] at H
        have c68b0 : decide (0 ≤ t706) = true := decide_eq_true c68
        clear c68
        by_cases c69 : t706 < (x3_1.length : Int)
        ·rw [if_pos c69] at H
         have c69b0 : decide (t706 < (x3_1.length : Int)) = true := decide_eq_true c69
         clear c69
         obtain ⟨y710, hy710⟩ : ∃ y_ : List (S56), y_ = (x3_1.set (t706 : Int).toNat (⟨(rd_T56 x3_1 t706).f0, t708, (⟨(rd_T56 x3_1 t706).f2.f0, (rd_T56 x3_1 t706).f2.f1, (rd_T56 x3_1 t706).f2.f2, (rd_T56 x3_1 t706).f2.f3, (rd_T56 x3_1 t706).f2.f4⟩ : S54)⟩ : S56)) := ⟨_, rfl⟩
         replace H : (some (y710, t709)) = some (r1, r2) := by first | (rw [hy710]; with_reducible exact H) | (have H2_ := (Option.bind_some _ _).symm.trans H; rw [hy710]; with_reducible exact H2_) | (have H2_ := (Option.bind_some _ _).symm.trans H; with_reducible exact H2_) | with_reducible exact H | (rw [hy710]; exact H) | exact H
         have Ny710 := Aside0.mk hy710
         clear hy710
         simp only [Option.some.injEq, Prod.mk.injEq] at H
         obtain ⟨rfl, rfl⟩ := H
         go_wp2_with (first | ((with_reducible refine gate_callee (f := 56) rfl ?_); refine gl_ 57 Tryd.func56 #[.pointer (some ⟨g, 0, none⟩), .int .i64 24] ?_; (with_reducible refine (spec_l6Rd_pick.calls k1 g s0_0 x1001_1 24 t691 t692 w0 _ ?side1 ?side2 A53.out).mono ?_); (case side1 => exact is_HI0); (case side2 => exact bel_); rintro e w71 ⟨rfl, hi, hb, hk⟩; refine ⟨_, rfl, ?_⟩; replace HO_3 := Aside0.mk (Kd.R_mono (Kd.R_keep (IsS96.apart (show IsS96 w0 _ g s0_0 x1001_1 from is_HI0) (rp_ HO_3.out) (by decide)) hk (fun _ h => h.2)) (fun _ h => h.1)); replace HO_4 := Aside0.mk (Kd.R_mono (Kd.R_keep (IsS96.apart (show IsS96 w0 _ g s0_0 x1001_1 from is_HI0) (rp_ HO_4.out) (by decide)) hk (fun _ h => h.2)) (fun _ h => h.1)); replace HO_5 := Aside0.mk (Kd.R_mono (Kd.R_keep (IsS96.apart (show IsS96 w0 _ g s0_0 x1001_1 from is_HI0) (rp_ HO_5.out) (by decide)) hk (fun _ h => h.2)) (fun _ h => h.1)); replace HK := Aside0.mk (KeepBut.trans (ke_) hk (.inl rfl)); replace HB := Aside0.mk (hb); replace HI0 := Aside0.mk (hi); (try clear hb); (try clear hb2); (try clear hk); (try clear hi); obtain ⟨Ao72, co72, eo72⟩ := Kd.R_slice HO_3.out; subst eo72) | ((with_reducible refine gate_callee (f := 56) rfl ?_); refine gl_ 81 Tryd.func56 #[.pointer (some ⟨g, 0, none⟩), .int .i64 (x3_1.length : Int)] ?_; (with_reducible refine (spec_l6Rd_pick.calls k1 g s0_0 t692 (x3_1.length : Int) t706 t707 w0 _ ?side1 ?side2 A66.out).mono ?_); (case side1 => exact is_HI0); (case side2 => exact bel_); rintro e w73 ⟨rfl, hi, hb, hk⟩; refine ⟨_, rfl, ?_⟩; replace HO_3 := Aside0.mk (Kd.R_mono (Kd.R_keep (IsS96.apart (show IsS96 w0 _ g s0_0 t692 from is_HI0) (rp_ HO_3.out) (by decide)) hk (fun _ h => h.2)) (fun _ h => h.1)); replace HO_4 := Aside0.mk (Kd.R_mono (Kd.R_keep (IsS96.apart (show IsS96 w0 _ g s0_0 t692 from is_HI0) (rp_ HO_4.out) (by decide)) hk (fun _ h => h.2)) (fun _ h => h.1)); replace HO_5 := Aside0.mk (Kd.R_mono (Kd.R_keep (IsS96.apart (show IsS96 w0 _ g s0_0 t692 from is_HI0) (rp_ HO_5.out) (by decide)) hk (fun _ h => h.2)) (fun _ h => h.1)); replace HK := Aside0.mk (KeepBut.trans (ke_) hk (.inl rfl)); replace HB := Aside0.mk (hb); replace HI0 := Aside0.mk (hi); (try clear hb); (try clear hb2); (try clear hk); (try clear hi)) | ((with_reducible refine gate_callee (f := 56) rfl ?_); refine gl_ 83 Tryd.func56 #[.pointer (some ⟨g, 0, none⟩), .int .i64 4] ?_; (with_reducible refine (spec_l6Rd_pick.calls k1 g s0_0 t707 4 t708 t709 w0 _ ?side1 ?side2 A67.out).mono ?_); (case side1 => exact is_HI0); (case side2 => exact bel_); rintro e w74 ⟨rfl, hi, hb, hk⟩; refine ⟨_, rfl, ?_⟩; replace HO_3 := Aside0.mk (Kd.R_mono (Kd.R_keep (IsS96.apart (show IsS96 w0 _ g s0_0 t707 from is_HI0) (rp_ HO_3.out) (by decide)) hk (fun _ h => h.2)) (fun _ h => h.1)); replace HO_4 := Aside0.mk (Kd.R_mono (Kd.R_keep (IsS96.apart (show IsS96 w0 _ g s0_0 t707 from is_HI0) (rp_ HO_4.out) (by decide)) hk (fun _ h => h.2)) (fun _ h => h.1)); replace HO_5 := Aside0.mk (Kd.R_mono (Kd.R_keep (IsS96.apart (show IsS96 w0 _ g s0_0 t707 from is_HI0) (rp_ HO_5.out) (by decide)) hk (fun _ h => h.2)) (fun _ h => h.1)); replace HK := Aside0.mk (KeepBut.trans (ke_) hk (.inl rfl)); replace HB := Aside0.mk (hb); replace HI0 := Aside0.mk (hi); (try clear hb); (try clear hb2); (try clear hk); (try clear hi); have p70 : 0 ≤ (t706 : Int) := od_; have q70 : (t706 : Int) < ((x3_1.length : Int) : Int) := od_; obtain ⟨go70, co70, eo70, gb70, gl70, cl70, HG70⟩ := Kd.R_form HO_3.out (by omega); (first | cases eo70 | (injection eo70 with ea_ en_ ec_; (first | subst ea_ | (injection ea_ with ea_; subst ea_)); subst ec_; clear en_)); have GB70 := Aside0.mk gb70; have GG70 := Aside0.mk HG70; clear gb70 gl70 HG70; obtain ⟨ce70, hcl70, hM70, hcc70, hfr70⟩ := Kd.R_elem HO_3.out z56 (t706 : Int) p70 q70; obtain rfl := k56_openM hM70; have hx70_0 : w74.cell? ⟨go70, (t706 : Int).toNat * 7, none⟩ = some (.int .i64 ((rd_T56 x3_1 t706).f0)) := hcc70 0 _ rfl; have hx70_1 : w74.cell? ⟨go70, (t706 : Int).toNat * 7 + 1, none⟩ = some (.int .i64 ((rd_T56 x3_1 t706).f1)) := hcc70 1 _ rfl; have hx70_2 : w74.cell? ⟨go70, (t706 : Int).toNat * 7 + 2, none⟩ = some (.int .i64 ((rd_T56 x3_1 t706).f2.f0)) := hcc70 2 _ rfl; have hx70_3 : w74.cell? ⟨go70, (t706 : Int).toNat * 7 + 3, none⟩ = some (.int .i64 ((rd_T56 x3_1 t706).f2.f1)) := hcc70 3 _ rfl; have hx70_4 : w74.cell? ⟨go70, (t706 : Int).toNat * 7 + 4, none⟩ = some (.int .i64 ((rd_T56 x3_1 t706).f2.f2)) := hcc70 4 _ rfl; have hx70_5 : w74.cell? ⟨go70, (t706 : Int).toNat * 7 + 5, none⟩ = some (.int .i64 ((rd_T56 x3_1 t706).f2.f3)) := hcc70 5 _ rfl; have hx70_6 : w74.cell? ⟨go70, (t706 : Int).toNat * 7 + 6, none⟩ = some (.string ((rd_T56 x3_1 t706).f2.f4)) := hcc70 6 _ rfl; have hf70_0 : w74.frozen? ⟨go70, (t706 : Int).toNat * 7, none⟩ = false := hfr70 0; have hf70_1 : w74.frozen? ⟨go70, (t706 : Int).toNat * 7 + 1, none⟩ = false := hfr70 1; have hf70_2 : w74.frozen? ⟨go70, (t706 : Int).toNat * 7 + 2, none⟩ = false := hfr70 2; have hf70_3 : w74.frozen? ⟨go70, (t706 : Int).toNat * 7 + 3, none⟩ = false := hfr70 3; have hf70_4 : w74.frozen? ⟨go70, (t706 : Int).toNat * 7 + 4, none⟩ = false := hfr70 4; have hf70_5 : w74.frozen? ⟨go70, (t706 : Int).toNat * 7 + 5, none⟩ = false := hfr70 5; have hf70_6 : w74.frozen? ⟨go70, (t706 : Int).toNat * 7 + 6, none⟩ = false := hfr70 6; clear hcl70 hcc70 hfr70 hM70; replace p70 := eq_true p70; replace q70 := eq_true q70; have HX75 := Aside0.mk (show Kd.R k56 56 w74 w.heap.size (fun _ => True) (.slice (some ⟨go70, 0, none⟩) x3_1.length co72) x3_1 from (rp_ HO_3.out)); obtain ⟨ce75, hcl75, hM75, hcc75, hfr75⟩ := Kd.R_elem HX75.out z56 (t706 : Int) (od_) (by have h_ : (t706 : Int) < ((x3_1.length : Int) : Int) := od_; first | exact h_ | (have e_ := (Kd.R_reads' HO_3.out).1; omega) | simpa using h_); obtain rfl := k56_openM hM75; have HP75 := Kd.R_seg HX75.out (t706 : Int) (od_) (by have h_ : (t706 : Int) < ((x3_1.length : Int) : Int) := od_; first | exact h_ | (have e_ := (Kd.R_reads' HO_3.out).1; omega) | simpa using h_) (seg := [.int .i64 t708]) (j := 1) hcl75 hcc75 (show 2 ≤ 7 from by decide) (x' := (⟨(rd_T56 x3_1 t706).f0, t708, (⟨(rd_T56 x3_1 t706).f2.f0, (rd_T56 x3_1 t706).f2.f1, (rd_T56 x3_1 t706).f2.f2, (rd_T56 x3_1 t706).f2.f3, (rd_T56 x3_1 t706).f2.f4⟩ : S54)⟩ : S56)) (k56_mkM _ _ _ (⟨(rd_T56 x3_1 t706).f0, t708, (⟨(rd_T56 x3_1 t706).f2.f0, (rd_T56 x3_1 t706).f2.f1, (rd_T56 x3_1 t706).f2.f2, (rd_T56 x3_1 t706).f2.f3, (rd_T56 x3_1 t706).f2.f4⟩ : S54)⟩ : S56) ) (fun _ hk => hk); have hx75_1 := hcc75 1 _ rfl; (try simp only [show (k56).sz = 7 from rfl, Nat.mul_one, Nat.add_zero] at hx75_1); have hf75_1 := hfr75 1; (try simp only [show (k56).sz = 7 from rfl, Nat.mul_one, Nat.add_zero] at hf75_1); clear hcl75 hcc75 hfr75 hM75) | ((with_reducible refine gate_store (t := 3) (p := 85) rfl ?_); refine store_event (t := 3) (p := 85) (v := ?vo_w76) (w1 := (w74.setCell ⟨go70, (t706 : Int).toNat * 7 + 1, none⟩ (.int .i64 t708))) ?hg ?ho ?hn ?hr ?_; (case ho => rfl); (case hg => rfl); (case hn => rfl); (case hr => first | (go_simp; done) | (go_simp; rfl)); intro w76 hw; have hg : w74.grownBy w76 (some go70) := (by rw [hw]; exact HP75.2); have hp_ : Kd.R k56 56 w76 w.heap.size (fun _ => True) (.slice (some ⟨go70, 0, none⟩) x3_1.length co72) y710 := (by rw [hw, Ny710.out]; exact HP75.1); clear HP75; have n0_ := Aside0.mk (hp_); have n1_ := Aside0.mk (Kd.R_over' (v := (.slice (some ⟨go70, 0, none⟩) x3_1.length co72)) (rp_ HO_4.out) (Kd.R_typed HO_3.out) (by decide) hg); have n2_ := Aside0.mk (Kd.R_over' (v := (.slice (some ⟨go70, 0, none⟩) x3_1.length co72)) (rp_ HO_5.out) (Kd.R_typed HO_3.out) (by decide) hg); have n3_ := Aside0.mk (IsS96.grown (is_HI0) hg (IsS96.own_ne HI0.out HO_3.out (by decide))); have n4_ := Aside0.mk ((by rw [hw]; exact below_set (HB.out) (Nat.le_trans HL.out GB70.out) : Below w0.heap.size w0 w76)); have n5_ := Aside0.mk (KeepBut.trans (ke_) (KeepBut.of_grown hg g) (Kd.R_base2 HO_3.out)); clear HO_3; clear HO_4; clear HO_5; clear HI0; clear HB; clear HK; have HO_3 := n0_; have HO_4 := n1_; have HO_5 := n2_; have HI0 := n3_; have HB := n4_; have HK := n5_; clear n0_ n1_ n2_ n3_ n4_ n5_; clear hg hw hp_))
         go_ret
         exact ⟨_, fi_, by (with_reducible repeat (first | apply Kd.R_alloc | apply Kd.R_drewN | apply Kd.R_drew)); exact HO_3.out, is_HI0, bel_, ke_⟩
        ·rw [if_neg c69] at H
         exact absurd H (by simp)
       ·rw [if_neg c68] at H
        exact absurd H (by simp)
      ·rw [if_neg c65] at H
       have c65b0 : decide (0 < (x3_1.length : Int)) = false := decide_eq_false c65
       have c65b1 : decide (0 < x3_1.length) = false := decide_eq_false (by omega)
       clear c65
       simp only [Option.some.injEq, Prod.mk.injEq] at H
       obtain ⟨rfl, rfl⟩ := H
       go_wp2_with (first | ((with_reducible refine gate_callee (f := 56) rfl ?_); refine gl_ 57 Tryd.func56 #[.pointer (some ⟨g, 0, none⟩), .int .i64 24] ?_; (with_reducible refine (spec_l6Rd_pick.calls k1 g s0_0 x1001_1 24 t691 t692 w0 _ ?side1 ?side2 A53.out).mono ?_); (case side1 => exact is_HI0); (case side2 => exact bel_); rintro e w77 ⟨rfl, hi, hb, hk⟩; refine ⟨_, rfl, ?_⟩; replace HO_3 := Aside0.mk (Kd.R_mono (Kd.R_keep (IsS96.apart (show IsS96 w0 _ g s0_0 x1001_1 from is_HI0) (rp_ HO_3.out) (by decide)) hk (fun _ h => h.2)) (fun _ h => h.1)); replace HO_4 := Aside0.mk (Kd.R_mono (Kd.R_keep (IsS96.apart (show IsS96 w0 _ g s0_0 x1001_1 from is_HI0) (rp_ HO_4.out) (by decide)) hk (fun _ h => h.2)) (fun _ h => h.1)); replace HO_5 := Aside0.mk (Kd.R_mono (Kd.R_keep (IsS96.apart (show IsS96 w0 _ g s0_0 x1001_1 from is_HI0) (rp_ HO_5.out) (by decide)) hk (fun _ h => h.2)) (fun _ h => h.1)); replace HK := Aside0.mk (KeepBut.trans (ke_) hk (.inl rfl)); replace HB := Aside0.mk (hb); replace HI0 := Aside0.mk (hi); (try clear hb); (try clear hb2); (try clear hk); (try clear hi); obtain ⟨Ao78, co78, eo78⟩ := Kd.R_slice HO_3.out; subst eo78))
       go_ret
       exact ⟨_, fi_, by (with_reducible repeat (first | apply Kd.R_alloc | apply Kd.R_drewN | apply Kd.R_drew)); exact HO_3.out, is_HI0, bel_, ke_⟩
     ·rw [if_neg c64] at H
      have c64b0 : (t691 == 1) = false := beq_eq_false_iff_ne.mpr c64
      have c64b1 : (t691 != 1) = true := bne_iff_ne.mpr c64
      simp only [Option.some.injEq, Prod.mk.injEq] at H
      obtain ⟨rfl, rfl⟩ := H
      go_wp2_with (first | ((with_reducible refine gate_callee (f := 56) rfl ?_); refine gl_ 57 Tryd.func56 #[.pointer (some ⟨g, 0, none⟩), .int .i64 24] ?_; (with_reducible refine (spec_l6Rd_pick.calls k1 g s0_0 x1001_1 24 t691 t692 w0 _ ?side1 ?side2 A53.out).mono ?_); (case side1 => exact is_HI0); (case side2 => exact bel_); rintro e w79 ⟨rfl, hi, hb, hk⟩; refine ⟨_, rfl, ?_⟩; replace HO_3 := Aside0.mk (Kd.R_mono (Kd.R_keep (IsS96.apart (show IsS96 w0 _ g s0_0 x1001_1 from is_HI0) (rp_ HO_3.out) (by decide)) hk (fun _ h => h.2)) (fun _ h => h.1)); replace HO_4 := Aside0.mk (Kd.R_mono (Kd.R_keep (IsS96.apart (show IsS96 w0 _ g s0_0 x1001_1 from is_HI0) (rp_ HO_4.out) (by decide)) hk (fun _ h => h.2)) (fun _ h => h.1)); replace HO_5 := Aside0.mk (Kd.R_mono (Kd.R_keep (IsS96.apart (show IsS96 w0 _ g s0_0 x1001_1 from is_HI0) (rp_ HO_5.out) (by decide)) hk (fun _ h => h.2)) (fun _ h => h.1)); replace HK := Aside0.mk (KeepBut.trans (ke_) hk (.inl rfl)); replace HB := Aside0.mk (hb); replace HI0 := Aside0.mk (hi); (try clear hb); (try clear hb2); (try clear hk); (try clear hi)))
      go_ret
      exact ⟨_, fi_, by (with_reducible repeat (first | apply Kd.R_alloc | apply Kd.R_drewN | apply Kd.R_drew)); exact HO_3.out, is_HI0, bel_, ke_⟩

def spec_l72Server.f (k : Nat) (s0_0 : List Int) (s0_1 : Int) : Option ((List (S56)) × Int × Bool × Int) := (spec_l72Log.f k s0_0 s0_1).bind fun bt712 => ((spec_l6Rd_pick.f k s0_0 bt712.2 8).bind fun bt716 => ((spec_l6Rd_pick.f k s0_0 bt716.2 (wrap64 ((bt712.1.length : Int) + 1))).bind fun bt719 => ((spec_l6Rd_pick.f k s0_0 bt719.2 24).bind fun bt721 => (some (bt712.1, wrap64 (bt719.1 + (wrap64 (Int.tdiv bt721.1 23))), decide (bt716.1 > 0), bt721.2)))))
theorem spec_l72Server.mono : ∀ a0 a1 k, LeO (spec_l72Server.f k a0 a1) (spec_l72Server.f (k + 1) a0 a1) := by
 intro a0 a1 k
 unfold spec_l72Server.f
 repeat' first
   | (with_reducible exact spec_l6Rd_pick.mono _ _ _ _)
   | (with_reducible exact spec_l72Log.mono _ _ _)
   | (with_reducible exact LeO.refl _)
   | (with_reducible exact LeO.none _)
   | (with_reducible refine LeO.ite ?_ ?_)
   | (with_reducible refine LeO.bind ?_ (fun _ => ?_))
   | exact spec_l6Rd_pick.mono _ _ _ _
   | exact spec_l72Log.mono _ _ _
   | exact LeO.none _
   | refine LeO.ite ?_ ?_
   | refine LeO.bind ?_ (fun _ => ?_)
set_option maxHeartbeats 8000000 in
set_option maxRecDepth 100000 in
theorem spec_l72Server.calls (k : Nat) (g : Nat) (s0_0 : List Int) (s0_1 : Int) (r1 : List (S56)) (r2 : Int) (r3 : Bool) (r4 : Int) (w0 w : World) (hI : IsS96 w0 w g s0_0 s0_1) (hB : Below w0.heap.size w0 w) (h : spec_l72Server.f k s0_0 s0_1 = some (r1, r2, r3, r4)) :
  Calls Tryd.prog 55 #[.pointer (some ⟨g, 0, none⟩)] w fun e w' => ∃ v0_ : Value, e = .returned (.agg #[v0_, .int .i64 r2, .bool r3]) ∧ Kd.R k56 56 w' w.heap.size (fun _ => True) v0_ r1 ∧ IsS96 w0 w' g s0_0 r4 ∧ Below w0.heap.size w0 w' ∧ KeepBut w w' g none := by
 have hu29 := Tryd.underlying29
 have HI0 := Aside0.mk hI
 have HK := Aside0.mk (KeepBut.refl w g none)
 have HL := Aside0.mk hB.size
 clear hI
 have HW0 := Aside0.mk hB.size
 have HB := Aside0.mk hB
 clear hB
 have H : ((spec_l72Log.f k s0_0 s0_1).bind fun bt712 => ((spec_l6Rd_pick.f k s0_0 bt712.2 8).bind fun bt716 => ((spec_l6Rd_pick.f k s0_0 bt716.2 (wrap64 ((bt712.1.length : Int) + 1))).bind fun bt719 => ((spec_l6Rd_pick.f k s0_0 bt719.2 24).bind fun bt721 => (some (bt712.1, wrap64 (bt719.1 + (wrap64 (Int.tdiv bt721.1 23))), decide (bt716.1 > 0), bt721.2)))))) = some (r1, r2, r3, r4) := h
 clear h
 replace H := Option.bind_eq_some_iff.mp H
 obtain ⟨⟨t712, t715⟩, A20, H⟩ := H
 replace H : ((spec_l6Rd_pick.f k s0_0 t715 8).bind fun bt716 => ((spec_l6Rd_pick.f k s0_0 bt716.2 (wrap64 ((t712.length : Int) + 1))).bind fun bt719 => ((spec_l6Rd_pick.f k s0_0 bt719.2 24).bind fun bt721 => (some (t712, wrap64 (bt719.1 + (wrap64 (Int.tdiv bt721.1 23))), decide (bt716.1 > 0), bt721.2))))) = some (r1, r2, r3, r4) := H
 have A2 := Aside0.mk A20
 clear A20
 replace H := Option.bind_eq_some_iff.mp H
 obtain ⟨⟨t716, t717⟩, A30, H⟩ := H
 replace H : ((spec_l6Rd_pick.f k s0_0 t717 (wrap64 ((t712.length : Int) + 1))).bind fun bt719 => ((spec_l6Rd_pick.f k s0_0 bt719.2 24).bind fun bt721 => (some (t712, wrap64 (bt719.1 + (wrap64 (Int.tdiv bt721.1 23))), decide (t716 > 0), bt721.2)))) = some (r1, r2, r3, r4) := H
 have A3 := Aside0.mk A30
 clear A30
 replace H := Option.bind_eq_some_iff.mp H
 obtain ⟨⟨t719, t720⟩, A40, H⟩ := H
 replace H : ((spec_l6Rd_pick.f k s0_0 t720 24).bind fun bt721 => (some (t712, wrap64 (t719 + (wrap64 (Int.tdiv bt721.1 23))), decide (t716 > 0), bt721.2))) = some (r1, r2, r3, r4) := H
 have A4 := Aside0.mk A40
 clear A40
 replace H := Option.bind_eq_some_iff.mp H
 obtain ⟨⟨t721, t722⟩, A50, H⟩ := H
 replace H : (some (t712, wrap64 (t719 + (wrap64 (Int.tdiv t721 23))), decide (t716 > 0), t722)) = some (r1, r2, r3, r4) := H
 have A5 := Aside0.mk A50
 clear A50
 simp only [Option.some.injEq, Prod.mk.injEq] at H
 obtain ⟨rfl, rfl, rfl, rfl⟩ := H
 go_enter Tryd.func55, Tryd.ntmps55
 go_wp2_with (first | ((with_reducible refine gate_dst (N := 2) rfl ?_); refine box_event ?hg (N := 2) ?hd (cs := #[.slice none 0 0, .int .i64 0, .bool false]) (t := 29) ?hr ?_; (case hd => rfl); (case hg => rfl); (case hr => first | (go_simp; done) | (go_simp; rfl)); intro gb711 hg w6 hbox hb; have n0_ := Aside0.mk (IsS96.below (is_HI0) hb); have n1_ := Aside0.mk (KeepBut.trans (ke_) (KeepBut.of_below hb g none) (.inl rfl)); have n2_ := Aside0.mk (below_step (bel_) hb); have n3_ := Aside0.mk (hbox); have n4_ := Aside0.mk ((by rw [hg]; exact (keep_size (w := w) (g := g) (row := none) (ke_)) : w.heap.size ≤ gb711)); have n5_ := Aside0.mk ((Nat.le_trans HW0.out (by rw [hg]; exact (keep_size (w := w) (g := g) (row := none) (ke_)) : w.heap.size ≤ gb711) : w0.heap.size ≤ gb711)); have n6_ := Aside0.mk ((by rw [hg]; exact Nat.ne_of_lt (IsS96.lt (show IsS96 w0 _ g s0_0 s0_1 from is_HI0)) : g ≠ gb711)); have n7_ := Aside0.mk ((by rw [hg]; exact Nat.ne_of_gt (IsS96.lt (show IsS96 w0 _ g s0_0 s0_1 from is_HI0)) : gb711 ≠ g)); clear HI0; clear HK; clear HB; have HI0 := n0_; have HK := n1_; have HB := n2_; have BK711 := n3_; have GW711 := n4_; have GE711 := n5_; have NB0_711 := n6_; have NB711_0 := n7_; clear n0_ n1_ n2_ n3_ n4_ n5_ n6_ n7_; clear hb hbox hg) | ((with_reducible refine gate_callee (f := 74) rfl ?_); refine gl_ 5 Tryd.func74 #[.pointer (some ⟨g, 0, none⟩)] ?_; (with_reducible refine (spec_l72Log.calls k g s0_0 s0_1 t712 t715 w0 _ ?side1 ?side2 A2.out).mono ?_); (case side1 => repeat (first | (with_reducible first | exact HI0.out | apply IsS96.alloc | apply IsS96.drewN | apply IsS96.drew | apply IsS96.set_1 | refine IsS96.far ?_ NB0_711.out _) | exact HI0.out)); (case side2 => exact bel_); rintro e w7 ⟨v713, rfl, ho0, hi, hb, hk⟩; refine ⟨_, rfl, ?_⟩; replace BK711 := Aside0.mk (KeepBut.blk hk (g' := gb711) (o := .cells #[.slice none 0 0, .int .i64 0, .bool false] 29 (0, 0)) (bp_ BK711.out) NB711_0.out (by simp)); have HO714 := Aside0.mk (Kd.R_lower ho0 (keep_size (w := w) (g := g) (row := none) (by repeat (first | (with_reducible first | exact HK.out | apply KeepBut.set_ | apply keep_drewN | apply keep_drew | apply keep_alloc | refine keep_far ?_ GW711.out _) | exact HK.out)))); replace HK := Aside0.mk (KeepBut.trans (by repeat (first | (with_reducible first | exact HK.out | apply KeepBut.set_ | apply keep_drewN | apply keep_drew | apply keep_alloc | refine keep_far ?_ GW711.out _) | exact HK.out)) hk (.inl rfl)); replace HB := Aside0.mk (hb); replace HI0 := Aside0.mk (hi); (try clear hb); (try clear hb2); (try clear hk); (try clear hi); (try clear ho0)) | ((with_reducible refine gate_callee (f := 56) rfl ?_); refine gl_ 7 Tryd.func56 #[.pointer (some ⟨g, 0, none⟩), .int .i64 8] ?_; (with_reducible refine (spec_l6Rd_pick.calls k g s0_0 t715 8 t716 t717 w0 _ ?side1 ?side2 A3.out).mono ?_); (case side1 => repeat (first | (with_reducible first | exact HI0.out | apply IsS96.alloc | apply IsS96.drewN | apply IsS96.drew | apply IsS96.set_1 | refine IsS96.far ?_ NB0_711.out _) | exact HI0.out)); (case side2 => exact bel_); rintro e w8 ⟨rfl, hi, hb, hk⟩; refine ⟨_, rfl, ?_⟩; replace BK711 := Aside0.mk (KeepBut.blk hk (g' := gb711) (o := .cells #[.slice none 0 0, .int .i64 0, .bool false] 29 (0, 0)) (bp_ BK711.out) NB711_0.out (by simp)); replace HO714 := Aside0.mk (Kd.R_mono (Kd.R_keep (IsS96.apart (show IsS96 w0 _ g s0_0 t715 from by repeat (first | (with_reducible first | exact HI0.out | apply IsS96.alloc | apply IsS96.drewN | apply IsS96.drew | apply IsS96.set_1 | refine IsS96.far ?_ NB0_711.out _) | exact HI0.out)) (rp_ HO714.out) (by decide)) hk (fun _ h => h.2)) (fun _ h => h.1)); replace HK := Aside0.mk (KeepBut.trans (by repeat (first | (with_reducible first | exact HK.out | apply KeepBut.set_ | apply keep_drewN | apply keep_drew | apply keep_alloc | refine keep_far ?_ GW711.out _) | exact HK.out)) hk (.inl rfl)); replace HB := Aside0.mk (hb); replace HI0 := Aside0.mk (hi); (try clear hb); (try clear hb2); (try clear hk); (try clear hi); obtain ⟨Ao9, co9, eo9⟩ := Kd.R_slice HO714.out; subst eo9) | ((with_reducible refine gate_dst (N := 3) rfl ?_); refine box_event ?hg (N := 3) ?hd (cs := #[.slice none 0 0, .int .i64 0, .bool false]) (t := 29) ?hr ?_; (case hd => rfl); (case hg => rfl); (case hr => first | (go_simp; done) | (go_simp; rfl)); intro gb718 hg w10 hbox hb; have n0_ := Aside0.mk (Kd.R_below (rp_ HO714.out) hb); have n1_ := Aside0.mk (IsS96.below (by repeat (first | (with_reducible first | exact HI0.out | apply IsS96.alloc | apply IsS96.drewN | apply IsS96.drew | apply IsS96.set_1 | refine IsS96.far ?_ NB0_711.out _) | exact HI0.out)) hb); have n2_ := Aside0.mk (blk_below (g := gb711) (o := .cells #[.slice none 0 0, .int .i64 0, .bool false] 29 (0, 0)) (bp_ BK711.out) hb); have n3_ := Aside0.mk (KeepBut.trans (by repeat (first | (with_reducible first | exact HK.out | apply KeepBut.set_ | apply keep_drewN | apply keep_drew | apply keep_alloc | refine keep_far ?_ GW711.out _) | exact HK.out)) (KeepBut.of_below hb g none) (.inl rfl)); have n4_ := Aside0.mk (below_step (bel_) hb); have n5_ := Aside0.mk (hbox); have n6_ := Aside0.mk ((by rw [hg]; exact (keep_size (w := w) (g := g) (row := none) (by repeat (first | (with_reducible first | exact HK.out | apply KeepBut.set_ | apply keep_drewN | apply keep_drew | apply keep_alloc | refine keep_far ?_ GW711.out _) | exact HK.out))) : w.heap.size ≤ gb718)); have n7_ := Aside0.mk ((Nat.le_trans HW0.out (by rw [hg]; exact (keep_size (w := w) (g := g) (row := none) (by repeat (first | (with_reducible first | exact HK.out | apply KeepBut.set_ | apply keep_drewN | apply keep_drew | apply keep_alloc | refine keep_far ?_ GW711.out _) | exact HK.out))) : w.heap.size ≤ gb718) : w0.heap.size ≤ gb718)); have n8_ := Aside0.mk ((by rw [hg]; exact Nat.ne_of_lt (blk_lt (g := gb711) (o := .cells #[.slice none 0 0, .int .i64 0, .bool false] 29 (0, 0)) (bp_ BK711.out)) : gb711 ≠ gb718)); have n9_ := Aside0.mk ((by rw [hg]; exact Nat.ne_of_gt (blk_lt (g := gb711) (o := .cells #[.slice none 0 0, .int .i64 0, .bool false] 29 (0, 0)) (bp_ BK711.out)) : gb718 ≠ gb711)); have n10_ := Aside0.mk ((by rw [hg]; exact Nat.ne_of_lt (IsS96.lt (show IsS96 w0 _ g s0_0 t717 from by repeat (first | (with_reducible first | exact HI0.out | apply IsS96.alloc | apply IsS96.drewN | apply IsS96.drew | apply IsS96.set_1 | refine IsS96.far ?_ NB0_711.out _) | exact HI0.out))) : g ≠ gb718)); have n11_ := Aside0.mk ((by rw [hg]; exact Nat.ne_of_gt (IsS96.lt (show IsS96 w0 _ g s0_0 t717 from by repeat (first | (with_reducible first | exact HI0.out | apply IsS96.alloc | apply IsS96.drewN | apply IsS96.drew | apply IsS96.set_1 | refine IsS96.far ?_ NB0_711.out _) | exact HI0.out))) : gb718 ≠ g)); clear HO714; clear HI0; clear BK711; clear HK; clear HB; have HO714 := n0_; have HI0 := n1_; have BK711 := n2_; have HK := n3_; have HB := n4_; have BK718 := n5_; have GW718 := n6_; have GE718 := n7_; have NB711_718 := n8_; have NB718_711 := n9_; have NB0_718 := n10_; have NB718_0 := n11_; clear n0_ n1_ n2_ n3_ n4_ n5_ n6_ n7_ n8_ n9_ n10_ n11_; clear hb hbox hg; have hnb11 := NB718_711.out; have hnc11 := NB711_718.out; have hnb12 := NB718_0.out; have hnc12 := NB0_718.out; have hcz13_0 : w10.cell? ⟨gb718, 0, none⟩ = some (.slice none 0 0) := (blk_cell BK718.out 0).trans rfl; have hcz13_1 : w10.cell? ⟨gb718, 1, none⟩ = some (.int .i64 0) := (blk_cell BK718.out 1).trans rfl; have hcz13_2 : w10.cell? ⟨gb718, 2, none⟩ = some (.bool false) := (blk_cell BK718.out 2).trans rfl; have hfz13_0 := blk_frozen BK718.out 0; have hfz13_1 := blk_frozen BK718.out 1; have hfz13_2 := blk_frozen BK718.out 2) | ((with_reducible refine gate_callee (f := 56) rfl ?_); refine gl_ 15 Tryd.func56 #[.pointer (some ⟨g, 0, none⟩), .int .i64 (wrap64 ((t712.length : Int) + 1))] ?_; (with_reducible refine (spec_l6Rd_pick.calls k g s0_0 t717 (wrap64 ((t712.length : Int) + 1)) t719 t720 w0 _ ?side1 ?side2 A4.out).mono ?_); (case side1 => repeat (first | (with_reducible first | exact HI0.out | apply IsS96.alloc | apply IsS96.drewN | apply IsS96.drew | apply IsS96.set_1 | refine IsS96.far ?_ NB0_711.out _ | refine IsS96.far ?_ NB0_718.out _) | exact HI0.out)); (case side2 => exact bel_); rintro e w14 ⟨rfl, hi, hb, hk⟩; refine ⟨_, rfl, ?_⟩; have n0_ := Aside0.mk (KeepBut.blk hk (g' := gb711) (o := .cells #[.slice none 0 0, .int .i64 0, .bool false] 29 (0, 0)) (by (with_reducible repeat (first | refine blk_drewN ?_ _ | refine blk_drew ?_ | refine blk_alloc ?_ _)); refine blk_far ?_ NB711_718.out _; (with_reducible repeat (first | refine blk_drewN ?_ _ | refine blk_drew ?_ | refine blk_alloc ?_ _)); refine blk_far ?_ NB711_718.out _; (with_reducible repeat (first | refine blk_drewN ?_ _ | refine blk_drew ?_ | refine blk_alloc ?_ _)); refine blk_far ?_ NB711_718.out _; (with_reducible repeat (first | refine blk_drewN ?_ _ | refine blk_drew ?_ | refine blk_alloc ?_ _)); exact BK711.out) NB711_0.out (by simp)); have n1_ := Aside0.mk (Kd.R_mono (Kd.R_keep (IsS96.apart (show IsS96 w0 _ g s0_0 t717 from by repeat (first | (with_reducible first | exact HI0.out | apply IsS96.alloc | apply IsS96.drewN | apply IsS96.drew | apply IsS96.set_1 | refine IsS96.far ?_ NB0_711.out _ | refine IsS96.far ?_ NB0_718.out _) | exact HI0.out)) (by (with_reducible repeat (first | apply Kd.R_alloc | apply Kd.R_drewN | apply Kd.R_drew)); exact (Kd.R_mono (Kd.R_far (p := ⟨gb718, 2, none⟩) (Kd.R_far (p := ⟨gb718, 1, none⟩) (Kd.R_far (p := ⟨gb718, 0, none⟩) (Kd.R_types HO714.out BK718.out (by decide)) (fun _ hk => hk.2) (.slice Ao9 t712.length co9)) (fun _ hk => hk.2) (.int .i64 0)) (fun _ hk => hk.2) (.bool (decide (t716 > 0)))) (fun _ h_ => h_.1))) (by decide)) hk (fun _ h => h.2)) (fun _ h => h.1)); have n2_ := Aside0.mk (KeepBut.blk hk (g' := gb718) (o := .cells #[.slice Ao9 t712.length co9, .int .i64 0, .bool (decide (t716 > 0))] 29 (0, 0)) (by (with_reducible repeat (first | refine blk_drewN ?_ _ | refine blk_drew ?_ | refine blk_alloc ?_ _)); refine blk_put (cs := #[.slice Ao9 t712.length co9, .int .i64 0, .bool false]) ?_ 2 _ rfl; (with_reducible repeat (first | refine blk_drewN ?_ _ | refine blk_drew ?_ | refine blk_alloc ?_ _)); refine blk_put (cs := #[.slice Ao9 t712.length co9, .int .i64 0, .bool false]) ?_ 1 _ rfl; (with_reducible repeat (first | refine blk_drewN ?_ _ | refine blk_drew ?_ | refine blk_alloc ?_ _)); refine blk_put (cs := #[.slice none 0 0, .int .i64 0, .bool false]) ?_ 0 _ rfl; (with_reducible repeat (first | refine blk_drewN ?_ _ | refine blk_drew ?_ | refine blk_alloc ?_ _)); exact BK718.out) NB718_0.out (by simp)); have n3_ := Aside0.mk (KeepBut.trans (by repeat (first | (with_reducible first | exact HK.out | apply KeepBut.set_ | apply keep_drewN | apply keep_drew | apply keep_alloc | refine keep_far ?_ GW711.out _ | refine keep_far ?_ GW718.out _) | exact HK.out)) hk (.inl rfl)); have n4_ := Aside0.mk (hb); have n5_ := Aside0.mk (hi); clear BK711; clear HO714; clear BK718; clear HK; clear HB; clear HI0; have BK711 := n0_; have HO714 := n1_; have BK718 := n2_; have HK := n3_; have HB := n4_; have HI0 := n5_; clear n0_ n1_ n2_ n3_ n4_ n5_; (try clear hb); (try clear hb2); (try clear hk); (try clear hi)) | ((with_reducible refine gate_callee (f := 56) rfl ?_); refine gl_ 17 Tryd.func56 #[.pointer (some ⟨g, 0, none⟩), .int .i64 24] ?_; (with_reducible refine (spec_l6Rd_pick.calls k g s0_0 t720 24 t721 t722 w0 _ ?side1 ?side2 A5.out).mono ?_); (case side1 => repeat (first | (with_reducible first | exact HI0.out | apply IsS96.alloc | apply IsS96.drewN | apply IsS96.drew | apply IsS96.set_1 | refine IsS96.far ?_ NB0_711.out _ | refine IsS96.far ?_ NB0_718.out _) | exact HI0.out)); (case side2 => exact bel_); rintro e w15 ⟨rfl, hi, hb, hk⟩; refine ⟨_, rfl, ?_⟩; replace BK711 := Aside0.mk (KeepBut.blk hk (g' := gb711) (o := .cells #[.slice none 0 0, .int .i64 0, .bool false] 29 (0, 0)) (bp_ BK711.out) NB711_0.out (by simp)); replace HO714 := Aside0.mk (Kd.R_mono (Kd.R_keep (IsS96.apart (show IsS96 w0 _ g s0_0 t720 from by repeat (first | (with_reducible first | exact HI0.out | apply IsS96.alloc | apply IsS96.drewN | apply IsS96.drew | apply IsS96.set_1 | refine IsS96.far ?_ NB0_711.out _ | refine IsS96.far ?_ NB0_718.out _) | exact HI0.out)) (rp_ HO714.out) (by decide)) hk (fun _ h => h.2)) (fun _ h => h.1)); replace BK718 := Aside0.mk (KeepBut.blk hk (g' := gb718) (o := .cells #[.slice Ao9 t712.length co9, .int .i64 0, .bool (decide (t716 > 0))] 29 (0, 0)) (bp_ BK718.out) NB718_0.out (by simp)); replace HK := Aside0.mk (KeepBut.trans (by repeat (first | (with_reducible first | exact HK.out | apply KeepBut.set_ | apply keep_drewN | apply keep_drew | apply keep_alloc | refine keep_far ?_ GW711.out _ | refine keep_far ?_ GW718.out _) | exact HK.out)) hk (.inl rfl)); replace HB := Aside0.mk (hb); replace HI0 := Aside0.mk (hi); (try clear hb); (try clear hb2); (try clear hk); (try clear hi); have hcz16_0 : w15.cell? ⟨gb718, 0, none⟩ = some (.slice Ao9 t712.length co9) := (blk_cell BK718.out 0).trans rfl; have hcz16_1 : w15.cell? ⟨gb718, 1, none⟩ = some (.int .i64 0) := (blk_cell BK718.out 1).trans rfl; have hcz16_2 : w15.cell? ⟨gb718, 2, none⟩ = some (.bool (decide (t716 > 0))) := (blk_cell BK718.out 2).trans rfl; have hfz16_0 := blk_frozen BK718.out 0; have hfz16_1 := blk_frozen BK718.out 1; have hfz16_2 := blk_frozen BK718.out 2; have hnb17 := NB711_0.out; have hnc17 := NB0_711.out; have hcz18_0 : w15.cell? ⟨gb711, 0, none⟩ = some (.slice none 0 0) := (blk_cell BK711.out 0).trans rfl; have hcz18_1 : w15.cell? ⟨gb711, 1, none⟩ = some (.int .i64 0) := (blk_cell BK711.out 1).trans rfl; have hcz18_2 : w15.cell? ⟨gb711, 2, none⟩ = some (.bool false) := (blk_cell BK711.out 2).trans rfl; have hfz18_0 := blk_frozen BK711.out 0; have hfz18_1 := blk_frozen BK711.out 1; have hfz18_2 := blk_frozen BK711.out 2))
 refine bodyPost_ret (results_cell_row rfl _ _ gb711 29 #[.slice Ao9 t712.length co9, .int .i64 (wrap64 (t719 + (wrap64 (Int.tdiv t721 23)))), .bool (decide (t716 > 0))] (0, 0) _ rfl (by (with_reducible repeat (first | refine blk_drewN ?_ _ | refine blk_drew ?_ | refine blk_alloc ?_ _)); refine blk_put (cs := #[.slice Ao9 t712.length co9, .int .i64 (wrap64 (t719 + (wrap64 (Int.tdiv t721 23)))), .bool false]) ?_ 2 _ rfl; (with_reducible repeat (first | refine blk_drewN ?_ _ | refine blk_drew ?_ | refine blk_alloc ?_ _)); refine blk_put (cs := #[.slice Ao9 t712.length co9, .int .i64 0, .bool false]) ?_ 1 _ rfl; (with_reducible repeat (first | refine blk_drewN ?_ _ | refine blk_drew ?_ | refine blk_alloc ?_ _)); refine blk_put (cs := #[.slice none 0 0, .int .i64 0, .bool false]) ?_ 0 _ rfl; (with_reducible repeat (first | refine blk_drewN ?_ _ | refine blk_drew ?_ | refine blk_alloc ?_ _)); refine blk_far ?_ NB711_718.out _; (with_reducible repeat (first | refine blk_drewN ?_ _ | refine blk_drew ?_ | refine blk_alloc ?_ _)); exact BK711.out) Tryd.underlying29 rfl (by kernel_rfl)) rfl ?_
 exact ⟨_, fi_, by (with_reducible repeat (first | apply Kd.R_alloc | apply Kd.R_drewN | apply Kd.R_drew)); exact Kd.R_mono (Kd.R_far (p := ⟨gb711, 2, none⟩) (Kd.R_far (p := ⟨gb711, 1, none⟩) (Kd.R_far (p := ⟨gb711, 0, none⟩) (Kd.R_far (p := ⟨gb718, 1, none⟩) (Kd.R_types (Kd.R_types HO714.out BK718.out (by decide)) BK711.out (by decide)) (fun _ hk => hk.1.2) (.int .i64 (wrap64 (t719 + (wrap64 (Int.tdiv t721 23)))))) (fun _ hk => hk.2) (.slice Ao9 t712.length co9)) (fun _ hk => hk.2) (.int .i64 (wrap64 (t719 + (wrap64 (Int.tdiv t721 23)))))) (fun _ hk => hk.2) (.bool (decide (t716 > 0)))) (fun _ hk => trivial), by repeat (first | (with_reducible first | exact HI0.out | apply IsS96.alloc | apply IsS96.drewN | apply IsS96.drew | apply IsS96.set_1 | refine IsS96.far ?_ NB0_711.out _ | refine IsS96.far ?_ NB0_718.out _) | exact HI0.out), bel_, by repeat (first | (with_reducible first | exact HK.out | apply KeepBut.set_ | apply keep_drewN | apply keep_drew | apply keep_alloc | refine keep_far ?_ GW711.out _ | refine keep_far ?_ GW718.out _) | exact HK.out)⟩

end Go.Proofs.YtnclcbjagleoeaaDoor.P
namespace Go.Proofs.YtnclcbjagleoeaaDoor.P
open Go.RowKit Go.Proofs.YtnclcbjagleoeaaDoorW.PrintWords Go.Proofs.YtnclcbjagleoeaaDoorW.PrintLast
set_option linter.unusedVariables false
set_option linter.unusedSimpArgs false
attribute [local go_sem high] eqA56
def laws_lpLog.l0 : Nat → List (S56) → List (S56) → Int → Option (Bool)
 | 0, _, _, _ => none
 | k + 1, x0, x1, x5 => if x5 < (x0.length : Int) then (if 0 ≤ x5 then (if x5 < (x1.length : Int) then (if (!(((rd_T56 x0 x5).f0) == ((rd_T56 x1 x5).f0)) || (!(((rd_T56 x0 x5).f1) == ((rd_T56 x1 x5).f1)) || ((!(((rd_T56 x0 x5).f2.f0) == ((rd_T56 x1 x5).f2.f0)) || (!(((rd_T56 x0 x5).f2.f1) == ((rd_T56 x1 x5).f2.f1)) || (!(((rd_T56 x0 x5).f2.f2) == ((rd_T56 x1 x5).f2.f2)) || (!(((rd_T56 x0 x5).f2.f3) == ((rd_T56 x1 x5).f2.f3)) || (!((((rd_T56 x0 x5).f2.f4).toList) == (((rd_T56 x1 x5).f2.f4).toList)))))))))) = true then (some false) else (laws_lpLog.l0 k x0 x1 (wrap64 (x5 + 1)))) else (none)) else (none)) else (some true)
def laws_lpLog.f (k : Nat) (l0 : List (S56)) (l1 : List (S56)) : Option (Bool) := if (l0.length : Int) = (l1.length : Int) then (laws_lpLog.l0 k l0 l1 0) else (some false)
theorem laws_lpLog.mono_l : ∀ k, (∀ y0 y1 y2, LeO (laws_lpLog.l0 k y0 y1 y2) (laws_lpLog.l0 (k + 1) y0 y1 y2))
 | 0 => fun _ _ _ r h => by simp [laws_lpLog.l0] at h
 | k + 1 => by
  have ih0 := laws_lpLog.mono_l k
  ·intro y0 y1 y2
   unfold laws_lpLog.l0
   repeat' first
   | (with_reducible exact ih0 _ _ _)
   | (with_reducible exact LeO.refl _)
   | (with_reducible exact LeO.none _)
   | (with_reducible refine LeO.ite ?_ ?_)
   | (with_reducible refine LeO.bind ?_ (fun _ => ?_))
   | exact ih0 _ _ _
   | exact LeO.none _
   | refine LeO.ite ?_ ?_
   | refine LeO.bind ?_ (fun _ => ?_)
theorem laws_lpLog.mono : ∀ a0 a1 k, LeO (laws_lpLog.f k a0 a1) (laws_lpLog.f (k + 1) a0 a1) := by
 intro a0 a1 k
 have ih0 := laws_lpLog.mono_l k
 unfold laws_lpLog.f
 repeat' first
   | (with_reducible exact ih0 _ _ _)
   | (with_reducible exact LeO.refl _)
   | (with_reducible exact LeO.none _)
   | (with_reducible refine LeO.ite ?_ ?_)
   | (with_reducible refine LeO.bind ?_ (fun _ => ?_))
   | exact ih0 _ _ _
   | exact LeO.none _
   | refine LeO.ite ?_ ?_
   | refine LeO.bind ?_ (fun _ => ?_)
set_option maxHeartbeats 8000000 in
set_option maxRecDepth 100000 in
theorem laws_lpLog.calls (k : Nat) (A0 : Option Addr) (c0 : Nat) (l0 : List (S56)) (A1 : Option Addr) (c1 : Nat) (l1 : List (S56)) (r : Bool) (w : World) (hr0 : Kd.C k56 w A0 l0.length l0) (hc0 : l0.length ≤ c0) (hr1 : Kd.C k56 w A1 l1.length l1) (hc1 : l1.length ≤ c1) (h : laws_lpLog.f k l0 l1 = some r) :
  Calls Tryd.prog 35 #[.slice A0 l0.length c0, .slice A1 l1.length c1] w fun e w' => e = .returned (.bool r) ∧ Drawn0 w w' := by
 have hu56 := Tryd.underlying56
 have HR0 := Aside0.mk hr0
 have HC0 := Aside0.mk hc0
 clear hr0 hc0
 have HR1 := Aside0.mk hr1
 have HC1 := Aside0.mk hc1
 clear hr1 hc1
 have H : (if (l0.length : Int) = (l1.length : Int) then (laws_lpLog.l0 k l0 l1 0) else (some false)) = some r := h
 clear h
 by_cases c3 : (l0.length : Int) = (l1.length : Int)
 ·rw [if_pos c3] at H
  have c3b0 : ((l0.length : Int) == (l1.length : Int)) = true := beq_iff_eq.mpr c3
  have c3b1 : ((l0.length : Int) != (l1.length : Int)) = false := bne_eq_false_iff_eq.mpr c3
  have c3b2 : (l0.length == l1.length) = true := by first | simpa using c3 | (simp at c3 ⊢; omega)
  clear c3
  have H' := Aside0.mk H
  clear H
  go_enter Tryd.func35, Tryd.ntmps35
  go_wp2
  repeat (go_quiet (fail); try go_wp2)
  go_loopg [5] k (fun kq v5 w' => ∃ (x5_1 : Int), v5 = .int .i64 x5_1 ∧ Aside0 (laws_lpLog.l0 kq l0 l1 x5_1 = some r) ∧ Aside0 (kq ≤ k) ∧ Drawn0 w w')
  case atStart => exact ⟨(0), (si_), H', ⟨Nat.le_refl _⟩, by repeat (first | exact Drawn0.refl _ | apply Drawn0.step)⟩
  case round =>
   clear H'
   try clear c1
   try clear p2
   try clear c3
   try clear c3b0
   try clear c3b1
   try clear c3b2
   obtain ⟨x5_1, rfl, HA, HK1, ⟨m1, rfl⟩⟩ := hrel
   cases gk with
   | zero => exact absurd HA.out (by simp [laws_lpLog.l0])
   | succ k1 =>
    have H := HA.out
    clear HA
    simp only [laws_lpLog.l0] at H
    by_cases c4 : x5_1 < (l0.length : Int)
    ·rw [if_pos c4] at H
     have c4b0 : decide (x5_1 < (l0.length : Int)) = true := decide_eq_true c4
     clear c4
     by_cases c5 : 0 ≤ x5_1
     ·rw [if_pos c5] at H
      have c5b0 : decide (0 ≤ x5_1) = true := decide_eq_true c5
      clear c5
      by_cases c6 : x5_1 < (l1.length : Int)
      ·rw [if_pos c6] at H
       have c6b0 : decide (x5_1 < (l1.length : Int)) = true := decide_eq_true c6
       clear c6
       by_cases c7 : (!(((rd_T56 l0 x5_1).f0) == ((rd_T56 l1 x5_1).f0)) || (!(((rd_T56 l0 x5_1).f1) == ((rd_T56 l1 x5_1).f1)) || ((!(((rd_T56 l0 x5_1).f2.f0) == ((rd_T56 l1 x5_1).f2.f0)) || (!(((rd_T56 l0 x5_1).f2.f1) == ((rd_T56 l1 x5_1).f2.f1)) || (!(((rd_T56 l0 x5_1).f2.f2) == ((rd_T56 l1 x5_1).f2.f2)) || (!(((rd_T56 l0 x5_1).f2.f3) == ((rd_T56 l1 x5_1).f2.f3)) || (!((((rd_T56 l0 x5_1).f2.f4).toList) == (((rd_T56 l1 x5_1).f2.f4).toList)))))))))) = true
       ·rw [if_pos c7] at H
        have c7b0 : (!(((rd_T56 l0 x5_1).f0) == ((rd_T56 l1 x5_1).f0)) || (!(((rd_T56 l0 x5_1).f1) == ((rd_T56 l1 x5_1).f1)) || ((!(((rd_T56 l0 x5_1).f2.f0) == ((rd_T56 l1 x5_1).f2.f0)) || (!(((rd_T56 l0 x5_1).f2.f1) == ((rd_T56 l1 x5_1).f2.f1)) || (!(((rd_T56 l0 x5_1).f2.f2) == ((rd_T56 l1 x5_1).f2.f2)) || (!(((rd_T56 l0 x5_1).f2.f3) == ((rd_T56 l1 x5_1).f2.f3)) || (!((((rd_T56 l0 x5_1).f2.f4).toList) == (((rd_T56 l1 x5_1).f2.f4).toList)))))))))) = true := c7
        clear c7
        obtain rfl := Option.some.inj H
        have p738 : 0 ≤ (x5_1 : Int) := od_
        have q738 : x5_1 < (l0.length : Int) := od_
        obtain ⟨ad738, e738, hx738_0, hx738_1, hx738_2, hx738_3, hx738_4, hx738_5, hx738_6⟩ := at_T56 HR0.out x5_1 p738 q738
        cases e738
        replace p738 := eq_true p738
        replace q738 := eq_true q738
        have p739 : 0 ≤ (x5_1 : Int) := od_
        have q739 : x5_1 < (l1.length : Int) := od_
        obtain ⟨ad739, e739, hx739_0, hx739_1, hx739_2, hx739_3, hx739_4, hx739_5, hx739_6⟩ := at_T56 HR1.out x5_1 p739 q739
        cases e739
        replace p739 := eq_true p739
        replace q739 := eq_true q739
        go_wp2
        repeat (go_quiet (fail); try go_wp2)
        go_ret
        exact ⟨si_, by repeat (first | exact Drawn0.refl _ | apply Drawn0.step)⟩
       ·rw [if_neg c7] at H
        have c7b0 : (!(((rd_T56 l0 x5_1).f0) == ((rd_T56 l1 x5_1).f0)) || (!(((rd_T56 l0 x5_1).f1) == ((rd_T56 l1 x5_1).f1)) || ((!(((rd_T56 l0 x5_1).f2.f0) == ((rd_T56 l1 x5_1).f2.f0)) || (!(((rd_T56 l0 x5_1).f2.f1) == ((rd_T56 l1 x5_1).f2.f1)) || (!(((rd_T56 l0 x5_1).f2.f2) == ((rd_T56 l1 x5_1).f2.f2)) || (!(((rd_T56 l0 x5_1).f2.f3) == ((rd_T56 l1 x5_1).f2.f3)) || (!((((rd_T56 l0 x5_1).f2.f4).toList) == (((rd_T56 l1 x5_1).f2.f4).toList)))))))))) = false := by simpa using c7
        clear c7
        have H' := Aside0.mk H
        clear H
        have p738 : 0 ≤ (x5_1 : Int) := od_
        have q738 : x5_1 < (l0.length : Int) := od_
        obtain ⟨ad738, e738, hx738_0, hx738_1, hx738_2, hx738_3, hx738_4, hx738_5, hx738_6⟩ := at_T56 HR0.out x5_1 p738 q738
        cases e738
        replace p738 := eq_true p738
        replace q738 := eq_true q738
        have p739 : 0 ≤ (x5_1 : Int) := od_
        have q739 : x5_1 < (l1.length : Int) := od_
        obtain ⟨ad739, e739, hx739_0, hx739_1, hx739_2, hx739_3, hx739_4, hx739_5, hx739_6⟩ := at_T56 HR1.out x5_1 p739 q739
        cases e739
        replace p739 := eq_true p739
        replace q739 := eq_true q739
        go_wp2
        repeat (go_quiet (fail); try go_wp2)
        go_roundg k1
        case measure => have := HK1.out; omega
        case rel => exact ⟨(wrap64 (x5_1 + 1)), (si_), H', ⟨by have := HK1.out; omega⟩, by repeat (first | exact Drawn0.refl _ | apply Drawn0.step)⟩
      ·rw [if_neg c6] at H
       exact absurd H (by simp)
     ·rw [if_neg c5] at H
      exact absurd H (by simp)
    ·rw [if_neg c4] at H
     have c4b0 : decide (x5_1 < (l0.length : Int)) = false := decide_eq_false c4
     clear c4
     obtain rfl := Option.some.inj H
     go_wp2
     repeat (go_quiet (fail); try go_wp2)
     go_ret
     exact ⟨si_, by repeat (first | exact Drawn0.refl _ | apply Drawn0.step)⟩
 ·rw [if_neg c3] at H
  have c3b0 : ((l0.length : Int) == (l1.length : Int)) = false := beq_eq_false_iff_ne.mpr c3
  have c3b1 : ((l0.length : Int) != (l1.length : Int)) = true := bne_iff_ne.mpr c3
  have c3b2 : (l0.length == l1.length) = false := by first | simpa using c3 | (simp at c3 ⊢; omega)
  obtain rfl := Option.some.inj H
  go_enter Tryd.func35, Tryd.ntmps35
  go_wp2
  repeat (go_quiet (fail); try go_wp2)
  go_ret
  exact ⟨si_, by repeat (first | exact Drawn0.refl _ | apply Drawn0.step)⟩

end Go.Proofs.YtnclcbjagleoeaaDoor.P
namespace Go.Proofs.YtnclcbjagleoeaaDoor.P
open Go.RowKit Go.Proofs.YtnclcbjagleoeaaDoorW.PrintWords Go.Proofs.YtnclcbjagleoeaaDoorW.PrintLast
set_option linter.unusedVariables false
set_option linter.unusedSimpArgs false
def laws_lpServer.f (k : Nat) (l0_0 : List (S56)) (a0_1 : Int) (a0_2 : Bool) (l1_0 : List (S56)) (a1_1 : Int) (a1_2 : Bool) : Option (Bool) := (laws_lpLog.f k l0_0 l1_0).bind fun t797 => (if t797 = true then (if a0_1 = a1_1 then (some (a0_2 == a1_2)) else (some false)) else (some false))
theorem laws_lpServer.mono : ∀ a0 a1 a2 a3 a4 a5 k, LeO (laws_lpServer.f k a0 a1 a2 a3 a4 a5) (laws_lpServer.f (k + 1) a0 a1 a2 a3 a4 a5) := by
 intro a0 a1 a2 a3 a4 a5 k
 unfold laws_lpServer.f
 repeat' first
   | (with_reducible exact laws_lpLog.mono _ _ _)
   | (with_reducible exact LeO.refl _)
   | (with_reducible exact LeO.none _)
   | (with_reducible refine LeO.ite ?_ ?_)
   | (with_reducible refine LeO.bind ?_ (fun _ => ?_))
   | exact laws_lpLog.mono _ _ _
   | exact LeO.none _
   | refine LeO.ite ?_ ?_
   | refine LeO.bind ?_ (fun _ => ?_)
set_option maxHeartbeats 8000000 in
set_option maxRecDepth 100000 in
theorem laws_lpServer.calls (k : Nat) (A0_0 : Option Addr) (c0_0 : Nat) (l0_0 : List (S56)) (a0_1 : Int) (a0_2 : Bool) (A1_0 : Option Addr) (c1_0 : Nat) (l1_0 : List (S56)) (a1_1 : Int) (a1_2 : Bool) (r : Bool) (w : World) (hr0_0 : Kd.C k56 w A0_0 l0_0.length l0_0) (hc0_0 : l0_0.length ≤ c0_0) (hr1_0 : Kd.C k56 w A1_0 l1_0.length l1_0) (hc1_0 : l1_0.length ≤ c1_0) (h : laws_lpServer.f k l0_0 a0_1 a0_2 l1_0 a1_1 a1_2 = some r) :
  Calls Tryd.prog 37 #[.agg #[.slice A0_0 l0_0.length c0_0, .int .i64 a0_1, .bool a0_2], .agg #[.slice A1_0 l1_0.length c1_0, .int .i64 a1_1, .bool a1_2]] w fun e w' => e = .returned (.bool r) ∧ Below w.heap.size w w' := by
 have hu29 := Tryd.underlying29
 have HR0_0 := Aside0.mk hr0_0
 have HC0_0 := Aside0.mk hc0_0
 clear hr0_0 hc0_0
 have HR1_0 := Aside0.mk hr1_0
 have HC1_0 := Aside0.mk hc1_0
 clear hr1_0 hc1_0
 have HB := Aside0.mk (Below.refl w.heap.size w)
 have H : ((laws_lpLog.f k l0_0 l1_0).bind fun t797 => (if t797 = true then (if a0_1 = a1_1 then (some (a0_2 == a1_2)) else (some false)) else (some false))) = some r := h
 clear h
 replace H := Option.bind_eq_some_iff.mp H
 obtain ⟨t797, A30, H⟩ := H
 replace H : (if t797 = true then (if a0_1 = a1_1 then (some (a0_2 == a1_2)) else (some false)) else (some false)) = some r := H
 have A3 := Aside0.mk A30
 clear A30
 by_cases c4 : t797 = true
 ·subst c4
  have H1 : (if a0_1 = a1_1 then (some (a0_2 == a1_2)) else (some false)) = some r := by rw [if_pos rfl] at H; exact H
  clear H
  have H := H1
  clear H1
  by_cases c5 : a0_1 = a1_1
  ·rw [if_pos c5] at H
   have c5b0 : (a0_1 == a1_1) = true := beq_iff_eq.mpr c5
   have c5b1 : (a0_1 != a1_1) = false := bne_eq_false_iff_eq.mpr c5
   clear c5
   obtain rfl := Option.some.inj H
   go_enter Tryd.func37, Tryd.ntmps37
   go_wp2_with (first | ((with_reducible refine gate_dst (N := 2) rfl ?_); refine box_event ?hg (N := 2) ?hd (cs := #[.slice A0_0 l0_0.length c0_0, .int .i64 a0_1, .bool a0_2]) (t := 29) ?hr ?_; (case hd => rfl); (case hg => rfl); (case hr => first | (go_simp; done) | (go_simp; rfl)); intro gb795 hg w6 hbox hb; have n0_ := Aside0.mk (below_step (bel_) hb); have n1_ := Aside0.mk (hbox); have n2_ := Aside0.mk ((by rw [hg]; exact (below_size (bel_)) : w.heap.size ≤ gb795)); have n3_ := Aside0.mk ((by rw [hg]; exact (below_size (bel_)) : w.heap.size ≤ gb795)); clear HB; have HB := n0_; have BK795 := n1_; have GW795 := n2_; have GE795 := n3_; clear n0_ n1_ n2_ n3_; clear hb hbox hg) | ((with_reducible refine gate_dst (N := 3) rfl ?_); refine box_event ?hg (N := 3) ?hd (cs := #[.slice A1_0 l1_0.length c1_0, .int .i64 a1_1, .bool a1_2]) (t := 29) ?hr ?_; (case hd => rfl); (case hg => rfl); (case hr => first | (go_simp; done) | (go_simp; rfl)); intro gb796 hg w7 hbox hb; have n0_ := Aside0.mk (blk_below (g := gb795) (o := .cells #[.slice A0_0 l0_0.length c0_0, .int .i64 a0_1, .bool a0_2] 29 (0, 0)) (bp_ BK795.out) hb); have n1_ := Aside0.mk (below_step (bel_) hb); have n2_ := Aside0.mk (hbox); have n3_ := Aside0.mk ((by rw [hg]; exact (below_size (bel_)) : w.heap.size ≤ gb796)); have n4_ := Aside0.mk ((by rw [hg]; exact (below_size (bel_)) : w.heap.size ≤ gb796)); have n5_ := Aside0.mk ((by rw [hg]; exact Nat.ne_of_lt (blk_lt (g := gb795) (o := .cells #[.slice A0_0 l0_0.length c0_0, .int .i64 a0_1, .bool a0_2] 29 (0, 0)) (bp_ BK795.out)) : gb795 ≠ gb796)); have n6_ := Aside0.mk ((by rw [hg]; exact Nat.ne_of_gt (blk_lt (g := gb795) (o := .cells #[.slice A0_0 l0_0.length c0_0, .int .i64 a0_1, .bool a0_2] 29 (0, 0)) (bp_ BK795.out)) : gb796 ≠ gb795)); clear BK795; clear HB; have BK795 := n0_; have HB := n1_; have BK796 := n2_; have GW796 := n3_; have GE796 := n4_; have NB795_796 := n5_; have NB796_795 := n6_; clear n0_ n1_ n2_ n3_ n4_ n5_ n6_; clear hb hbox hg; have hnb8 := NB795_796.out; have hnc8 := NB796_795.out; have hcz9_0 : w7.cell? ⟨gb795, 0, none⟩ = some (.slice A0_0 l0_0.length c0_0) := (blk_cell BK795.out 0).trans rfl; have hcz9_1 : w7.cell? ⟨gb795, 1, none⟩ = some (.int .i64 a0_1) := (blk_cell BK795.out 1).trans rfl; have hcz9_2 : w7.cell? ⟨gb795, 2, none⟩ = some (.bool a0_2) := (blk_cell BK795.out 2).trans rfl; have hfz9_0 := blk_frozen BK795.out 0; have hfz9_1 := blk_frozen BK795.out 1; have hfz9_2 := blk_frozen BK795.out 2; have hcz10_0 : w7.cell? ⟨gb796, 0, none⟩ = some (.slice A1_0 l1_0.length c1_0) := (blk_cell BK796.out 0).trans rfl; have hcz10_1 : w7.cell? ⟨gb796, 1, none⟩ = some (.int .i64 a1_1) := (blk_cell BK796.out 1).trans rfl; have hcz10_2 : w7.cell? ⟨gb796, 2, none⟩ = some (.bool a1_2) := (blk_cell BK796.out 2).trans rfl; have hfz10_0 := blk_frozen BK796.out 0; have hfz10_1 := blk_frozen BK796.out 1; have hfz10_2 := blk_frozen BK796.out 2) | ((with_reducible refine gate_callee (f := 35) rfl ?_); refine gl_ 9 Tryd.func35 #[.slice A0_0 l0_0.length c0_0, .slice A1_0 l1_0.length c1_0] ?_; (with_reducible refine (laws_lpLog.calls k _ _ l0_0 _ _ l1_0 true _ ?side1 ?side2 ?side3 ?side4 A3.out).mono ?_); (case side1 => exact cp_ HR0_0.out); (case side2 => exact HC0_0.out); (case side3 => repeat (first | exact (Kd.C_below HR1_0.out HB.out) | (with_reducible refine Kd.C_alloc ?_ _) | (with_reducible refine Kd.C_drewN ?_ _) | (with_reducible refine Kd.C_drew ?_))); (case side4 => exact HC1_0.out); rintro e w' ⟨rfl, ⟨nd, rfl⟩⟩; refine ⟨_, rfl, ?_⟩))
   go_ret
   exact ⟨fi_, bel_⟩
  ·rw [if_neg c5] at H
   have c5b0 : (a0_1 == a1_1) = false := beq_eq_false_iff_ne.mpr c5
   have c5b1 : (a0_1 != a1_1) = true := bne_iff_ne.mpr c5
   obtain rfl := Option.some.inj H
   go_enter Tryd.func37, Tryd.ntmps37
   go_wp2_with (first | ((with_reducible refine gate_dst (N := 2) rfl ?_); refine box_event ?hg (N := 2) ?hd (cs := #[.slice A0_0 l0_0.length c0_0, .int .i64 a0_1, .bool a0_2]) (t := 29) ?hr ?_; (case hd => rfl); (case hg => rfl); (case hr => first | (go_simp; done) | (go_simp; rfl)); intro gb795 hg w11 hbox hb; have n0_ := Aside0.mk (below_step (bel_) hb); have n1_ := Aside0.mk (hbox); have n2_ := Aside0.mk ((by rw [hg]; exact (below_size (bel_)) : w.heap.size ≤ gb795)); have n3_ := Aside0.mk ((by rw [hg]; exact (below_size (bel_)) : w.heap.size ≤ gb795)); clear HB; have HB := n0_; have BK795 := n1_; have GW795 := n2_; have GE795 := n3_; clear n0_ n1_ n2_ n3_; clear hb hbox hg) | ((with_reducible refine gate_dst (N := 3) rfl ?_); refine box_event ?hg (N := 3) ?hd (cs := #[.slice A1_0 l1_0.length c1_0, .int .i64 a1_1, .bool a1_2]) (t := 29) ?hr ?_; (case hd => rfl); (case hg => rfl); (case hr => first | (go_simp; done) | (go_simp; rfl)); intro gb796 hg w12 hbox hb; have n0_ := Aside0.mk (blk_below (g := gb795) (o := .cells #[.slice A0_0 l0_0.length c0_0, .int .i64 a0_1, .bool a0_2] 29 (0, 0)) (bp_ BK795.out) hb); have n1_ := Aside0.mk (below_step (bel_) hb); have n2_ := Aside0.mk (hbox); have n3_ := Aside0.mk ((by rw [hg]; exact (below_size (bel_)) : w.heap.size ≤ gb796)); have n4_ := Aside0.mk ((by rw [hg]; exact (below_size (bel_)) : w.heap.size ≤ gb796)); have n5_ := Aside0.mk ((by rw [hg]; exact Nat.ne_of_lt (blk_lt (g := gb795) (o := .cells #[.slice A0_0 l0_0.length c0_0, .int .i64 a0_1, .bool a0_2] 29 (0, 0)) (bp_ BK795.out)) : gb795 ≠ gb796)); have n6_ := Aside0.mk ((by rw [hg]; exact Nat.ne_of_gt (blk_lt (g := gb795) (o := .cells #[.slice A0_0 l0_0.length c0_0, .int .i64 a0_1, .bool a0_2] 29 (0, 0)) (bp_ BK795.out)) : gb796 ≠ gb795)); clear BK795; clear HB; have BK795 := n0_; have HB := n1_; have BK796 := n2_; have GW796 := n3_; have GE796 := n4_; have NB795_796 := n5_; have NB796_795 := n6_; clear n0_ n1_ n2_ n3_ n4_ n5_ n6_; clear hb hbox hg; have hnb13 := NB795_796.out; have hnc13 := NB796_795.out; have hcz14_0 : w12.cell? ⟨gb795, 0, none⟩ = some (.slice A0_0 l0_0.length c0_0) := (blk_cell BK795.out 0).trans rfl; have hcz14_1 : w12.cell? ⟨gb795, 1, none⟩ = some (.int .i64 a0_1) := (blk_cell BK795.out 1).trans rfl; have hcz14_2 : w12.cell? ⟨gb795, 2, none⟩ = some (.bool a0_2) := (blk_cell BK795.out 2).trans rfl; have hfz14_0 := blk_frozen BK795.out 0; have hfz14_1 := blk_frozen BK795.out 1; have hfz14_2 := blk_frozen BK795.out 2; have hcz15_0 : w12.cell? ⟨gb796, 0, none⟩ = some (.slice A1_0 l1_0.length c1_0) := (blk_cell BK796.out 0).trans rfl; have hcz15_1 : w12.cell? ⟨gb796, 1, none⟩ = some (.int .i64 a1_1) := (blk_cell BK796.out 1).trans rfl; have hcz15_2 : w12.cell? ⟨gb796, 2, none⟩ = some (.bool a1_2) := (blk_cell BK796.out 2).trans rfl; have hfz15_0 := blk_frozen BK796.out 0; have hfz15_1 := blk_frozen BK796.out 1; have hfz15_2 := blk_frozen BK796.out 2) | ((with_reducible refine gate_callee (f := 35) rfl ?_); refine gl_ 9 Tryd.func35 #[.slice A0_0 l0_0.length c0_0, .slice A1_0 l1_0.length c1_0] ?_; (with_reducible refine (laws_lpLog.calls k _ _ l0_0 _ _ l1_0 true _ ?side1 ?side2 ?side3 ?side4 A3.out).mono ?_); (case side1 => exact cp_ HR0_0.out); (case side2 => exact HC0_0.out); (case side3 => repeat (first | exact (Kd.C_below HR1_0.out HB.out) | (with_reducible refine Kd.C_alloc ?_ _) | (with_reducible refine Kd.C_drewN ?_ _) | (with_reducible refine Kd.C_drew ?_))); (case side4 => exact HC1_0.out); rintro e w' ⟨rfl, ⟨nd, rfl⟩⟩; refine ⟨_, rfl, ?_⟩))
   go_ret
   exact ⟨fi_, bel_⟩
 ·replace c4 := Bool.eq_false_iff.mpr c4
  subst c4
  have H1 : (some false) = some r := by rw [if_neg (show ¬ (false = true) by decide)] at H; exact H
  clear H
  have H := H1
  clear H1
  obtain rfl := Option.some.inj H
  go_enter Tryd.func37, Tryd.ntmps37
  go_wp2_with (first | ((with_reducible refine gate_dst (N := 2) rfl ?_); refine box_event ?hg (N := 2) ?hd (cs := #[.slice A0_0 l0_0.length c0_0, .int .i64 a0_1, .bool a0_2]) (t := 29) ?hr ?_; (case hd => rfl); (case hg => rfl); (case hr => first | (go_simp; done) | (go_simp; rfl)); intro gb795 hg w16 hbox hb; have n0_ := Aside0.mk (below_step (bel_) hb); have n1_ := Aside0.mk (hbox); have n2_ := Aside0.mk ((by rw [hg]; exact (below_size (bel_)) : w.heap.size ≤ gb795)); have n3_ := Aside0.mk ((by rw [hg]; exact (below_size (bel_)) : w.heap.size ≤ gb795)); clear HB; have HB := n0_; have BK795 := n1_; have GW795 := n2_; have GE795 := n3_; clear n0_ n1_ n2_ n3_; clear hb hbox hg) | ((with_reducible refine gate_dst (N := 3) rfl ?_); refine box_event ?hg (N := 3) ?hd (cs := #[.slice A1_0 l1_0.length c1_0, .int .i64 a1_1, .bool a1_2]) (t := 29) ?hr ?_; (case hd => rfl); (case hg => rfl); (case hr => first | (go_simp; done) | (go_simp; rfl)); intro gb796 hg w17 hbox hb; have n0_ := Aside0.mk (blk_below (g := gb795) (o := .cells #[.slice A0_0 l0_0.length c0_0, .int .i64 a0_1, .bool a0_2] 29 (0, 0)) (bp_ BK795.out) hb); have n1_ := Aside0.mk (below_step (bel_) hb); have n2_ := Aside0.mk (hbox); have n3_ := Aside0.mk ((by rw [hg]; exact (below_size (bel_)) : w.heap.size ≤ gb796)); have n4_ := Aside0.mk ((by rw [hg]; exact (below_size (bel_)) : w.heap.size ≤ gb796)); have n5_ := Aside0.mk ((by rw [hg]; exact Nat.ne_of_lt (blk_lt (g := gb795) (o := .cells #[.slice A0_0 l0_0.length c0_0, .int .i64 a0_1, .bool a0_2] 29 (0, 0)) (bp_ BK795.out)) : gb795 ≠ gb796)); have n6_ := Aside0.mk ((by rw [hg]; exact Nat.ne_of_gt (blk_lt (g := gb795) (o := .cells #[.slice A0_0 l0_0.length c0_0, .int .i64 a0_1, .bool a0_2] 29 (0, 0)) (bp_ BK795.out)) : gb796 ≠ gb795)); clear BK795; clear HB; have BK795 := n0_; have HB := n1_; have BK796 := n2_; have GW796 := n3_; have GE796 := n4_; have NB795_796 := n5_; have NB796_795 := n6_; clear n0_ n1_ n2_ n3_ n4_ n5_ n6_; clear hb hbox hg; have hnb18 := NB795_796.out; have hnc18 := NB796_795.out; have hcz19_0 : w17.cell? ⟨gb795, 0, none⟩ = some (.slice A0_0 l0_0.length c0_0) := (blk_cell BK795.out 0).trans rfl; have hcz19_1 : w17.cell? ⟨gb795, 1, none⟩ = some (.int .i64 a0_1) := (blk_cell BK795.out 1).trans rfl; have hcz19_2 : w17.cell? ⟨gb795, 2, none⟩ = some (.bool a0_2) := (blk_cell BK795.out 2).trans rfl; have hfz19_0 := blk_frozen BK795.out 0; have hfz19_1 := blk_frozen BK795.out 1; have hfz19_2 := blk_frozen BK795.out 2; have hcz20_0 : w17.cell? ⟨gb796, 0, none⟩ = some (.slice A1_0 l1_0.length c1_0) := (blk_cell BK796.out 0).trans rfl; have hcz20_1 : w17.cell? ⟨gb796, 1, none⟩ = some (.int .i64 a1_1) := (blk_cell BK796.out 1).trans rfl; have hcz20_2 : w17.cell? ⟨gb796, 2, none⟩ = some (.bool a1_2) := (blk_cell BK796.out 2).trans rfl; have hfz20_0 := blk_frozen BK796.out 0; have hfz20_1 := blk_frozen BK796.out 1; have hfz20_2 := blk_frozen BK796.out 2) | ((with_reducible refine gate_callee (f := 35) rfl ?_); refine gl_ 9 Tryd.func35 #[.slice A0_0 l0_0.length c0_0, .slice A1_0 l1_0.length c1_0] ?_; (with_reducible refine (laws_lpLog.calls k _ _ l0_0 _ _ l1_0 false _ ?side1 ?side2 ?side3 ?side4 A3.out).mono ?_); (case side1 => exact cp_ HR0_0.out); (case side2 => exact HC0_0.out); (case side3 => repeat (first | exact (Kd.C_below HR1_0.out HB.out) | (with_reducible refine Kd.C_alloc ?_ _) | (with_reducible refine Kd.C_drewN ?_ _) | (with_reducible refine Kd.C_drew ?_))); (case side4 => exact HC1_0.out); rintro e w' ⟨rfl, ⟨nd, rfl⟩⟩; refine ⟨_, rfl, ?_⟩))
  go_ret
  exact ⟨fi_, bel_⟩

end Go.Proofs.YtnclcbjagleoeaaDoor.P
namespace Go.Proofs.YtnclcbjagleoeaaDoor.P
open Go.RowKit Go.Proofs.YtnclcbjagleoeaaDoorW.PrintWords Go.Proofs.YtnclcbjagleoeaaDoorW.PrintLast
set_option linter.unusedVariables false
set_option linter.unusedSimpArgs false
def spec_DrawServerSync.f (k : Nat) (l0 : List Int) : Option ((List (S56)) × Int × Bool) := (spec_l6Open.f l0).bind fun bt871 => ((spec_l72Server.f k bt871.1 bt871.2).bind fun bt874 => (some (bt874.1, bt874.2.1, bt874.2.2.1)))
theorem spec_DrawServerSync.mono : ∀ a0 k, LeO (spec_DrawServerSync.f k a0) (spec_DrawServerSync.f (k + 1) a0) := by
 intro a0 k
 unfold spec_DrawServerSync.f
 repeat' first
   | (with_reducible exact spec_l72Server.mono _ _ _)
   | (with_reducible exact LeO.refl _)
   | (with_reducible exact LeO.none _)
   | (with_reducible refine LeO.ite ?_ ?_)
   | (with_reducible refine LeO.bind ?_ (fun _ => ?_))
   | exact spec_l72Server.mono _ _ _
   | exact LeO.none _
   | refine LeO.ite ?_ ?_
   | refine LeO.bind ?_ (fun _ => ?_)
set_option maxHeartbeats 8000000 in
set_option maxRecDepth 100000 in
theorem spec_DrawServerSync.calls (k : Nat) (A0 : Option Addr) (c0 : Nat) (l0 : List Int) (r1 : List (S56)) (r2 : Int) (r3 : Bool) (w : World) (hr0 : Kd.C (Kd.int .u8) w A0 l0.length l0) (hc0 : l0.length ≤ c0) (h : spec_DrawServerSync.f k l0 = some (r1, r2, r3)) :
  Calls Tryd.prog 39 #[.slice A0 l0.length c0] w fun e w' => ∃ v0_ : Value, e = .returned (.agg #[v0_, .int .i64 r2, .bool r3]) ∧ Kd.R k56 56 w' w.heap.size (fun _ => True) v0_ r1 ∧ Below w.heap.size w w' := by
 have hu29 := Tryd.underlying29
 have HR0 := Aside0.mk hr0
 have HC0 := Aside0.mk hc0
 clear hr0 hc0
 have HB := Aside0.mk (Below.refl w.heap.size w)
 have H : ((spec_l6Open.f l0).bind fun bt871 => ((spec_l72Server.f k bt871.1 bt871.2).bind fun bt874 => (some (bt874.1, bt874.2.1, bt874.2.2.1)))) = some (r1, r2, r3) := h
 clear h
 replace H := Option.bind_eq_some_iff.mp H
 obtain ⟨⟨t871, t872⟩, A20, H⟩ := H
 replace H : ((spec_l72Server.f k t871 t872).bind fun bt874 => (some (bt874.1, bt874.2.1, bt874.2.2.1))) = some (r1, r2, r3) := H
 have A2 := Aside0.mk A20
 clear A20
 replace H := Option.bind_eq_some_iff.mp H
 obtain ⟨⟨t874, t877, t878, t879⟩, A30, H⟩ := H
 replace H : (some (t874, t877, t878)) = some (r1, r2, r3) := H
 have A3 := Aside0.mk A30
 clear A30
 simp only [Option.some.injEq, Prod.mk.injEq] at H
 obtain ⟨rfl, rfl, rfl⟩ := H
 go_enter Tryd.func39, Tryd.ntmps39
 go_wp2_with (first | ((with_reducible refine gate_dst (N := 2) rfl ?_); refine box_event ?hg (N := 2) ?hd (cs := #[.slice none 0 0, .int .i64 0, .bool false]) (t := 29) ?hr ?_; (case hd => rfl); (case hg => rfl); (case hr => first | (go_simp; done) | (go_simp; rfl)); intro gb870 hg w4 hbox hb; have n0_ := Aside0.mk (below_step (bel_) hb); have n1_ := Aside0.mk (hbox); have n2_ := Aside0.mk ((by rw [hg]; exact (below_size (bel_)) : w.heap.size ≤ gb870)); have n3_ := Aside0.mk ((by rw [hg]; exact (below_size (bel_)) : w.heap.size ≤ gb870)); clear HB; have HB := n0_; have BK870 := n1_; have GW870 := n2_; have GE870 := n3_; clear n0_ n1_ n2_ n3_; clear hb hbox hg) | ((with_reducible refine gate_callee (f := 54) rfl ?_); refine gl_ 4 Tryd.func54 #[.slice A0 l0.length c0] ?_; (with_reducible refine (spec_l6Open.calls _ _ l0 t871 t872 w _ ?side1 ?side2 ?side3 A2.out).mono ?_); (case side1 => exact bel_); (case side2 => exact HR0.out); (case side3 => exact HC0.out); rintro e w5 ⟨g873, rfl, hi, hb, hb2⟩; refine ⟨_, rfl, ?_⟩; replace HB := Aside0.mk (hb); have HI873 := Aside0.mk (hi); have NB873_870 := Aside0.mk (IsS96.ne_blk hi (blk_below (g := gb870) (o := .cells #[.slice none 0 0, .int .i64 0, .bool false] 29 (0, 0)) (bp_ BK870.out) hb2) (by decide)); have NB870_873 := Aside0.mk (Ne.symm (IsS96.ne_blk hi (blk_below (g := gb870) (o := .cells #[.slice none 0 0, .int .i64 0, .bool false] 29 (0, 0)) (bp_ BK870.out) hb2) (by decide))); replace BK870 := Aside0.mk (blk_below (g := gb870) (o := .cells #[.slice none 0 0, .int .i64 0, .bool false] 29 (0, 0)) (bp_ BK870.out) hb2); (try clear hb); (try clear hb2); (try clear hk); (try clear hi)) | ((with_reducible refine gate_callee (f := 55) rfl ?_); refine gl_ 5 Tryd.func55 #[.pointer (some ⟨g873, 0, none⟩)] ?_; (with_reducible refine (spec_l72Server.calls k g873 t871 t872 t874 t877 t878 t879 w _ ?side1 ?side2 A3.out).mono ?_); (case side1 => repeat (first | (with_reducible first | exact HI873.out | apply IsS96.alloc | apply IsS96.drewN | apply IsS96.drew | apply IsS96.set_1 | refine IsS96.far ?_ NB873_870.out _) | exact HI873.out)); (case side2 => exact bel_); rintro e w6 ⟨v875, rfl, ho0, hi, hb, hk⟩; refine ⟨_, rfl, ?_⟩; have HO876 := Aside0.mk (Kd.R_lower ho0 (below_size (bel_))); replace BK870 := Aside0.mk (KeepBut.blk hk (g' := gb870) (o := .cells #[.slice none 0 0, .int .i64 0, .bool false] 29 (0, 0)) (bp_ BK870.out) NB870_873.out (by simp)); replace HB := Aside0.mk (hb); replace HI873 := Aside0.mk (hi); (try clear hb); (try clear hb2); (try clear hk); (try clear hi); (try clear ho0); obtain ⟨Ao7, co7, eo7⟩ := Kd.R_slice HO876.out; subst eo7; have hnb8 := NB870_873.out; have hnc8 := NB873_870.out; have hcz9_0 : w6.cell? ⟨gb870, 0, none⟩ = some (.slice none 0 0) := (blk_cell BK870.out 0).trans rfl; have hcz9_1 : w6.cell? ⟨gb870, 1, none⟩ = some (.int .i64 0) := (blk_cell BK870.out 1).trans rfl; have hcz9_2 : w6.cell? ⟨gb870, 2, none⟩ = some (.bool false) := (blk_cell BK870.out 2).trans rfl; have hfz9_0 := blk_frozen BK870.out 0; have hfz9_1 := blk_frozen BK870.out 1; have hfz9_2 := blk_frozen BK870.out 2))
 refine bodyPost_ret (results_cell_row rfl _ _ gb870 29 #[.slice Ao7 t874.length co7, .int .i64 t877, .bool t878] (0, 0) _ rfl (by (with_reducible repeat (first | refine blk_drewN ?_ _ | refine blk_drew ?_ | refine blk_alloc ?_ _)); refine blk_put (cs := #[.slice Ao7 t874.length co7, .int .i64 t877, .bool false]) ?_ 2 _ rfl; (with_reducible repeat (first | refine blk_drewN ?_ _ | refine blk_drew ?_ | refine blk_alloc ?_ _)); refine blk_put (cs := #[.slice Ao7 t874.length co7, .int .i64 0, .bool false]) ?_ 1 _ rfl; (with_reducible repeat (first | refine blk_drewN ?_ _ | refine blk_drew ?_ | refine blk_alloc ?_ _)); refine blk_put (cs := #[.slice none 0 0, .int .i64 0, .bool false]) ?_ 0 _ rfl; (with_reducible repeat (first | refine blk_drewN ?_ _ | refine blk_drew ?_ | refine blk_alloc ?_ _)); exact BK870.out) Tryd.underlying29 rfl (by kernel_rfl)) rfl ?_
 exact ⟨_, fi_, by (with_reducible repeat (first | apply Kd.R_alloc | apply Kd.R_drewN | apply Kd.R_drew)); exact Kd.R_mono (Kd.R_far (p := ⟨gb870, 2, none⟩) (Kd.R_far (p := ⟨gb870, 1, none⟩) (Kd.R_far (p := ⟨gb870, 0, none⟩) (Kd.R_types HO876.out BK870.out (by decide)) (fun _ hk => hk.2) (.slice Ao7 t874.length co7)) (fun _ hk => hk.2) (.int .i64 t877)) (fun _ hk => hk.2) (.bool t878)) (fun _ hk => trivial), bel_⟩

end Go.Proofs.YtnclcbjagleoeaaDoor.P
namespace Go.Proofs.YtnclcbjagleoeaaDoor.P
open Go.RowKit Go.Proofs.YtnclcbjagleoeaaDoorW.PrintWords Go.Proofs.YtnclcbjagleoeaaDoorW.PrintLast
set_option linter.unusedVariables false
set_option linter.unusedSimpArgs false
attribute [local go_sem high] eqA56
def laws_FnSyncNews.f (k : Nat) (l0 : List Int) : Option (Bool) := if (l0.length : Int) > 1048576 then (some true) else ((spec_DrawServerSync.f k l0).bind fun bt910 => ((spec_ServerSync.f k bt910.1 bt910.2.1 bt910.2.2).bind fun bt916 => ((impl_ServerSync.f k bt910.1 bt910.2.1 bt910.2.2).bind fun bt923 => (if (bt923.2.2.2 != bt916.2.2.2) = true then (none) else ((laws_lpServer.f k bt923.1 bt923.2.1 bt923.2.2.1 bt916.1 bt916.2.1 bt916.2.2.1).bind fun t930 => (if t930 = true then (if bt923.2.2.2 = true then ((impl_ServerNews.f k bt923.1 bt923.2.1 bt923.2.2.1 0).bind fun t932 => ((laws_lpLog.f k t932 bt910.1).bind fun t935 => (if t935 = true then ((impl_ServerFall.f k bt923.1 bt923.2.1 bt923.2.2.1 0).bind fun bt936 => ((impl_ServerNews.f k bt936.1 bt936.2.1 bt936.2.2 0).bind fun t941 => ((laws_lpLog.f k t941 bt910.1).bind fun t944 => (if t944 = true then ((impl_ServerNews.f k bt923.1 bt923.2.1 bt923.2.2.1 bt923.2.1).bind fun t945 => (some ((t945.length : Int) == 0))) else (none))))) else (none)))) else (if (bt923.2.2.2 == bt916.2.2.2) = true then ((laws_lpServer.f k bt923.1 bt923.2.1 bt923.2.2.1 bt916.1 bt916.2.1 bt916.2.2.1).bind fun t931 => (some t931)) else (none))) else (none)))))))
theorem laws_FnSyncNews.mono : ∀ a0 k, LeO (laws_FnSyncNews.f k a0) (laws_FnSyncNews.f (k + 1) a0) := by
 intro a0 k
 unfold laws_FnSyncNews.f
 repeat' first
   | (with_reducible exact impl_ServerFall.mono _ _ _ _ _)
   | (with_reducible exact impl_ServerNews.mono _ _ _ _ _)
   | (with_reducible exact impl_ServerSync.mono _ _ _ _)
   | (with_reducible exact laws_lpLog.mono _ _ _)
   | (with_reducible exact laws_lpServer.mono _ _ _ _ _ _ _)
   | (with_reducible exact spec_DrawServerSync.mono _ _)
   | (with_reducible exact spec_ServerSync.mono _ _ _ _)
   | (with_reducible exact LeO.refl _)
   | (with_reducible exact LeO.none _)
   | (with_reducible refine LeO.ite ?_ ?_)
   | (with_reducible refine LeO.bind ?_ (fun _ => ?_))
   | exact impl_ServerFall.mono _ _ _ _ _
   | exact impl_ServerNews.mono _ _ _ _ _
   | exact impl_ServerSync.mono _ _ _ _
   | exact laws_lpLog.mono _ _ _
   | exact laws_lpServer.mono _ _ _ _ _ _ _
   | exact spec_DrawServerSync.mono _ _
   | exact spec_ServerSync.mono _ _ _ _
   | exact LeO.none _
   | refine LeO.ite ?_ ?_
   | refine LeO.bind ?_ (fun _ => ?_)
def laws_FnSyncNews.T8 : Bool × List (List Nat × List Nat) := (true, [([], []), ([0], [0]), ([], []), ([2], [2]), ([1, 3, 1], [1, 3]), ([4, 4], [4]), ([5], [5]), ([6, 5, 5], [5, 6]), ([7, 7, 5], [5, 7]), ([5], [5]), ([9, 5], [5, 9]), ([8, 10, 8, 5], [5, 8, 10]), ([5, 11], [5, 11]), ([12, 11], [12]), ([13], [13]), ([13], [13]), ([15, 13], [13, 15]), ([14, 16, 13, 13], [13, 14, 16]), ([17, 13], [13, 17]), ([18, 13], [13, 18]), ([13, 19], [13, 19]), ([20, 17, 0, 1, 2, 3, 4, 5, 6, 7, 8, 9, 10, 11, 12, 13, 14, 15, 16, 17, 18, 19, 20], [20])])
def laws_FnSyncNews.B8 : List Nat := [0, 1, 0, 4, 15, 31, 63, 127, 255, 63, 575, 2047, 4095, 8191, 16383, 16383, 49151, 131071, 262143, 524287, 1048575, 2097151]
theorem laws_FnSyncNews.tab8 : rtab .any (opsOf Tryd.f11 8) = laws_FnSyncNews.T8 := by kernel_rfl
theorem laws_FnSyncNews.bits8 : waitsOk laws_FnSyncNews.T8.2 laws_FnSyncNews.B8 = true := by kernel_rfl
end Go.Proofs.YtnclcbjagleoeaaDoor.P
