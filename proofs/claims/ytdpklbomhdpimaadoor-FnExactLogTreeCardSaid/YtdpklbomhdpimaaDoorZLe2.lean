/- Joined by a program (wip/shake.py): the declarations that 'YtdpklbomhdpimaaDoorCardFnExactLogTree' reaches. -/
import Derived.Test.YtdpklbomhdpimaaDoorZLe1
set_option linter.unusedVariables false
set_option linter.unusedSimpArgs false
set_option linter.unusedSectionVars false
namespace Go.Proofs.YtdpklbomhdpimaaDoor.P
open Go.RowKit Go.Proofs.YtdpklbomhdpimaaDoorW.PrintWords Go.Proofs.YtdpklbomhdpimaaDoorW.PrintLast
set_option maxHeartbeats 8000000 in
set_option maxRecDepth 100000 in
theorem spec_LogOk.calls (k : Nat) (A0 : Option Addr) (c0 : Nat) (l0 : List (S44)) (r : Bool) (w : World) (hr0 : Kd.C k44 w A0 l0.length l0) (hc0 : l0.length ≤ c0) (h : spec_LogOk.f k l0 = some r) :
  Calls Tryd.prog 43 #[.slice A0 l0.length c0] w fun e w' => e = .returned (.bool r) ∧ Below w.heap.size w w' := by
 have hu44 := Tryd.underlying44
 have HR0 := Aside0.mk hr0
 have HC0 := Aside0.mk hc0
 clear hr0 hc0
 have HB := Aside0.mk (Below.refl w.heap.size w)
 unfold spec_LogOk.f at h
 have H := h
 clear h
 have H' := Aside0.mk H
 clear H
 go_enter Tryd.func43, Tryd.ntmps43
 go_wp2
 go_loopg [3] k (fun kq v3 w' => ∃ (x3_1 : Int), v3 = .int .i64 x3_1 ∧ Aside0 (spec_LogOk.l0 kq l0 x3_1 = some r) ∧ Aside0 (kq ≤ k) ∧ Aside0 (Below w.heap.size w w'))
 case atStart => exact ⟨(0), (si_), H', ⟨Nat.le_refl _⟩, ⟨bel_⟩⟩
 case round =>
  clear H'
  obtain ⟨x3_1, rfl, HA, HK1, HB⟩ := hrel
  cases gk with
  | zero => exact absurd HA.out (by simp [spec_LogOk.l0])
  | succ k1 =>
   have H := HA.out
   clear HA
   simp only [spec_LogOk.l0] at H
   by_cases c2 : x3_1 < (l0.length : Int)
   ·rw [if_pos c2] at H
    have c2b0 : decide (x3_1 < (l0.length : Int)) = true := decide_eq_true c2
    clear c2
    by_cases c3 : 0 ≤ x3_1
    ·rw [if_pos c3] at H
     have c3b0 : decide (0 ≤ x3_1) = true := decide_eq_true c3
     clear c3
     replace H := Option.bind_eq_some_iff.mp H
     obtain ⟨t426, A40, H⟩ := H
     try dsimp only at H
     have A4 := Aside0.mk A40
     clear A40
     by_cases c5 : t426 = true
     ·subst c5
      have H1 : (if x3_1 ≤ (l0.length : Int) then ((spec_l12Seq.f k1 (l0.take (x3_1 : Int).toNat) ((rd_T44 l0 x3_1).f0)).bind fun t433 => (if ((rd_T44 l0 x3_1).f1) = (wrap64 (t433 + 1)) then (spec_LogOk.l0 k1 l0 (wrap64 (x3_1 + 1))) else (some false))) else (none)) = some r := by rw [if_pos rfl] at H; exact H
      clear H
      have H := H1
      clear H1
      have c6b0 := eq_true (od_ : 0 ≤ x3_1)
      by_cases c7 : x3_1 ≤ (l0.length : Int)
      ·rw [if_pos c7] at H
       have c7b0 := eq_true c7
       have c7b1 : decide (x3_1 ≤ (l0.length : Int)) = true := decide_eq_true c7
       clear c7
       obtain ⟨y428, hy428⟩ : ∃ y_ : List (S44), y_ = (l0.take (x3_1 : Int).toNat) := ⟨_, rfl⟩
       replace H : ((spec_l12Seq.f k1 y428 ((rd_T44 l0 x3_1).f0)).bind fun t433 => (if ((rd_T44 l0 x3_1).f1) = (wrap64 (t433 + 1)) then (spec_LogOk.l0 k1 l0 (wrap64 (x3_1 + 1))) else (some false))) = some r := by first | (rw [hy428]; with_reducible exact H) | (have H2_ := (Option.bind_some _ _).symm.trans H; rw [hy428]; with_reducible exact H2_) | (have H2_ := (Option.bind_some _ _).symm.trans H; with_reducible exact H2_) | with_reducible exact H | (rw [hy428]; exact H) | exact H
       have Ny428 := Aside0.mk hy428
       clear hy428
       replace H := Option.bind_eq_some_iff.mp H
       obtain ⟨t433, A80, H⟩ := H
       try dsimp only at H
       have A8 := Aside0.mk A80
       clear A80
       by_cases c9 : ((rd_T44 l0 x3_1).f1) = (wrap64 (t433 + 1))
       ·rw [if_pos c9] at H
        have c9b0 : (((rd_T44 l0 x3_1).f1) == (wrap64 (t433 + 1))) = true := beq_iff_eq.mpr c9
        have c9b1 : (((rd_T44 l0 x3_1).f1) != (wrap64 (t433 + 1))) = false := bne_eq_false_iff_eq.mpr c9
        clear c9
        have H' := Aside0.mk H
        clear H
        try go_wp2
        have n0_ := Aside0.mk (below_drew1 HB.out)
        clear HB
        have HB := n0_
        clear n0_
        have p425 : 0 ≤ (x3_1 : Int) := od_
        have q425 : x3_1 < (l0.length : Int) := od_
        obtain ⟨ad425, e425, hx425_0, hx425_1, hx425_2, hx425_3, hx425_4, hx425_5, hx425_6⟩ := at_T44 HR0.out x3_1 p425 q425
        have hw425_6 := hx425_6
        have hw425_5 := hx425_5
        have hw425_4 := hx425_4
        have hw425_3 := hx425_3
        have hw425_2 := hx425_2
        have hw425_1 := hx425_1
        have hw425_0 := hx425_0
        cases e425
        replace hx425_0 := (cb_ HB.out hx425_0 :)
        replace hx425_1 := (cb_ HB.out hx425_1 :)
        replace hx425_2 := (cb_ HB.out hx425_2 :)
        replace hx425_3 := (cb_ HB.out hx425_3 :)
        replace hx425_4 := (cb_ HB.out hx425_4 :)
        replace hx425_5 := (cb_ HB.out hx425_5 :)
        replace hx425_6 := (cb_ HB.out hx425_6 :)
        replace p425 := eq_true p425
        replace q425 := eq_true q425
        have p427 : 0 ≤ (x3_1 : Int) := od_
        have q427 : x3_1 < (l0.length : Int) := od_
        obtain ⟨ad427, e427, hx427_0, hx427_1, hx427_2, hx427_3, hx427_4, hx427_5, hx427_6⟩ := at_T44 HR0.out x3_1 p427 q427
        have hw427_6 := hx427_6
        have hw427_5 := hx427_5
        have hw427_4 := hx427_4
        have hw427_3 := hx427_3
        have hw427_2 := hx427_2
        have hw427_1 := hx427_1
        have hw427_0 := hx427_0
        obtain rfl : ad425 = ad427 := (by injection e427)
        replace hx427_0 := (cb_ HB.out hx427_0 :)
        replace hx427_1 := (cb_ HB.out hx427_1 :)
        replace hx427_2 := (cb_ HB.out hx427_2 :)
        replace hx427_3 := (cb_ HB.out hx427_3 :)
        replace hx427_4 := (cb_ HB.out hx427_4 :)
        replace hx427_5 := (cb_ HB.out hx427_5 :)
        replace hx427_6 := (cb_ HB.out hx427_6 :)
        replace p427 := eq_true p427
        replace q427 := eq_true q427
        have p432 : 0 ≤ (x3_1 : Int) := od_
        have q432 : x3_1 < (l0.length : Int) := od_
        obtain ⟨ad432, e432, hx432_0, hx432_1, hx432_2, hx432_3, hx432_4, hx432_5, hx432_6⟩ := at_T44 HR0.out x3_1 p432 q432
        have hw432_6 := hx432_6
        have hw432_5 := hx432_5
        have hw432_4 := hx432_4
        have hw432_3 := hx432_3
        have hw432_2 := hx432_2
        have hw432_1 := hx432_1
        have hw432_0 := hx432_0
        obtain rfl : ad425 = ad432 := (by injection e432)
        replace hx432_0 := (cb_ HB.out hx432_0 :)
        replace hx432_1 := (cb_ HB.out hx432_1 :)
        replace hx432_2 := (cb_ HB.out hx432_2 :)
        replace hx432_3 := (cb_ HB.out hx432_3 :)
        replace hx432_4 := (cb_ HB.out hx432_4 :)
        replace hx432_5 := (cb_ HB.out hx432_5 :)
        replace hx432_6 := (cb_ HB.out hx432_6 :)
        replace p432 := eq_true p432
        replace q432 := eq_true q432
        refine start_ (n := 24) (S := fun w' => w'.cell? (ad425.add ((x3_1).toNat * 7)) = some (.int .i64 ((rd_T44 l0 x3_1).f0)) ∧ w'.cell? ⟨(ad425.add ((x3_1).toNat * 7)).block, (ad425.add ((x3_1).toNat * 7)).off + 1, none⟩ = some (.int .i64 ((rd_T44 l0 x3_1).f1)) ∧ w'.cell? ⟨(ad425.add ((x3_1).toNat * 7)).block, (ad425.add ((x3_1).toNat * 7)).off + 2, none⟩ = some (.int .i64 ((rd_T44 l0 x3_1).f2.f0)) ∧ w'.cell? ⟨(ad425.add ((x3_1).toNat * 7)).block, (ad425.add ((x3_1).toNat * 7)).off + 3, none⟩ = some (.int .i64 ((rd_T44 l0 x3_1).f2.f1)) ∧ w'.cell? ⟨(ad425.add ((x3_1).toNat * 7)).block, (ad425.add ((x3_1).toNat * 7)).off + 4, none⟩ = some (.int .i64 ((rd_T44 l0 x3_1).f2.f2)) ∧ w'.cell? ⟨(ad425.add ((x3_1).toNat * 7)).block, (ad425.add ((x3_1).toNat * 7)).off + 5, none⟩ = some (.int .i64 ((rd_T44 l0 x3_1).f2.f3)) ∧ w'.cell? ⟨(ad425.add ((x3_1).toNat * 7)).block, (ad425.add ((x3_1).toNat * 7)).off + 6, none⟩ = some (.string ((rd_T44 l0 x3_1).f2.f4)) ∧ w'.cell? (ad425.add ((x3_1).toNat * 7)) = some (.int .i64 ((rd_T44 l0 x3_1).f0)) ∧ w'.cell? ⟨(ad425.add ((x3_1).toNat * 7)).block, (ad425.add ((x3_1).toNat * 7)).off + 1, none⟩ = some (.int .i64 ((rd_T44 l0 x3_1).f1)) ∧ w'.cell? ⟨(ad425.add ((x3_1).toNat * 7)).block, (ad425.add ((x3_1).toNat * 7)).off + 2, none⟩ = some (.int .i64 ((rd_T44 l0 x3_1).f2.f0)) ∧ w'.cell? ⟨(ad425.add ((x3_1).toNat * 7)).block, (ad425.add ((x3_1).toNat * 7)).off + 3, none⟩ = some (.int .i64 ((rd_T44 l0 x3_1).f2.f1)) ∧ w'.cell? ⟨(ad425.add ((x3_1).toNat * 7)).block, (ad425.add ((x3_1).toNat * 7)).off + 4, none⟩ = some (.int .i64 ((rd_T44 l0 x3_1).f2.f2)) ∧ w'.cell? ⟨(ad425.add ((x3_1).toNat * 7)).block, (ad425.add ((x3_1).toNat * 7)).off + 5, none⟩ = some (.int .i64 ((rd_T44 l0 x3_1).f2.f3)) ∧ w'.cell? ⟨(ad425.add ((x3_1).toNat * 7)).block, (ad425.add ((x3_1).toNat * 7)).off + 6, none⟩ = some (.string ((rd_T44 l0 x3_1).f2.f4)) ∧ w'.cell? (ad425.add ((x3_1).toNat * 7)) = some (.int .i64 ((rd_T44 l0 x3_1).f0)) ∧ w'.cell? ⟨(ad425.add ((x3_1).toNat * 7)).block, (ad425.add ((x3_1).toNat * 7)).off + 1, none⟩ = some (.int .i64 ((rd_T44 l0 x3_1).f1)) ∧ w'.cell? ⟨(ad425.add ((x3_1).toNat * 7)).block, (ad425.add ((x3_1).toNat * 7)).off + 2, none⟩ = some (.int .i64 ((rd_T44 l0 x3_1).f2.f0)) ∧ w'.cell? ⟨(ad425.add ((x3_1).toNat * 7)).block, (ad425.add ((x3_1).toNat * 7)).off + 3, none⟩ = some (.int .i64 ((rd_T44 l0 x3_1).f2.f1)) ∧ w'.cell? ⟨(ad425.add ((x3_1).toNat * 7)).block, (ad425.add ((x3_1).toNat * 7)).off + 4, none⟩ = some (.int .i64 ((rd_T44 l0 x3_1).f2.f2)) ∧ w'.cell? ⟨(ad425.add ((x3_1).toNat * 7)).block, (ad425.add ((x3_1).toNat * 7)).off + 5, none⟩ = some (.int .i64 ((rd_T44 l0 x3_1).f2.f3)) ∧ w'.cell? ⟨(ad425.add ((x3_1).toNat * 7)).block, (ad425.add ((x3_1).toNat * 7)).off + 6, none⟩ = some (.string ((rd_T44 l0 x3_1).f2.f4))) (ds := []) #[false, false, false, false, false, false, false, false, false, false, false, false, false, false, false, false, false, false, false, false, false, false, false, false] (by kernel_rfl) rfl rfl ⟨((cb_ HB.out hw425_0 :)), ((cb_ HB.out hw425_1 :)), ((cb_ HB.out hw425_2 :)), ((cb_ HB.out hw425_3 :)), ((cb_ HB.out hw425_4 :)), ((cb_ HB.out hw425_5 :)), ((cb_ HB.out hw425_6 :)), ((cb_ HB.out hw427_0 :)), ((cb_ HB.out hw427_1 :)), ((cb_ HB.out hw427_2 :)), ((cb_ HB.out hw427_3 :)), ((cb_ HB.out hw427_4 :)), ((cb_ HB.out hw427_5 :)), ((cb_ HB.out hw427_6 :)), ((cb_ HB.out hw432_0 :)), ((cb_ HB.out hw432_1 :)), ((cb_ HB.out hw432_2 :)), ((cb_ HB.out hw432_3 :)), ((cb_ HB.out hw432_4 :)), ((cb_ HB.out hw432_5 :)), ((cb_ HB.out hw432_6 :))⟩ (fun hHeld => ?_); refine with_tabW spec_LogOk.tab4 spec_LogOk.bits4 (fun HT_ HW_ => ?_)
        generalize wr.drew = w10 at HB hx425_0 hx425_1 hx425_2 hx425_3 hx425_4 hx425_5 hx425_6 hx427_0 hx427_1 hx427_2 hx427_3 hx427_4 hx427_5 hx427_6 hx432_0 hx432_1 hx432_2 hx432_3 hx432_4 hx432_5 hx432_6 hHeld ⊢
        refine pa_ 0 10 ?_
        refine pa_ 1 11 ?_
        refine pa_ 2 12 ?_
        refine ta21_ 3 13 hHeld ?_
        refine on_ 4 14 (fun K hK => ?_)
        refine goes_ Tryd.func30 (by kernel_rfl) rfl #[.agg #[.int .i64 ((rd_T44 l0 x3_1).f0), .int .i64 ((rd_T44 l0 x3_1).f1), .int .i64 ((rd_T44 l0 x3_1).f2.f0), .int .i64 ((rd_T44 l0 x3_1).f2.f1), .int .i64 ((rd_T44 l0 x3_1).f2.f2), .int .i64 ((rd_T44 l0 x3_1).f2.f3), .string ((rd_T44 l0 x3_1).f2.f4)]] (by rfl) rfl rfl ar_ ?_
        with_reducible refine (spec_EntryOk.calls k1 ((rd_T44 l0 x3_1).f0) ((rd_T44 l0 x3_1).f1) ((rd_T44 l0 x3_1).f2.f0) ((rd_T44 l0 x3_1).f2.f1) ((rd_T44 l0 x3_1).f2.f2) ((rd_T44 l0 x3_1).f2.f3) ((rd_T44 l0 x3_1).f2.f4) true _ A4.out).mono ?_
        rintro e w11 ⟨rfl, hb⟩
        refine ⟨_, rfl, ?_⟩
        have n0_ := Aside0.mk (below_step (bel_) hb)
        clear HB
        have HB := n0_
        clear n0_
        (try clear hb)
        (try clear hb2)
        (try clear hk)
        (try clear hi)
        have q12 : (x3_1 : Int) ≤ ((l0.length : Int) : Int) := od_
        obtain ⟨i012, hi012, _, hsz12, _⟩ := info_parts info44
        have hroom12 : l0.length ≤ c0 := HC0.out
        have hC12 : Kd.C k44 _ (some ad425) l0.length l0 := HR0.out
        have hcut12 := cut_to (P := Tryd.prog) 23 44 .i64 Tryd.underlying23 hi012 (some ad425) l0.length c0 x3_1 (od_) q12 hroom12
        have hr12 := Kd.C_take (m := (x3_1 : Int).toNat) hC12 (by omega)
        have hy12 : y428.length = (x3_1 : Int).toNat := (by rw [Ny428.out, List.length_take]; omega)
        rw [← Ny428.out] at hr12
        rw [← hy12] at hcut12
        have HR431 := Aside0.mk hr12
        have HC431 := Aside0.mk (show y428.length ≤ c0 from by omega)
        clear hr12 hC12 hroom12 hi012 hsz12
        have KY12 := Aside0.mk hy12
        clear hy12
        replace q12 := eq_true q12
        refine hK.out _ _ ⟨((cb_ HB.out hw425_0 :)), ((cb_ HB.out hw425_1 :)), ((cb_ HB.out hw425_2 :)), ((cb_ HB.out hw425_3 :)), ((cb_ HB.out hw425_4 :)), ((cb_ HB.out hw425_5 :)), ((cb_ HB.out hw425_6 :)), ((cb_ HB.out hw427_0 :)), ((cb_ HB.out hw427_1 :)), ((cb_ HB.out hw427_2 :)), ((cb_ HB.out hw427_3 :)), ((cb_ HB.out hw427_4 :)), ((cb_ HB.out hw427_5 :)), ((cb_ HB.out hw427_6 :)), ((cb_ HB.out hw432_0 :)), ((cb_ HB.out hw432_1 :)), ((cb_ HB.out hw432_2 :)), ((cb_ HB.out hw432_3 :)), ((cb_ HB.out hw432_4 :)), ((cb_ HB.out hw432_5 :)), ((cb_ HB.out hw432_6 :))⟩ (fun hHeld => ?_)
        clear hK K
        refine no_ 14 ?_
        refine pa_ 5 15 ?_
        refine pa_ 6 16 ?_
        refine pa_ 7 17 ?_
        refine pa_ 8 18 ?_
        refine pa_ 9 19 ?_
        refine pa_ 10 20 ?_
        refine pa_ 12 22 ?_
        refine pa_ 13 23 ?_
        refine pa_ 14 24 ?_
        refine pa_ 15 25 ?_
        refine pa_ 16 26 ?_
        refine pa_ 17 27 ?_
        refine pa_ 18 28 ?_
        refine ta21_ 11 21 hHeld ?_
        refine ta21_ 19 29 hHeld ?_
        refine on_ 20 30 (fun K hK => ?_)
        refine goes_ Tryd.func90 (by kernel_rfl) rfl #[.slice (some ad425) y428.length c0, .int .i64 ((rd_T44 l0 x3_1).f0)] (by rfl) rfl rfl ar_ ?_
        with_reducible refine (spec_l12Seq.calls k1 _ _ y428 ((rd_T44 l0 x3_1).f0) t433 _ ?side1 ?side2 A8.out).mono ?_
        (case side1 => exact cp_ HR431.out)
        (case side2 => exact HC431.out)
        rintro e w' ⟨rfl, ⟨nd, rfl⟩⟩
        refine ⟨_, rfl, ?_⟩
        refine hK.out _ _ ⟨((cb_ HB.out hw425_0 :)), ((cb_ HB.out hw425_1 :)), ((cb_ HB.out hw425_2 :)), ((cb_ HB.out hw425_3 :)), ((cb_ HB.out hw425_4 :)), ((cb_ HB.out hw425_5 :)), ((cb_ HB.out hw425_6 :)), ((cb_ HB.out hw427_0 :)), ((cb_ HB.out hw427_1 :)), ((cb_ HB.out hw427_2 :)), ((cb_ HB.out hw427_3 :)), ((cb_ HB.out hw427_4 :)), ((cb_ HB.out hw427_5 :)), ((cb_ HB.out hw427_6 :)), ((cb_ HB.out hw432_0 :)), ((cb_ HB.out hw432_1 :)), ((cb_ HB.out hw432_2 :)), ((cb_ HB.out hw432_3 :)), ((cb_ HB.out hw432_4 :)), ((cb_ HB.out hw432_5 :)), ((cb_ HB.out hw432_6 :))⟩ (fun hHeld => ?_)
        clear hK K
        refine no_ 30 ?_
        refine pa_ 21 31 ?_
        refine pa_ 22 32 ?_
        refine pa_ 23 33 ?_
        refine done_ (done_of HT_.out (by kernel_rfl)) ?_
        try go_wp2
        go_roundg k1
        case measure => have := HK1.out; omega
        case rel => exact ⟨(wrap64 (x3_1 + 1)), (si_), H', ⟨by have := HK1.out; omega⟩, ⟨bel_⟩⟩
       ·rw [if_neg c9] at H
        have c9b0 : (((rd_T44 l0 x3_1).f1) == (wrap64 (t433 + 1))) = false := beq_eq_false_iff_ne.mpr c9
        have c9b1 : (((rd_T44 l0 x3_1).f1) != (wrap64 (t433 + 1))) = true := bne_iff_ne.mpr c9
        obtain rfl := Option.some.inj H
        try go_wp2
        have n0_ := Aside0.mk (below_drew1 HB.out)
        clear HB
        have HB := n0_
        clear n0_
        have p425 : 0 ≤ (x3_1 : Int) := od_
        have q425 : x3_1 < (l0.length : Int) := od_
        obtain ⟨ad425, e425, hx425_0, hx425_1, hx425_2, hx425_3, hx425_4, hx425_5, hx425_6⟩ := at_T44 HR0.out x3_1 p425 q425
        have hw425_6 := hx425_6
        have hw425_5 := hx425_5
        have hw425_4 := hx425_4
        have hw425_3 := hx425_3
        have hw425_2 := hx425_2
        have hw425_1 := hx425_1
        have hw425_0 := hx425_0
        cases e425
        replace hx425_0 := (cb_ HB.out hx425_0 :)
        replace hx425_1 := (cb_ HB.out hx425_1 :)
        replace hx425_2 := (cb_ HB.out hx425_2 :)
        replace hx425_3 := (cb_ HB.out hx425_3 :)
        replace hx425_4 := (cb_ HB.out hx425_4 :)
        replace hx425_5 := (cb_ HB.out hx425_5 :)
        replace hx425_6 := (cb_ HB.out hx425_6 :)
        replace p425 := eq_true p425
        replace q425 := eq_true q425
        have p427 : 0 ≤ (x3_1 : Int) := od_
        have q427 : x3_1 < (l0.length : Int) := od_
        obtain ⟨ad427, e427, hx427_0, hx427_1, hx427_2, hx427_3, hx427_4, hx427_5, hx427_6⟩ := at_T44 HR0.out x3_1 p427 q427
        have hw427_6 := hx427_6
        have hw427_5 := hx427_5
        have hw427_4 := hx427_4
        have hw427_3 := hx427_3
        have hw427_2 := hx427_2
        have hw427_1 := hx427_1
        have hw427_0 := hx427_0
        obtain rfl : ad425 = ad427 := (by injection e427)
        replace hx427_0 := (cb_ HB.out hx427_0 :)
        replace hx427_1 := (cb_ HB.out hx427_1 :)
        replace hx427_2 := (cb_ HB.out hx427_2 :)
        replace hx427_3 := (cb_ HB.out hx427_3 :)
        replace hx427_4 := (cb_ HB.out hx427_4 :)
        replace hx427_5 := (cb_ HB.out hx427_5 :)
        replace hx427_6 := (cb_ HB.out hx427_6 :)
        replace p427 := eq_true p427
        replace q427 := eq_true q427
        have p432 : 0 ≤ (x3_1 : Int) := od_
        have q432 : x3_1 < (l0.length : Int) := od_
        obtain ⟨ad432, e432, hx432_0, hx432_1, hx432_2, hx432_3, hx432_4, hx432_5, hx432_6⟩ := at_T44 HR0.out x3_1 p432 q432
        have hw432_6 := hx432_6
        have hw432_5 := hx432_5
        have hw432_4 := hx432_4
        have hw432_3 := hx432_3
        have hw432_2 := hx432_2
        have hw432_1 := hx432_1
        have hw432_0 := hx432_0
        obtain rfl : ad425 = ad432 := (by injection e432)
        replace hx432_0 := (cb_ HB.out hx432_0 :)
        replace hx432_1 := (cb_ HB.out hx432_1 :)
        replace hx432_2 := (cb_ HB.out hx432_2 :)
        replace hx432_3 := (cb_ HB.out hx432_3 :)
        replace hx432_4 := (cb_ HB.out hx432_4 :)
        replace hx432_5 := (cb_ HB.out hx432_5 :)
        replace hx432_6 := (cb_ HB.out hx432_6 :)
        replace p432 := eq_true p432
        replace q432 := eq_true q432
        refine start_ (n := 24) (S := fun w' => w'.cell? (ad425.add ((x3_1).toNat * 7)) = some (.int .i64 ((rd_T44 l0 x3_1).f0)) ∧ w'.cell? ⟨(ad425.add ((x3_1).toNat * 7)).block, (ad425.add ((x3_1).toNat * 7)).off + 1, none⟩ = some (.int .i64 ((rd_T44 l0 x3_1).f1)) ∧ w'.cell? ⟨(ad425.add ((x3_1).toNat * 7)).block, (ad425.add ((x3_1).toNat * 7)).off + 2, none⟩ = some (.int .i64 ((rd_T44 l0 x3_1).f2.f0)) ∧ w'.cell? ⟨(ad425.add ((x3_1).toNat * 7)).block, (ad425.add ((x3_1).toNat * 7)).off + 3, none⟩ = some (.int .i64 ((rd_T44 l0 x3_1).f2.f1)) ∧ w'.cell? ⟨(ad425.add ((x3_1).toNat * 7)).block, (ad425.add ((x3_1).toNat * 7)).off + 4, none⟩ = some (.int .i64 ((rd_T44 l0 x3_1).f2.f2)) ∧ w'.cell? ⟨(ad425.add ((x3_1).toNat * 7)).block, (ad425.add ((x3_1).toNat * 7)).off + 5, none⟩ = some (.int .i64 ((rd_T44 l0 x3_1).f2.f3)) ∧ w'.cell? ⟨(ad425.add ((x3_1).toNat * 7)).block, (ad425.add ((x3_1).toNat * 7)).off + 6, none⟩ = some (.string ((rd_T44 l0 x3_1).f2.f4)) ∧ w'.cell? (ad425.add ((x3_1).toNat * 7)) = some (.int .i64 ((rd_T44 l0 x3_1).f0)) ∧ w'.cell? ⟨(ad425.add ((x3_1).toNat * 7)).block, (ad425.add ((x3_1).toNat * 7)).off + 1, none⟩ = some (.int .i64 ((rd_T44 l0 x3_1).f1)) ∧ w'.cell? ⟨(ad425.add ((x3_1).toNat * 7)).block, (ad425.add ((x3_1).toNat * 7)).off + 2, none⟩ = some (.int .i64 ((rd_T44 l0 x3_1).f2.f0)) ∧ w'.cell? ⟨(ad425.add ((x3_1).toNat * 7)).block, (ad425.add ((x3_1).toNat * 7)).off + 3, none⟩ = some (.int .i64 ((rd_T44 l0 x3_1).f2.f1)) ∧ w'.cell? ⟨(ad425.add ((x3_1).toNat * 7)).block, (ad425.add ((x3_1).toNat * 7)).off + 4, none⟩ = some (.int .i64 ((rd_T44 l0 x3_1).f2.f2)) ∧ w'.cell? ⟨(ad425.add ((x3_1).toNat * 7)).block, (ad425.add ((x3_1).toNat * 7)).off + 5, none⟩ = some (.int .i64 ((rd_T44 l0 x3_1).f2.f3)) ∧ w'.cell? ⟨(ad425.add ((x3_1).toNat * 7)).block, (ad425.add ((x3_1).toNat * 7)).off + 6, none⟩ = some (.string ((rd_T44 l0 x3_1).f2.f4)) ∧ w'.cell? (ad425.add ((x3_1).toNat * 7)) = some (.int .i64 ((rd_T44 l0 x3_1).f0)) ∧ w'.cell? ⟨(ad425.add ((x3_1).toNat * 7)).block, (ad425.add ((x3_1).toNat * 7)).off + 1, none⟩ = some (.int .i64 ((rd_T44 l0 x3_1).f1)) ∧ w'.cell? ⟨(ad425.add ((x3_1).toNat * 7)).block, (ad425.add ((x3_1).toNat * 7)).off + 2, none⟩ = some (.int .i64 ((rd_T44 l0 x3_1).f2.f0)) ∧ w'.cell? ⟨(ad425.add ((x3_1).toNat * 7)).block, (ad425.add ((x3_1).toNat * 7)).off + 3, none⟩ = some (.int .i64 ((rd_T44 l0 x3_1).f2.f1)) ∧ w'.cell? ⟨(ad425.add ((x3_1).toNat * 7)).block, (ad425.add ((x3_1).toNat * 7)).off + 4, none⟩ = some (.int .i64 ((rd_T44 l0 x3_1).f2.f2)) ∧ w'.cell? ⟨(ad425.add ((x3_1).toNat * 7)).block, (ad425.add ((x3_1).toNat * 7)).off + 5, none⟩ = some (.int .i64 ((rd_T44 l0 x3_1).f2.f3)) ∧ w'.cell? ⟨(ad425.add ((x3_1).toNat * 7)).block, (ad425.add ((x3_1).toNat * 7)).off + 6, none⟩ = some (.string ((rd_T44 l0 x3_1).f2.f4))) (ds := []) #[false, false, false, false, false, false, false, false, false, false, false, false, false, false, false, false, false, false, false, false, false, false, false, false] (by kernel_rfl) rfl rfl ⟨((cb_ HB.out hw425_0 :)), ((cb_ HB.out hw425_1 :)), ((cb_ HB.out hw425_2 :)), ((cb_ HB.out hw425_3 :)), ((cb_ HB.out hw425_4 :)), ((cb_ HB.out hw425_5 :)), ((cb_ HB.out hw425_6 :)), ((cb_ HB.out hw427_0 :)), ((cb_ HB.out hw427_1 :)), ((cb_ HB.out hw427_2 :)), ((cb_ HB.out hw427_3 :)), ((cb_ HB.out hw427_4 :)), ((cb_ HB.out hw427_5 :)), ((cb_ HB.out hw427_6 :)), ((cb_ HB.out hw432_0 :)), ((cb_ HB.out hw432_1 :)), ((cb_ HB.out hw432_2 :)), ((cb_ HB.out hw432_3 :)), ((cb_ HB.out hw432_4 :)), ((cb_ HB.out hw432_5 :)), ((cb_ HB.out hw432_6 :))⟩ (fun hHeld => ?_); refine with_tabW spec_LogOk.tab4 spec_LogOk.bits4 (fun HT_ HW_ => ?_)
        generalize wr.drew = w13 at HB hx425_0 hx425_1 hx425_2 hx425_3 hx425_4 hx425_5 hx425_6 hx427_0 hx427_1 hx427_2 hx427_3 hx427_4 hx427_5 hx427_6 hx432_0 hx432_1 hx432_2 hx432_3 hx432_4 hx432_5 hx432_6 hHeld ⊢
        refine pa_ 0 10 ?_
        refine pa_ 1 11 ?_
        refine pa_ 2 12 ?_
        refine ta21_ 3 13 hHeld ?_
        refine on_ 4 14 (fun K hK => ?_)
        refine goes_ Tryd.func30 (by kernel_rfl) rfl #[.agg #[.int .i64 ((rd_T44 l0 x3_1).f0), .int .i64 ((rd_T44 l0 x3_1).f1), .int .i64 ((rd_T44 l0 x3_1).f2.f0), .int .i64 ((rd_T44 l0 x3_1).f2.f1), .int .i64 ((rd_T44 l0 x3_1).f2.f2), .int .i64 ((rd_T44 l0 x3_1).f2.f3), .string ((rd_T44 l0 x3_1).f2.f4)]] (by rfl) rfl rfl ar_ ?_
        with_reducible refine (spec_EntryOk.calls k1 ((rd_T44 l0 x3_1).f0) ((rd_T44 l0 x3_1).f1) ((rd_T44 l0 x3_1).f2.f0) ((rd_T44 l0 x3_1).f2.f1) ((rd_T44 l0 x3_1).f2.f2) ((rd_T44 l0 x3_1).f2.f3) ((rd_T44 l0 x3_1).f2.f4) true _ A4.out).mono ?_
        rintro e w14 ⟨rfl, hb⟩
        refine ⟨_, rfl, ?_⟩
        have n0_ := Aside0.mk (below_step (bel_) hb)
        clear HB
        have HB := n0_
        clear n0_
        (try clear hb)
        (try clear hb2)
        (try clear hk)
        (try clear hi)
        have q15 : (x3_1 : Int) ≤ ((l0.length : Int) : Int) := od_
        obtain ⟨i015, hi015, _, hsz15, _⟩ := info_parts info44
        have hroom15 : l0.length ≤ c0 := HC0.out
        have hC15 : Kd.C k44 _ (some ad425) l0.length l0 := HR0.out
        have hcut15 := cut_to (P := Tryd.prog) 23 44 .i64 Tryd.underlying23 hi015 (some ad425) l0.length c0 x3_1 (od_) q15 hroom15
        have hr15 := Kd.C_take (m := (x3_1 : Int).toNat) hC15 (by omega)
        have hy15 : y428.length = (x3_1 : Int).toNat := (by rw [Ny428.out, List.length_take]; omega)
        rw [← Ny428.out] at hr15
        rw [← hy15] at hcut15
        have HR431 := Aside0.mk hr15
        have HC431 := Aside0.mk (show y428.length ≤ c0 from by omega)
        clear hr15 hC15 hroom15 hi015 hsz15
        have KY15 := Aside0.mk hy15
        clear hy15
        replace q15 := eq_true q15
        refine hK.out _ _ ⟨((cb_ HB.out hw425_0 :)), ((cb_ HB.out hw425_1 :)), ((cb_ HB.out hw425_2 :)), ((cb_ HB.out hw425_3 :)), ((cb_ HB.out hw425_4 :)), ((cb_ HB.out hw425_5 :)), ((cb_ HB.out hw425_6 :)), ((cb_ HB.out hw427_0 :)), ((cb_ HB.out hw427_1 :)), ((cb_ HB.out hw427_2 :)), ((cb_ HB.out hw427_3 :)), ((cb_ HB.out hw427_4 :)), ((cb_ HB.out hw427_5 :)), ((cb_ HB.out hw427_6 :)), ((cb_ HB.out hw432_0 :)), ((cb_ HB.out hw432_1 :)), ((cb_ HB.out hw432_2 :)), ((cb_ HB.out hw432_3 :)), ((cb_ HB.out hw432_4 :)), ((cb_ HB.out hw432_5 :)), ((cb_ HB.out hw432_6 :))⟩ (fun hHeld => ?_)
        clear hK K
        refine no_ 14 ?_
        refine pa_ 5 15 ?_
        refine pa_ 6 16 ?_
        refine pa_ 7 17 ?_
        refine pa_ 8 18 ?_
        refine pa_ 9 19 ?_
        refine pa_ 10 20 ?_
        refine pa_ 12 22 ?_
        refine pa_ 13 23 ?_
        refine pa_ 14 24 ?_
        refine pa_ 15 25 ?_
        refine pa_ 16 26 ?_
        refine pa_ 17 27 ?_
        refine pa_ 18 28 ?_
        refine ta21_ 11 21 hHeld ?_
        refine ta21_ 19 29 hHeld ?_
        refine on_ 20 30 (fun K hK => ?_)
        refine goes_ Tryd.func90 (by kernel_rfl) rfl #[.slice (some ad425) y428.length c0, .int .i64 ((rd_T44 l0 x3_1).f0)] (by rfl) rfl rfl ar_ ?_
        with_reducible refine (spec_l12Seq.calls k1 _ _ y428 ((rd_T44 l0 x3_1).f0) t433 _ ?side1 ?side2 A8.out).mono ?_
        (case side1 => exact cp_ HR431.out)
        (case side2 => exact HC431.out)
        rintro e w' ⟨rfl, ⟨nd, rfl⟩⟩
        refine ⟨_, rfl, ?_⟩
        refine hK.out _ _ ⟨((cb_ HB.out hw425_0 :)), ((cb_ HB.out hw425_1 :)), ((cb_ HB.out hw425_2 :)), ((cb_ HB.out hw425_3 :)), ((cb_ HB.out hw425_4 :)), ((cb_ HB.out hw425_5 :)), ((cb_ HB.out hw425_6 :)), ((cb_ HB.out hw427_0 :)), ((cb_ HB.out hw427_1 :)), ((cb_ HB.out hw427_2 :)), ((cb_ HB.out hw427_3 :)), ((cb_ HB.out hw427_4 :)), ((cb_ HB.out hw427_5 :)), ((cb_ HB.out hw427_6 :)), ((cb_ HB.out hw432_0 :)), ((cb_ HB.out hw432_1 :)), ((cb_ HB.out hw432_2 :)), ((cb_ HB.out hw432_3 :)), ((cb_ HB.out hw432_4 :)), ((cb_ HB.out hw432_5 :)), ((cb_ HB.out hw432_6 :))⟩ (fun hHeld => ?_)
        clear hK K
        refine no_ 30 ?_
        refine pa_ 21 31 ?_
        refine pa_ 22 32 ?_
        refine pa_ 23 33 ?_
        refine done_ (done_of HT_.out (by kernel_rfl)) ?_
        try go_wp2
        go_ret
        exact ⟨fi_, bel_⟩
      ·rw [if_neg c7] at H
       exact absurd H (by simp)
     ·replace c5 := Bool.eq_false_iff.mpr c5
      subst c5
      have H1 : (some false) = some r := by rw [if_neg (show ¬ (false = true) by decide)] at H; exact H
      clear H
      have H := H1
      clear H1
      obtain rfl := Option.some.inj H
      try go_wp2
      have n0_ := Aside0.mk (below_drew1 HB.out)
      clear HB
      have HB := n0_
      clear n0_
      have p425 : 0 ≤ (x3_1 : Int) := od_
      have q425 : x3_1 < (l0.length : Int) := od_
      obtain ⟨ad425, e425, hx425_0, hx425_1, hx425_2, hx425_3, hx425_4, hx425_5, hx425_6⟩ := at_T44 HR0.out x3_1 p425 q425
      have hw425_6 := hx425_6
      have hw425_5 := hx425_5
      have hw425_4 := hx425_4
      have hw425_3 := hx425_3
      have hw425_2 := hx425_2
      have hw425_1 := hx425_1
      have hw425_0 := hx425_0
      cases e425
      replace hx425_0 := (cb_ HB.out hx425_0 :)
      replace hx425_1 := (cb_ HB.out hx425_1 :)
      replace hx425_2 := (cb_ HB.out hx425_2 :)
      replace hx425_3 := (cb_ HB.out hx425_3 :)
      replace hx425_4 := (cb_ HB.out hx425_4 :)
      replace hx425_5 := (cb_ HB.out hx425_5 :)
      replace hx425_6 := (cb_ HB.out hx425_6 :)
      replace p425 := eq_true p425
      replace q425 := eq_true q425
      refine start_ (n := 24) (S := fun w' => w'.cell? (ad425.add ((x3_1).toNat * 7)) = some (.int .i64 ((rd_T44 l0 x3_1).f0)) ∧ w'.cell? ⟨(ad425.add ((x3_1).toNat * 7)).block, (ad425.add ((x3_1).toNat * 7)).off + 1, none⟩ = some (.int .i64 ((rd_T44 l0 x3_1).f1)) ∧ w'.cell? ⟨(ad425.add ((x3_1).toNat * 7)).block, (ad425.add ((x3_1).toNat * 7)).off + 2, none⟩ = some (.int .i64 ((rd_T44 l0 x3_1).f2.f0)) ∧ w'.cell? ⟨(ad425.add ((x3_1).toNat * 7)).block, (ad425.add ((x3_1).toNat * 7)).off + 3, none⟩ = some (.int .i64 ((rd_T44 l0 x3_1).f2.f1)) ∧ w'.cell? ⟨(ad425.add ((x3_1).toNat * 7)).block, (ad425.add ((x3_1).toNat * 7)).off + 4, none⟩ = some (.int .i64 ((rd_T44 l0 x3_1).f2.f2)) ∧ w'.cell? ⟨(ad425.add ((x3_1).toNat * 7)).block, (ad425.add ((x3_1).toNat * 7)).off + 5, none⟩ = some (.int .i64 ((rd_T44 l0 x3_1).f2.f3)) ∧ w'.cell? ⟨(ad425.add ((x3_1).toNat * 7)).block, (ad425.add ((x3_1).toNat * 7)).off + 6, none⟩ = some (.string ((rd_T44 l0 x3_1).f2.f4))) (ds := []) #[false, false, false, false, false, false, false, false, false, false, false, false, false, false, false, false, false, false, false, false, false, false, false, false] (by kernel_rfl) rfl rfl ⟨((cb_ HB.out hw425_0 :)), ((cb_ HB.out hw425_1 :)), ((cb_ HB.out hw425_2 :)), ((cb_ HB.out hw425_3 :)), ((cb_ HB.out hw425_4 :)), ((cb_ HB.out hw425_5 :)), ((cb_ HB.out hw425_6 :))⟩ (fun hHeld => ?_); refine with_tabW spec_LogOk.tab4 spec_LogOk.bits4 (fun HT_ HW_ => ?_)
      generalize wr.drew = w16 at HB hx425_0 hx425_1 hx425_2 hx425_3 hx425_4 hx425_5 hx425_6 hHeld ⊢
      refine pa_ 0 10 ?_
      refine pa_ 1 11 ?_
      refine pa_ 2 12 ?_
      refine ta7_ 3 13 hHeld ?_
      refine on_ 4 14 (fun K hK => ?_)
      refine goes_ Tryd.func30 (by kernel_rfl) rfl #[.agg #[.int .i64 ((rd_T44 l0 x3_1).f0), .int .i64 ((rd_T44 l0 x3_1).f1), .int .i64 ((rd_T44 l0 x3_1).f2.f0), .int .i64 ((rd_T44 l0 x3_1).f2.f1), .int .i64 ((rd_T44 l0 x3_1).f2.f2), .int .i64 ((rd_T44 l0 x3_1).f2.f3), .string ((rd_T44 l0 x3_1).f2.f4)]] (by rfl) rfl rfl ar_ ?_
      with_reducible refine (spec_EntryOk.calls k1 ((rd_T44 l0 x3_1).f0) ((rd_T44 l0 x3_1).f1) ((rd_T44 l0 x3_1).f2.f0) ((rd_T44 l0 x3_1).f2.f1) ((rd_T44 l0 x3_1).f2.f2) ((rd_T44 l0 x3_1).f2.f3) ((rd_T44 l0 x3_1).f2.f4) false _ A4.out).mono ?_
      rintro e w17 ⟨rfl, hb⟩
      refine ⟨_, rfl, ?_⟩
      have n0_ := Aside0.mk (below_step (bel_) hb)
      clear HB
      have HB := n0_
      clear n0_
      (try clear hb)
      (try clear hb2)
      (try clear hk)
      (try clear hi)
      refine hK.out _ _ ⟨((cb_ HB.out hw425_0 :)), ((cb_ HB.out hw425_1 :)), ((cb_ HB.out hw425_2 :)), ((cb_ HB.out hw425_3 :)), ((cb_ HB.out hw425_4 :)), ((cb_ HB.out hw425_5 :)), ((cb_ HB.out hw425_6 :))⟩ (fun hHeld => ?_)
      clear hK K
      refine no_ 14 ?_
      refine pa_ 5 15 ?_
      refine pa_ 6 16 ?_
      refine po_ 7 17 ?_
      refine po_ 8 18 ?_
      refine po_ 9 19 ?_
      refine po_ 10 20 ?_
      refine po_ 11 21 ?_
      refine po_ 12 22 ?_
      refine po_ 13 23 ?_
      refine po_ 14 24 ?_
      refine po_ 15 25 ?_
      refine po_ 16 26 ?_
      refine po_ 17 27 ?_
      refine po_ 18 28 ?_
      refine po_ 19 29 ?_
      refine po_ 20 30 ?_
      refine po_ 21 31 ?_
      refine po_ 22 32 ?_
      refine pa_ 23 33 ?_
      refine done_ (done_of HT_.out (by kernel_rfl)) ?_
      try go_wp2
      go_ret
      exact ⟨fi_, bel_⟩
    ·rw [if_neg c3] at H
     exact absurd H (by simp)
   ·rw [if_neg c2] at H
    have c2b0 : decide (x3_1 < (l0.length : Int)) = false := decide_eq_false c2
    clear c2
    obtain rfl := Option.some.inj H
    go_wp2
    go_ret
    exact ⟨fi_, bel_⟩

attribute [local go_sem high] eqA44
def laws_szOp.f (a0_0 : Int) (a0_1 : Int) (a0_2 : Int) (a0_3 : Int) (a0_4 : ByteArray) (a1 : Int) : Option (Int) := if (wrap64 (a1 - (a0_4.size : Int))) < 0 then (some (-1)) else (some (wrap64 (a1 - (a0_4.size : Int))))
set_option maxHeartbeats 8000000 in
set_option maxRecDepth 100000 in
theorem laws_szOp.calls (a0_0 : Int) (a0_1 : Int) (a0_2 : Int) (a0_3 : Int) (a0_4 : ByteArray) (a1 : Int) (r : Int) (w : World) (h : laws_szOp.f a0_0 a0_1 a0_2 a0_3 a0_4 a1 = some r) :
  Calls Tryd.prog 66 #[.agg #[.int .i64 a0_0, .int .i64 a0_1, .int .i64 a0_2, .int .i64 a0_3, .string a0_4], .int .i64 a1] w fun e w' => e = .returned (.int .i64 r) ∧ Below w.heap.size w w' := by
 have hu34 := Tryd.underlying34
 have HB := Aside0.mk (Below.refl w.heap.size w)
 unfold laws_szOp.f at h
 have H := h
 clear h
 by_cases c3 : (wrap64 (a1 - (a0_4.size : Int))) < 0
 ·rw [if_pos c3] at H
  have c3b0 : decide ((wrap64 (a1 - (a0_4.size : Int))) < 0) = true := decide_eq_true c3
  clear c3
  obtain rfl := Option.some.inj H
  go_enter Tryd.func66, Tryd.ntmps66
  go_wp2_with (first | ((with_reducible refine gate_dst (N := 2) rfl ?_); refine bx_ 2 (#[.int .i64 a0_0, .int .i64 a0_1, .int .i64 a0_2, .int .i64 a0_3, .string a0_4]) 34 ?_; intro gb462 hg w4 hbox hb; have n0_ := Aside0.mk (below_step (bel_) hb); have n1_ := Aside0.mk (hbox); have n2_ := Aside0.mk ((by rw [hg]; exact (below_size (bel_)) : w.heap.size ≤ gb462)); have n3_ := Aside0.mk ((by rw [hg]; exact (below_size (bel_)) : w.heap.size ≤ gb462)); clear HB; have HB := n0_; have BK462 := n1_; have GW462 := n2_; have GE462 := n3_; clear n0_ n1_ n2_ n3_; clear hb hbox hg; have hcz5_0 := cz_ BK462.out 0 (.int .i64 a0_0); have hcz5_1 := cz_ BK462.out 1 (.int .i64 a0_1); have hcz5_2 := cz_ BK462.out 2 (.int .i64 a0_2); have hcz5_3 := cz_ BK462.out 3 (.int .i64 a0_3); have hcz5_4 := cz_ BK462.out 4 (.string a0_4); have hfz5_0 := blk_frozen BK462.out 0; have hfz5_1 := blk_frozen BK462.out 1; have hfz5_2 := blk_frozen BK462.out 2; have hfz5_3 := blk_frozen BK462.out 3; have hfz5_4 := blk_frozen BK462.out 4))
  go_ret
  exact ⟨fi_, bel_⟩
 ·rw [if_neg c3] at H
  have c3b0 : decide ((wrap64 (a1 - (a0_4.size : Int))) < 0) = false := decide_eq_false c3
  clear c3
  obtain rfl := Option.some.inj H
  go_enter Tryd.func66, Tryd.ntmps66
  go_wp2_with (first | ((with_reducible refine gate_dst (N := 2) rfl ?_); refine bx_ 2 (#[.int .i64 a0_0, .int .i64 a0_1, .int .i64 a0_2, .int .i64 a0_3, .string a0_4]) 34 ?_; intro gb462 hg w6 hbox hb; have n0_ := Aside0.mk (below_step (bel_) hb); have n1_ := Aside0.mk (hbox); have n2_ := Aside0.mk ((by rw [hg]; exact (below_size (bel_)) : w.heap.size ≤ gb462)); have n3_ := Aside0.mk ((by rw [hg]; exact (below_size (bel_)) : w.heap.size ≤ gb462)); clear HB; have HB := n0_; have BK462 := n1_; have GW462 := n2_; have GE462 := n3_; clear n0_ n1_ n2_ n3_; clear hb hbox hg; have hcz7_0 := cz_ BK462.out 0 (.int .i64 a0_0); have hcz7_1 := cz_ BK462.out 1 (.int .i64 a0_1); have hcz7_2 := cz_ BK462.out 2 (.int .i64 a0_2); have hcz7_3 := cz_ BK462.out 3 (.int .i64 a0_3); have hcz7_4 := cz_ BK462.out 4 (.string a0_4); have hfz7_0 := blk_frozen BK462.out 0; have hfz7_1 := blk_frozen BK462.out 1; have hfz7_2 := blk_frozen BK462.out 2; have hfz7_3 := blk_frozen BK462.out 3; have hfz7_4 := blk_frozen BK462.out 4))
  go_ret
  exact ⟨fi_, bel_⟩

def laws_szEntry.f (a0_0 : Int) (a0_1 : Int) (a0_2 : Int) (a0_3 : Int) (a0_4 : Int) (a0_5 : Int) (a0_6 : ByteArray) (a1 : Int) : Option (Int) := (laws_szOp.f a0_2 a0_3 a0_4 a0_5 a0_6 a1).bind fun t464 => (if t464 < 0 then (some (-1)) else (some t464))
set_option maxHeartbeats 8000000 in
set_option maxRecDepth 100000 in
theorem laws_szEntry.calls (a0_0 : Int) (a0_1 : Int) (a0_2 : Int) (a0_3 : Int) (a0_4 : Int) (a0_5 : Int) (a0_6 : ByteArray) (a1 : Int) (r : Int) (w : World) (h : laws_szEntry.f a0_0 a0_1 a0_2 a0_3 a0_4 a0_5 a0_6 a1 = some r) :
  Calls Tryd.prog 20 #[.agg #[.int .i64 a0_0, .int .i64 a0_1, .int .i64 a0_2, .int .i64 a0_3, .int .i64 a0_4, .int .i64 a0_5, .string a0_6], .int .i64 a1] w fun e w' => e = .returned (.int .i64 r) ∧ Below w.heap.size w w' := by
 have hu36 := Tryd.underlying36
 have hu34 := Tryd.underlying34
 have HB := Aside0.mk (Below.refl w.heap.size w)
 unfold laws_szEntry.f at h
 have H := h
 clear h
 replace H := Option.bind_eq_some_iff.mp H
 obtain ⟨t464, A30, H⟩ := H
 try dsimp only at H
 have A3 := Aside0.mk A30
 clear A30
 by_cases c4 : t464 < 0
 ·rw [if_pos c4] at H
  have c4b0 : decide (t464 < 0) = true := decide_eq_true c4
  clear c4
  obtain rfl := Option.some.inj H
  go_enter Tryd.func20, Tryd.ntmps20
  go_wp2_with (first | ((with_reducible refine gate_dst (N := 2) rfl ?_); refine bx_ 2 (#[.int .i64 a0_0, .int .i64 a0_1, .int .i64 a0_2, .int .i64 a0_3, .int .i64 a0_4, .int .i64 a0_5, .string a0_6]) 36 ?_; intro gb463 hg w5 hbox hb; have n0_ := Aside0.mk (below_step (bel_) hb); have n1_ := Aside0.mk (hbox); have n2_ := Aside0.mk ((by rw [hg]; exact (below_size (bel_)) : w.heap.size ≤ gb463)); have n3_ := Aside0.mk ((by rw [hg]; exact (below_size (bel_)) : w.heap.size ≤ gb463)); clear HB; have HB := n0_; have BK463 := n1_; have GW463 := n2_; have GE463 := n3_; clear n0_ n1_ n2_ n3_; clear hb hbox hg; have hcz6_0 := cz_ BK463.out 0 (.int .i64 a0_0); have hcz6_1 := cz_ BK463.out 1 (.int .i64 a0_1); have hcz6_2 := cz_ BK463.out 2 (.int .i64 a0_2); have hcz6_3 := cz_ BK463.out 3 (.int .i64 a0_3); have hcz6_4 := cz_ BK463.out 4 (.int .i64 a0_4); have hcz6_5 := cz_ BK463.out 5 (.int .i64 a0_5); have hcz6_6 := cz_ BK463.out 6 (.string a0_6); have hfz6_0 := blk_frozen BK463.out 0; have hfz6_1 := blk_frozen BK463.out 1; have hfz6_2 := blk_frozen BK463.out 2; have hfz6_3 := blk_frozen BK463.out 3; have hfz6_4 := blk_frozen BK463.out 4; have hfz6_5 := blk_frozen BK463.out 5; have hfz6_6 := blk_frozen BK463.out 6) | ((with_reducible refine gate_callee (f := 66) rfl ?_); refine gl_ 8 Tryd.func66 #[.agg #[.int .i64 a0_2, .int .i64 a0_3, .int .i64 a0_4, .int .i64 a0_5, .string a0_6], .int .i64 a1] ?_; (with_reducible refine (laws_szOp.calls a0_2 a0_3 a0_4 a0_5 a0_6 a1 t464 _ A3.out).mono ?_); rintro e w7 ⟨rfl, hb⟩; refine ⟨_, rfl, ?_⟩; replace HB := Aside0.mk (below_step (bel_) hb); replace BK463 := Aside0.mk (bb_ BK463.out hb); (try clear hb)))
  go_ret
  exact ⟨fi_, bel_⟩
 ·rw [if_neg c4] at H
  have c4b0 : decide (t464 < 0) = false := decide_eq_false c4
  clear c4
  obtain rfl := Option.some.inj H
  go_enter Tryd.func20, Tryd.ntmps20
  go_wp2_with (first | ((with_reducible refine gate_dst (N := 2) rfl ?_); refine bx_ 2 (#[.int .i64 a0_0, .int .i64 a0_1, .int .i64 a0_2, .int .i64 a0_3, .int .i64 a0_4, .int .i64 a0_5, .string a0_6]) 36 ?_; intro gb463 hg w8 hbox hb; have n0_ := Aside0.mk (below_step (bel_) hb); have n1_ := Aside0.mk (hbox); have n2_ := Aside0.mk ((by rw [hg]; exact (below_size (bel_)) : w.heap.size ≤ gb463)); have n3_ := Aside0.mk ((by rw [hg]; exact (below_size (bel_)) : w.heap.size ≤ gb463)); clear HB; have HB := n0_; have BK463 := n1_; have GW463 := n2_; have GE463 := n3_; clear n0_ n1_ n2_ n3_; clear hb hbox hg; have hcz9_0 := cz_ BK463.out 0 (.int .i64 a0_0); have hcz9_1 := cz_ BK463.out 1 (.int .i64 a0_1); have hcz9_2 := cz_ BK463.out 2 (.int .i64 a0_2); have hcz9_3 := cz_ BK463.out 3 (.int .i64 a0_3); have hcz9_4 := cz_ BK463.out 4 (.int .i64 a0_4); have hcz9_5 := cz_ BK463.out 5 (.int .i64 a0_5); have hcz9_6 := cz_ BK463.out 6 (.string a0_6); have hfz9_0 := blk_frozen BK463.out 0; have hfz9_1 := blk_frozen BK463.out 1; have hfz9_2 := blk_frozen BK463.out 2; have hfz9_3 := blk_frozen BK463.out 3; have hfz9_4 := blk_frozen BK463.out 4; have hfz9_5 := blk_frozen BK463.out 5; have hfz9_6 := blk_frozen BK463.out 6) | ((with_reducible refine gate_callee (f := 66) rfl ?_); refine gl_ 8 Tryd.func66 #[.agg #[.int .i64 a0_2, .int .i64 a0_3, .int .i64 a0_4, .int .i64 a0_5, .string a0_6], .int .i64 a1] ?_; (with_reducible refine (laws_szOp.calls a0_2 a0_3 a0_4 a0_5 a0_6 a1 t464 _ A3.out).mono ?_); rintro e w10 ⟨rfl, hb⟩; refine ⟨_, rfl, ?_⟩; replace HB := Aside0.mk (below_step (bel_) hb); replace BK463 := Aside0.mk (bb_ BK463.out hb); (try clear hb)))
  go_ret
  exact ⟨fi_, bel_⟩

def laws_szEntryS.l0 : Nat → List (S36) → Int → Int → Option (Int)
 | 0, _, _, _ => none
 | k + 1, x0, x1, x5 => if x5 < (x0.length : Int) then (if 0 ≤ x5 then ((laws_szEntry.f ((rd_T36 x0 x5).f0) ((rd_T36 x0 x5).f1) ((rd_T36 x0 x5).f2.f0) ((rd_T36 x0 x5).f2.f1) ((rd_T36 x0 x5).f2.f2) ((rd_T36 x0 x5).f2.f3) ((rd_T36 x0 x5).f2.f4) x1).bind fun t466 => (if t466 < 0 then (some (-1)) else (laws_szEntryS.l0 k x0 t466 (wrap64 (x5 + 1))))) else (none)) else (some x1)
def laws_szEntryS.f (k : Nat) (l0 : List (S36)) (a1 : Int) : Option (Int) := if (wrap64 (a1 - (l0.length : Int))) < 0 then (some (-1)) else (laws_szEntryS.l0 k l0 (wrap64 (a1 - (l0.length : Int))) 0)
theorem laws_szEntryS.mono_l : ∀ k, (∀ y0 y1 y2, LeO (laws_szEntryS.l0 k y0 y1 y2) (laws_szEntryS.l0 (k + 1) y0 y1 y2))
 | 0 => fun _ _ _ r h => by simp [laws_szEntryS.l0] at h
 | k + 1 => by
  have ih0 := laws_szEntryS.mono_l k
  ·intro y0 y1 y2
   unfold laws_szEntryS.l0
   repeat' first
   | (with_reducible exact ih0 _ _ _)
   | (with_reducible exact LeO.refl _)
   | (with_reducible exact LeO.none _)
   | (with_reducible refine LeO.ite ?_ ?_)
   | (with_reducible refine LeO.bind ?_ (fun _ => ?_))
   | exact ih0 _ _ _
   | exact LeO.none _
   | refine LeO.ite ?_ ?_
   | refine LeO.bind ?_ (fun _ => ?_)
theorem laws_szEntryS.mono : ∀ a0 a1 k, LeO (laws_szEntryS.f k a0 a1) (laws_szEntryS.f (k + 1) a0 a1) := by
 intro a0 a1 k
 have ih0 := laws_szEntryS.mono_l k
 unfold laws_szEntryS.f
 repeat' first
   | (with_reducible exact ih0 _ _ _)
   | (with_reducible exact LeO.refl _)
   | (with_reducible exact LeO.none _)
   | (with_reducible refine LeO.ite ?_ ?_)
   | (with_reducible refine LeO.bind ?_ (fun _ => ?_))
   | exact ih0 _ _ _
   | exact LeO.none _
   | refine LeO.ite ?_ ?_
   | refine LeO.bind ?_ (fun _ => ?_)
set_option maxHeartbeats 8000000 in
set_option maxRecDepth 100000 in
theorem laws_szEntryS.calls (k : Nat) (A0 : Option Addr) (c0 : Nat) (l0 : List (S36)) (a1 : Int) (r : Int) (w : World) (hr0 : Kd.C k36 w A0 l0.length l0) (hc0 : l0.length ≤ c0) (h : laws_szEntryS.f k l0 a1 = some r) :
  Calls Tryd.prog 49 #[.slice A0 l0.length c0, .int .i64 a1] w fun e w' => e = .returned (.int .i64 r) ∧ Below w.heap.size w w' := by
 have hu36 := Tryd.underlying36
 have HR0 := Aside0.mk hr0
 have HC0 := Aside0.mk hc0
 clear hr0 hc0
 have HB := Aside0.mk (Below.refl w.heap.size w)
 unfold laws_szEntryS.f at h
 have H := h
 clear h
 by_cases c3 : (wrap64 (a1 - (l0.length : Int))) < 0
 ·rw [if_pos c3] at H
  have c3b0 : decide ((wrap64 (a1 - (l0.length : Int))) < 0) = true := decide_eq_true c3
  clear c3
  obtain rfl := Option.some.inj H
  go_enter Tryd.func49, Tryd.ntmps49
  go_wp2
  go_ret
  exact ⟨fi_, bel_⟩
 ·rw [if_neg c3] at H
  have c3b0 : decide ((wrap64 (a1 - (l0.length : Int))) < 0) = false := decide_eq_false c3
  clear c3
  have H' := Aside0.mk H
  clear H
  go_enter Tryd.func49, Tryd.ntmps49
  go_wp2
  go_loopg [1, 5] k (fun kq v1 v5 w' => ∃ (x1_1 : Int) (x5_1 : Int), v1 = .int .i64 x1_1 ∧ v5 = .int .i64 x5_1 ∧ Aside0 (laws_szEntryS.l0 kq l0 x1_1 x5_1 = some r) ∧ Aside0 (kq ≤ k) ∧ Aside0 (Below w.heap.size w w'))
  case atStart => exact ⟨(wrap64 (a1 - (l0.length : Int))), (0), (si_), (si_), H', ⟨Nat.le_refl _⟩, ⟨bel_⟩⟩
  case round =>
   clear H'
   try clear p2
   try clear c3
   try clear c3b0
   obtain ⟨x1_1, x5_1, rfl, rfl, HA, HK1, HB⟩ := hrel
   cases gk with
   | zero => exact absurd HA.out (by simp [laws_szEntryS.l0])
   | succ k1 =>
    have H := HA.out
    clear HA
    simp only [laws_szEntryS.l0] at H
    by_cases c4 : x5_1 < (l0.length : Int)
    ·rw [if_pos c4] at H
     have c4b0 : decide (x5_1 < (l0.length : Int)) = true := decide_eq_true c4
     clear c4
     by_cases c5 : 0 ≤ x5_1
     ·rw [if_pos c5] at H
      have c5b0 : decide (0 ≤ x5_1) = true := decide_eq_true c5
      clear c5
      replace H := Option.bind_eq_some_iff.mp H
      obtain ⟨t466, A60, H⟩ := H
      try dsimp only at H
      have A6 := Aside0.mk A60
      clear A60
      by_cases c7 : t466 < 0
      ·rw [if_pos c7] at H
       have c7b0 : decide (t466 < 0) = true := decide_eq_true c7
       clear c7
       obtain rfl := Option.some.inj H
       have p465 : 0 ≤ (x5_1 : Int) := od_
       have q465 : x5_1 < (l0.length : Int) := od_
       obtain ⟨ad465, e465, hx465_0, hx465_1, hx465_2, hx465_3, hx465_4, hx465_5, hx465_6⟩ := at_T36 HR0.out x5_1 p465 q465
       cases e465
       replace hx465_0 := (cb_ HB.out hx465_0 :)
       replace hx465_1 := (cb_ HB.out hx465_1 :)
       replace hx465_2 := (cb_ HB.out hx465_2 :)
       replace hx465_3 := (cb_ HB.out hx465_3 :)
       replace hx465_4 := (cb_ HB.out hx465_4 :)
       replace hx465_5 := (cb_ HB.out hx465_5 :)
       replace hx465_6 := (cb_ HB.out hx465_6 :)
       replace p465 := eq_true p465
       replace q465 := eq_true q465
       go_wp2_with (first | ((with_reducible refine gate_callee (f := 20) rfl ?_); refine gl_ 23 Tryd.func20 #[.agg #[.int .i64 ((rd_T36 l0 x5_1).f0), .int .i64 ((rd_T36 l0 x5_1).f1), .int .i64 ((rd_T36 l0 x5_1).f2.f0), .int .i64 ((rd_T36 l0 x5_1).f2.f1), .int .i64 ((rd_T36 l0 x5_1).f2.f2), .int .i64 ((rd_T36 l0 x5_1).f2.f3), .string ((rd_T36 l0 x5_1).f2.f4)], .int .i64 x1_1] ?_; (with_reducible refine (laws_szEntry.calls ((rd_T36 l0 x5_1).f0) ((rd_T36 l0 x5_1).f1) ((rd_T36 l0 x5_1).f2.f0) ((rd_T36 l0 x5_1).f2.f1) ((rd_T36 l0 x5_1).f2.f2) ((rd_T36 l0 x5_1).f2.f3) ((rd_T36 l0 x5_1).f2.f4) x1_1 t466 _ A6.out).mono ?_); rintro e w8 ⟨rfl, hb⟩; refine ⟨_, rfl, ?_⟩; replace HB := Aside0.mk (below_step (bel_) hb); (try clear hb)))
       go_ret
       exact ⟨fi_, bel_⟩
      ·rw [if_neg c7] at H
       have c7b0 : decide (t466 < 0) = false := decide_eq_false c7
       clear c7
       have H' := Aside0.mk H
       clear H
       have p465 : 0 ≤ (x5_1 : Int) := od_
       have q465 : x5_1 < (l0.length : Int) := od_
       obtain ⟨ad465, e465, hx465_0, hx465_1, hx465_2, hx465_3, hx465_4, hx465_5, hx465_6⟩ := at_T36 HR0.out x5_1 p465 q465
       cases e465
       replace hx465_0 := (cb_ HB.out hx465_0 :)
       replace hx465_1 := (cb_ HB.out hx465_1 :)
       replace hx465_2 := (cb_ HB.out hx465_2 :)
       replace hx465_3 := (cb_ HB.out hx465_3 :)
       replace hx465_4 := (cb_ HB.out hx465_4 :)
       replace hx465_5 := (cb_ HB.out hx465_5 :)
       replace hx465_6 := (cb_ HB.out hx465_6 :)
       replace p465 := eq_true p465
       replace q465 := eq_true q465
       go_wp2_with (first | ((with_reducible refine gate_callee (f := 20) rfl ?_); refine gl_ 23 Tryd.func20 #[.agg #[.int .i64 ((rd_T36 l0 x5_1).f0), .int .i64 ((rd_T36 l0 x5_1).f1), .int .i64 ((rd_T36 l0 x5_1).f2.f0), .int .i64 ((rd_T36 l0 x5_1).f2.f1), .int .i64 ((rd_T36 l0 x5_1).f2.f2), .int .i64 ((rd_T36 l0 x5_1).f2.f3), .string ((rd_T36 l0 x5_1).f2.f4)], .int .i64 x1_1] ?_; (with_reducible refine (laws_szEntry.calls ((rd_T36 l0 x5_1).f0) ((rd_T36 l0 x5_1).f1) ((rd_T36 l0 x5_1).f2.f0) ((rd_T36 l0 x5_1).f2.f1) ((rd_T36 l0 x5_1).f2.f2) ((rd_T36 l0 x5_1).f2.f3) ((rd_T36 l0 x5_1).f2.f4) x1_1 t466 _ A6.out).mono ?_); rintro e w9 ⟨rfl, hb⟩; refine ⟨_, rfl, ?_⟩; replace HB := Aside0.mk (below_step (bel_) hb); (try clear hb)))
       go_roundg k1
       case measure => have := HK1.out; omega
       case rel => exact ⟨(t466), (wrap64 (x5_1 + 1)), (si_), (si_), H', ⟨by have := HK1.out; omega⟩, ⟨bel_⟩⟩
     ·rw [if_neg c5] at H
      exact absurd H (by simp)
    ·rw [if_neg c4] at H
     have c4b0 : decide (x5_1 < (l0.length : Int)) = false := decide_eq_false c4
     clear c4
     obtain rfl := Option.some.inj H
     go_wp2
     go_ret
     exact ⟨fi_, bel_⟩

def laws_toOp.f (a0_0 : Int) (a0_1 : Int) (a0_2 : Int) (a0_3 : Int) (a0_4 : ByteArray) : Option (Int × Int × Int × Int × ByteArray) := some (a0_0, a0_1, a0_2, a0_3, a0_4)
set_option maxHeartbeats 8000000 in
set_option maxRecDepth 100000 in
theorem laws_toOp.calls (a0_0 : Int) (a0_1 : Int) (a0_2 : Int) (a0_3 : Int) (a0_4 : ByteArray) (r1 : Int) (r2 : Int) (r3 : Int) (r4 : Int) (r5 : ByteArray) (w : World) (h : laws_toOp.f a0_0 a0_1 a0_2 a0_3 a0_4 = some (r1, r2, r3, r4, r5)) :
  Calls Tryd.prog 68 #[.agg #[.int .i64 a0_0, .int .i64 a0_1, .int .i64 a0_2, .int .i64 a0_3, .string a0_4]] w fun e w' => e = .returned (.agg #[.int .i64 r1, .int .i64 r2, .int .i64 r3, .int .i64 r4, .string r5]) ∧ Below w.heap.size w w' := by
 have hu34 := Tryd.underlying34
 have hu42 := Tryd.underlying42
 have HB := Aside0.mk (Below.refl w.heap.size w)
 unfold laws_toOp.f at h
 have H := h
 clear h
 simp only [Option.some.injEq, Prod.mk.injEq] at H
 obtain ⟨rfl, rfl, rfl, rfl, rfl⟩ := H
 go_enter Tryd.func68, Tryd.ntmps68
 go_wp2_with (first | ((with_reducible refine gate_dst (N := 1) rfl ?_); refine bx_ 1 (#[.int .i64 a0_0, .int .i64 a0_1, .int .i64 a0_2, .int .i64 a0_3, .string a0_4]) 34 ?_; intro gb510 hg w2 hbox hb; have n0_ := Aside0.mk (below_step (bel_) hb); have n1_ := Aside0.mk (hbox); have n2_ := Aside0.mk ((by rw [hg]; exact (below_size (bel_)) : w.heap.size ≤ gb510)); have n3_ := Aside0.mk ((by rw [hg]; exact (below_size (bel_)) : w.heap.size ≤ gb510)); clear HB; have HB := n0_; have BK510 := n1_; have GW510 := n2_; have GE510 := n3_; clear n0_ n1_ n2_ n3_; clear hb hbox hg) | ((with_reducible refine gate_dst (N := 2) rfl ?_); refine bx_ 2 (#[.int .i64 0, .int .i64 0, .int .i64 0, .int .i64 0, .string (⟨#[]⟩ : ByteArray)]) 42 ?_; intro gb511 hg w3 hbox hb; have n0_ := Aside0.mk (bb_ BK510.out hb); have n1_ := Aside0.mk (below_step (bel_) hb); have n2_ := Aside0.mk (hbox); have n3_ := Aside0.mk ((by rw [hg]; exact (below_size (bel_)) : w.heap.size ≤ gb511)); have n4_ := Aside0.mk ((by rw [hg]; exact (below_size (bel_)) : w.heap.size ≤ gb511)); have n5_ := Aside0.mk ((by rw [hg]; exact Nat.ne_of_lt (blk_lt (g := gb510) (o := .cells #[.int .i64 a0_0, .int .i64 a0_1, .int .i64 a0_2, .int .i64 a0_3, .string a0_4] 34 (0, 0)) (bp_ BK510.out)) : gb510 ≠ gb511)); have n6_ := Aside0.mk ((by rw [hg]; exact Nat.ne_of_gt (blk_lt (g := gb510) (o := .cells #[.int .i64 a0_0, .int .i64 a0_1, .int .i64 a0_2, .int .i64 a0_3, .string a0_4] 34 (0, 0)) (bp_ BK510.out)) : gb511 ≠ gb510)); clear BK510; clear HB; have BK510 := n0_; have HB := n1_; have BK511 := n2_; have GW511 := n3_; have GE511 := n4_; have NB510_511 := n5_; have NB511_510 := n6_; clear n0_ n1_ n2_ n3_ n4_ n5_ n6_; clear hb hbox hg) | ((with_reducible refine gate_dst (N := 3) rfl ?_); refine bx_ 3 (#[.int .i64 0, .int .i64 0, .int .i64 0, .int .i64 0, .string (⟨#[]⟩ : ByteArray)]) 42 ?_; intro gb512 hg w4 hbox hb; have n0_ := Aside0.mk (bb_ BK510.out hb); have n1_ := Aside0.mk (bb_ BK511.out hb); have n2_ := Aside0.mk (below_step (bel_) hb); have n3_ := Aside0.mk (hbox); have n4_ := Aside0.mk ((by rw [hg]; exact (below_size (bel_)) : w.heap.size ≤ gb512)); have n5_ := Aside0.mk ((by rw [hg]; exact (below_size (bel_)) : w.heap.size ≤ gb512)); have n6_ := Aside0.mk ((by rw [hg]; exact Nat.ne_of_lt (blk_lt (g := gb510) (o := .cells #[.int .i64 a0_0, .int .i64 a0_1, .int .i64 a0_2, .int .i64 a0_3, .string a0_4] 34 (0, 0)) (bp_ BK510.out)) : gb510 ≠ gb512)); have n7_ := Aside0.mk ((by rw [hg]; exact Nat.ne_of_gt (blk_lt (g := gb510) (o := .cells #[.int .i64 a0_0, .int .i64 a0_1, .int .i64 a0_2, .int .i64 a0_3, .string a0_4] 34 (0, 0)) (bp_ BK510.out)) : gb512 ≠ gb510)); have n8_ := Aside0.mk ((by rw [hg]; exact Nat.ne_of_lt (blk_lt (g := gb511) (o := .cells #[.int .i64 0, .int .i64 0, .int .i64 0, .int .i64 0, .string (⟨#[]⟩ : ByteArray)] 42 (0, 0)) (bp_ BK511.out)) : gb511 ≠ gb512)); have n9_ := Aside0.mk ((by rw [hg]; exact Nat.ne_of_gt (blk_lt (g := gb511) (o := .cells #[.int .i64 0, .int .i64 0, .int .i64 0, .int .i64 0, .string (⟨#[]⟩ : ByteArray)] 42 (0, 0)) (bp_ BK511.out)) : gb512 ≠ gb511)); clear BK510; clear BK511; clear HB; have BK510 := n0_; have BK511 := n1_; have HB := n2_; have BK512 := n3_; have GW512 := n4_; have GE512 := n5_; have NB510_512 := n6_; have NB512_510 := n7_; have NB511_512 := n8_; have NB512_511 := n9_; clear n0_ n1_ n2_ n3_ n4_ n5_ n6_ n7_ n8_ n9_; clear hb hbox hg; have hnb5 := NB510_511.out; have hnc5 := NB511_510.out; have hnb6 := NB510_512.out; have hnc6 := NB512_510.out; have hcz7_0 := cz_ BK510.out 0 (.int .i64 a0_0); have hcz7_1 := cz_ BK510.out 1 (.int .i64 a0_1); have hcz7_2 := cz_ BK510.out 2 (.int .i64 a0_2); have hcz7_3 := cz_ BK510.out 3 (.int .i64 a0_3); have hcz7_4 := cz_ BK510.out 4 (.string a0_4); have hfz7_0 := blk_frozen BK510.out 0; have hfz7_1 := blk_frozen BK510.out 1; have hfz7_2 := blk_frozen BK510.out 2; have hfz7_3 := blk_frozen BK510.out 3; have hfz7_4 := blk_frozen BK510.out 4; have hnb8 := NB512_511.out; have hnc8 := NB511_512.out; have hcz9_0 := cz_ BK512.out 0 (.int .i64 0); have hcz9_1 := cz_ BK512.out 1 (.int .i64 0); have hcz9_2 := cz_ BK512.out 2 (.int .i64 0); have hcz9_3 := cz_ BK512.out 3 (.int .i64 0); have hcz9_4 := cz_ BK512.out 4 (.string (⟨#[]⟩ : ByteArray)); have hfz9_0 := blk_frozen BK512.out 0; have hfz9_1 := blk_frozen BK512.out 1; have hfz9_2 := blk_frozen BK512.out 2; have hfz9_3 := blk_frozen BK512.out 3; have hfz9_4 := blk_frozen BK512.out 4; have hcz10_0 := cz_ BK511.out 0 (.int .i64 0); have hcz10_1 := cz_ BK511.out 1 (.int .i64 0); have hcz10_2 := cz_ BK511.out 2 (.int .i64 0); have hcz10_3 := cz_ BK511.out 3 (.int .i64 0); have hcz10_4 := cz_ BK511.out 4 (.string (⟨#[]⟩ : ByteArray)); have hfz10_0 := blk_frozen BK511.out 0; have hfz10_1 := blk_frozen BK511.out 1; have hfz10_2 := blk_frozen BK511.out 2; have hfz10_3 := blk_frozen BK511.out 3; have hfz10_4 := blk_frozen BK511.out 4))
 refine bodyPost_ret (results_cell_row rfl _ _ gb511 42 #[.int .i64 a0_0, .int .i64 a0_1, .int .i64 a0_2, .int .i64 a0_3, .string a0_4] (0, 0) _ rfl (by (with_reducible repeat (first | refine blk_drewN ?_ _ | refine blk_drew ?_ | refine blk_alloc ?_ _)); refine blk_put (cs := #[.int .i64 a0_0, .int .i64 a0_1, .int .i64 a0_2, .int .i64 a0_3, .string (⟨#[]⟩ : ByteArray)]) ?_ 4 _ rfl; (with_reducible repeat (first | refine blk_drewN ?_ _ | refine blk_drew ?_ | refine blk_alloc ?_ _)); refine blk_put (cs := #[.int .i64 a0_0, .int .i64 a0_1, .int .i64 a0_2, .int .i64 0, .string (⟨#[]⟩ : ByteArray)]) ?_ 3 _ rfl; (with_reducible repeat (first | refine blk_drewN ?_ _ | refine blk_drew ?_ | refine blk_alloc ?_ _)); refine blk_put (cs := #[.int .i64 a0_0, .int .i64 a0_1, .int .i64 0, .int .i64 0, .string (⟨#[]⟩ : ByteArray)]) ?_ 2 _ rfl; (with_reducible repeat (first | refine blk_drewN ?_ _ | refine blk_drew ?_ | refine blk_alloc ?_ _)); refine blk_put (cs := #[.int .i64 a0_0, .int .i64 0, .int .i64 0, .int .i64 0, .string (⟨#[]⟩ : ByteArray)]) ?_ 1 _ rfl; (with_reducible repeat (first | refine blk_drewN ?_ _ | refine blk_drew ?_ | refine blk_alloc ?_ _)); refine blk_put (cs := #[.int .i64 0, .int .i64 0, .int .i64 0, .int .i64 0, .string (⟨#[]⟩ : ByteArray)]) ?_ 0 _ rfl; (with_reducible repeat (first | refine blk_drewN ?_ _ | refine blk_drew ?_ | refine blk_alloc ?_ _)); refine blk_far ?_ NB511_512.out _; (with_reducible repeat (first | refine blk_drewN ?_ _ | refine blk_drew ?_ | refine blk_alloc ?_ _)); refine blk_far ?_ NB511_512.out _; (with_reducible repeat (first | refine blk_drewN ?_ _ | refine blk_drew ?_ | refine blk_alloc ?_ _)); refine blk_far ?_ NB511_512.out _; (with_reducible repeat (first | refine blk_drewN ?_ _ | refine blk_drew ?_ | refine blk_alloc ?_ _)); refine blk_far ?_ NB511_512.out _; (with_reducible repeat (first | refine blk_drewN ?_ _ | refine blk_drew ?_ | refine blk_alloc ?_ _)); refine blk_far ?_ NB511_512.out _; (with_reducible repeat (first | refine blk_drewN ?_ _ | refine blk_drew ?_ | refine blk_alloc ?_ _)); exact BK511.out) Tryd.underlying42 rfl (by kernel_rfl)) rfl ?_
 exact ⟨fi_, bel_⟩

def laws_toEntry.f (a0_0 : Int) (a0_1 : Int) (a0_2 : Int) (a0_3 : Int) (a0_4 : Int) (a0_5 : Int) (a0_6 : ByteArray) : Option (Int × Int × Int × Int × Int × Int × ByteArray) := (laws_toOp.f a0_2 a0_3 a0_4 a0_5 a0_6).bind fun bt516 => (some (a0_0, a0_1, bt516.1, bt516.2.1, bt516.2.2.1, bt516.2.2.2.1, bt516.2.2.2.2))
set_option maxHeartbeats 8000000 in
set_option maxRecDepth 100000 in
theorem laws_toEntry.calls (a0_0 : Int) (a0_1 : Int) (a0_2 : Int) (a0_3 : Int) (a0_4 : Int) (a0_5 : Int) (a0_6 : ByteArray) (r1 : Int) (r2 : Int) (r3 : Int) (r4 : Int) (r5 : Int) (r6 : Int) (r7 : ByteArray) (w : World) (h : laws_toEntry.f a0_0 a0_1 a0_2 a0_3 a0_4 a0_5 a0_6 = some (r1, r2, r3, r4, r5, r6, r7)) :
  Calls Tryd.prog 23 #[.agg #[.int .i64 a0_0, .int .i64 a0_1, .int .i64 a0_2, .int .i64 a0_3, .int .i64 a0_4, .int .i64 a0_5, .string a0_6]] w fun e w' => e = .returned (.agg #[.int .i64 r1, .int .i64 r2, .int .i64 r3, .int .i64 r4, .int .i64 r5, .int .i64 r6, .string r7]) ∧ Below w.heap.size w w' := by
 have hu36 := Tryd.underlying36
 have hu44 := Tryd.underlying44
 have hu34 := Tryd.underlying34
 have hu42 := Tryd.underlying42
 have HB := Aside0.mk (Below.refl w.heap.size w)
 unfold laws_toEntry.f at h
 have H := h
 clear h
 replace H := Option.bind_eq_some_iff.mp H
 obtain ⟨⟨t516, t517, t518, t519, t520⟩, A20, H⟩ := H
 try dsimp only at H
 have A2 := Aside0.mk A20
 clear A20
 simp only [Option.some.injEq, Prod.mk.injEq] at H
 obtain ⟨rfl, rfl, rfl, rfl, rfl, rfl, rfl⟩ := H
 go_enter Tryd.func23, Tryd.ntmps23
 go_wp2_with (first | ((with_reducible refine gate_dst (N := 1) rfl ?_); refine bx_ 1 (#[.int .i64 a0_0, .int .i64 a0_1, .int .i64 a0_2, .int .i64 a0_3, .int .i64 a0_4, .int .i64 a0_5, .string a0_6]) 36 ?_; intro gb513 hg w3 hbox hb; have n0_ := Aside0.mk (below_step (bel_) hb); have n1_ := Aside0.mk (hbox); have n2_ := Aside0.mk ((by rw [hg]; exact (below_size (bel_)) : w.heap.size ≤ gb513)); have n3_ := Aside0.mk ((by rw [hg]; exact (below_size (bel_)) : w.heap.size ≤ gb513)); clear HB; have HB := n0_; have BK513 := n1_; have GW513 := n2_; have GE513 := n3_; clear n0_ n1_ n2_ n3_; clear hb hbox hg) | ((with_reducible refine gate_dst (N := 2) rfl ?_); refine bx_ 2 (#[.int .i64 0, .int .i64 0, .int .i64 0, .int .i64 0, .int .i64 0, .int .i64 0, .string (⟨#[]⟩ : ByteArray)]) 44 ?_; intro gb514 hg w4 hbox hb; have n0_ := Aside0.mk (bb_ BK513.out hb); have n1_ := Aside0.mk (below_step (bel_) hb); have n2_ := Aside0.mk (hbox); have n3_ := Aside0.mk ((by rw [hg]; exact (below_size (bel_)) : w.heap.size ≤ gb514)); have n4_ := Aside0.mk ((by rw [hg]; exact (below_size (bel_)) : w.heap.size ≤ gb514)); have n5_ := Aside0.mk ((by rw [hg]; exact Nat.ne_of_lt (blk_lt (g := gb513) (o := .cells #[.int .i64 a0_0, .int .i64 a0_1, .int .i64 a0_2, .int .i64 a0_3, .int .i64 a0_4, .int .i64 a0_5, .string a0_6] 36 (0, 0)) (bp_ BK513.out)) : gb513 ≠ gb514)); have n6_ := Aside0.mk ((by rw [hg]; exact Nat.ne_of_gt (blk_lt (g := gb513) (o := .cells #[.int .i64 a0_0, .int .i64 a0_1, .int .i64 a0_2, .int .i64 a0_3, .int .i64 a0_4, .int .i64 a0_5, .string a0_6] 36 (0, 0)) (bp_ BK513.out)) : gb514 ≠ gb513)); clear BK513; clear HB; have BK513 := n0_; have HB := n1_; have BK514 := n2_; have GW514 := n3_; have GE514 := n4_; have NB513_514 := n5_; have NB514_513 := n6_; clear n0_ n1_ n2_ n3_ n4_ n5_ n6_; clear hb hbox hg) | ((with_reducible refine gate_dst (N := 3) rfl ?_); refine bx_ 3 (#[.int .i64 0, .int .i64 0, .int .i64 0, .int .i64 0, .int .i64 0, .int .i64 0, .string (⟨#[]⟩ : ByteArray)]) 44 ?_; intro gb515 hg w5 hbox hb; have n0_ := Aside0.mk (bb_ BK513.out hb); have n1_ := Aside0.mk (bb_ BK514.out hb); have n2_ := Aside0.mk (below_step (bel_) hb); have n3_ := Aside0.mk (hbox); have n4_ := Aside0.mk ((by rw [hg]; exact (below_size (bel_)) : w.heap.size ≤ gb515)); have n5_ := Aside0.mk ((by rw [hg]; exact (below_size (bel_)) : w.heap.size ≤ gb515)); have n6_ := Aside0.mk ((by rw [hg]; exact Nat.ne_of_lt (blk_lt (g := gb513) (o := .cells #[.int .i64 a0_0, .int .i64 a0_1, .int .i64 a0_2, .int .i64 a0_3, .int .i64 a0_4, .int .i64 a0_5, .string a0_6] 36 (0, 0)) (bp_ BK513.out)) : gb513 ≠ gb515)); have n7_ := Aside0.mk ((by rw [hg]; exact Nat.ne_of_gt (blk_lt (g := gb513) (o := .cells #[.int .i64 a0_0, .int .i64 a0_1, .int .i64 a0_2, .int .i64 a0_3, .int .i64 a0_4, .int .i64 a0_5, .string a0_6] 36 (0, 0)) (bp_ BK513.out)) : gb515 ≠ gb513)); have n8_ := Aside0.mk ((by rw [hg]; exact Nat.ne_of_lt (blk_lt (g := gb514) (o := .cells #[.int .i64 0, .int .i64 0, .int .i64 0, .int .i64 0, .int .i64 0, .int .i64 0, .string (⟨#[]⟩ : ByteArray)] 44 (0, 0)) (bp_ BK514.out)) : gb514 ≠ gb515)); have n9_ := Aside0.mk ((by rw [hg]; exact Nat.ne_of_gt (blk_lt (g := gb514) (o := .cells #[.int .i64 0, .int .i64 0, .int .i64 0, .int .i64 0, .int .i64 0, .int .i64 0, .string (⟨#[]⟩ : ByteArray)] 44 (0, 0)) (bp_ BK514.out)) : gb515 ≠ gb514)); clear BK513; clear BK514; clear HB; have BK513 := n0_; have BK514 := n1_; have HB := n2_; have BK515 := n3_; have GW515 := n4_; have GE515 := n5_; have NB513_515 := n6_; have NB515_513 := n7_; have NB514_515 := n8_; have NB515_514 := n9_; clear n0_ n1_ n2_ n3_ n4_ n5_ n6_ n7_ n8_ n9_; clear hb hbox hg; have hnb6 := NB513_514.out; have hnc6 := NB514_513.out; have hnb7 := NB513_515.out; have hnc7 := NB515_513.out; have hcz8_0 := cz_ BK513.out 0 (.int .i64 a0_0); have hcz8_1 := cz_ BK513.out 1 (.int .i64 a0_1); have hcz8_2 := cz_ BK513.out 2 (.int .i64 a0_2); have hcz8_3 := cz_ BK513.out 3 (.int .i64 a0_3); have hcz8_4 := cz_ BK513.out 4 (.int .i64 a0_4); have hcz8_5 := cz_ BK513.out 5 (.int .i64 a0_5); have hcz8_6 := cz_ BK513.out 6 (.string a0_6); have hfz8_0 := blk_frozen BK513.out 0; have hfz8_1 := blk_frozen BK513.out 1; have hfz8_2 := blk_frozen BK513.out 2; have hfz8_3 := blk_frozen BK513.out 3; have hfz8_4 := blk_frozen BK513.out 4; have hfz8_5 := blk_frozen BK513.out 5; have hfz8_6 := blk_frozen BK513.out 6; have hnb9 := NB515_514.out; have hnc9 := NB514_515.out; have hcz10_0 := cz_ BK515.out 0 (.int .i64 0); have hcz10_1 := cz_ BK515.out 1 (.int .i64 0); have hcz10_2 := cz_ BK515.out 2 (.int .i64 0); have hcz10_3 := cz_ BK515.out 3 (.int .i64 0); have hcz10_4 := cz_ BK515.out 4 (.int .i64 0); have hcz10_5 := cz_ BK515.out 5 (.int .i64 0); have hcz10_6 := cz_ BK515.out 6 (.string (⟨#[]⟩ : ByteArray)); have hfz10_0 := blk_frozen BK515.out 0; have hfz10_1 := blk_frozen BK515.out 1; have hfz10_2 := blk_frozen BK515.out 2; have hfz10_3 := blk_frozen BK515.out 3; have hfz10_4 := blk_frozen BK515.out 4; have hfz10_5 := blk_frozen BK515.out 5; have hfz10_6 := blk_frozen BK515.out 6) | ((with_reducible refine gate_callee (f := 68) rfl ?_); refine gl_ 12 Tryd.func68 #[.agg #[.int .i64 a0_2, .int .i64 a0_3, .int .i64 a0_4, .int .i64 a0_5, .string a0_6]] ?_; (with_reducible refine (laws_toOp.calls a0_2 a0_3 a0_4 a0_5 a0_6 t516 t517 t518 t519 t520 _ A2.out).mono ?_); rintro e w11 ⟨rfl, hb⟩; refine ⟨_, rfl, ?_⟩; have n0_ := Aside0.mk (blk_below (g := gb513) (o := .cells #[.int .i64 a0_0, .int .i64 a0_1, .int .i64 a0_2, .int .i64 a0_3, .int .i64 a0_4, .int .i64 a0_5, .string a0_6] 36 (0, 0)) (by (with_reducible repeat (first | refine blk_drewN ?_ _ | refine blk_drew ?_ | refine blk_alloc ?_ _)); refine blk_far ?_ NB513_515.out _; (with_reducible repeat (first | refine blk_drewN ?_ _ | refine blk_drew ?_ | refine blk_alloc ?_ _)); refine blk_far ?_ NB513_515.out _; (with_reducible repeat (first | refine blk_drewN ?_ _ | refine blk_drew ?_ | refine blk_alloc ?_ _)); exact BK513.out) hb); have n1_ := Aside0.mk (blk_below (g := gb514) (o := .cells #[.int .i64 0, .int .i64 0, .int .i64 0, .int .i64 0, .int .i64 0, .int .i64 0, .string (⟨#[]⟩ : ByteArray)] 44 (0, 0)) (by (with_reducible repeat (first | refine blk_drewN ?_ _ | refine blk_drew ?_ | refine blk_alloc ?_ _)); refine blk_far ?_ NB514_515.out _; (with_reducible repeat (first | refine blk_drewN ?_ _ | refine blk_drew ?_ | refine blk_alloc ?_ _)); refine blk_far ?_ NB514_515.out _; (with_reducible repeat (first | refine blk_drewN ?_ _ | refine blk_drew ?_ | refine blk_alloc ?_ _)); exact BK514.out) hb); have n2_ := Aside0.mk (blk_below (g := gb515) (o := .cells #[.int .i64 a0_0, .int .i64 a0_1, .int .i64 0, .int .i64 0, .int .i64 0, .int .i64 0, .string (⟨#[]⟩ : ByteArray)] 44 (0, 0)) (by (with_reducible repeat (first | refine blk_drewN ?_ _ | refine blk_drew ?_ | refine blk_alloc ?_ _)); refine blk_put (cs := #[.int .i64 a0_0, .int .i64 0, .int .i64 0, .int .i64 0, .int .i64 0, .int .i64 0, .string (⟨#[]⟩ : ByteArray)]) ?_ 1 _ rfl; (with_reducible repeat (first | refine blk_drewN ?_ _ | refine blk_drew ?_ | refine blk_alloc ?_ _)); refine blk_put (cs := #[.int .i64 0, .int .i64 0, .int .i64 0, .int .i64 0, .int .i64 0, .int .i64 0, .string (⟨#[]⟩ : ByteArray)]) ?_ 0 _ rfl; (with_reducible repeat (first | refine blk_drewN ?_ _ | refine blk_drew ?_ | refine blk_alloc ?_ _)); exact BK515.out) hb); have n3_ := Aside0.mk (below_step (bel_) hb); clear BK513; clear BK514; clear BK515; clear HB; have BK513 := n0_; have BK514 := n1_; have BK515 := n2_; have HB := n3_; clear n0_ n1_ n2_ n3_; (try clear hb); have hcz12_0 := cz_ BK515.out 0 (.int .i64 a0_0); have hcz12_1 := cz_ BK515.out 1 (.int .i64 a0_1); have hcz12_2 := cz_ BK515.out 2 (.int .i64 0); have hcz12_3 := cz_ BK515.out 3 (.int .i64 0); have hcz12_4 := cz_ BK515.out 4 (.int .i64 0); have hcz12_5 := cz_ BK515.out 5 (.int .i64 0); have hcz12_6 := cz_ BK515.out 6 (.string (⟨#[]⟩ : ByteArray)); have hfz12_0 := blk_frozen BK515.out 0; have hfz12_1 := blk_frozen BK515.out 1; have hfz12_2 := blk_frozen BK515.out 2; have hfz12_3 := blk_frozen BK515.out 3; have hfz12_4 := blk_frozen BK515.out 4; have hfz12_5 := blk_frozen BK515.out 5; have hfz12_6 := blk_frozen BK515.out 6; have hcz13_0 := cz_ BK514.out 0 (.int .i64 0); have hcz13_1 := cz_ BK514.out 1 (.int .i64 0); have hcz13_2 := cz_ BK514.out 2 (.int .i64 0); have hcz13_3 := cz_ BK514.out 3 (.int .i64 0); have hcz13_4 := cz_ BK514.out 4 (.int .i64 0); have hcz13_5 := cz_ BK514.out 5 (.int .i64 0); have hcz13_6 := cz_ BK514.out 6 (.string (⟨#[]⟩ : ByteArray)); have hfz13_0 := blk_frozen BK514.out 0; have hfz13_1 := blk_frozen BK514.out 1; have hfz13_2 := blk_frozen BK514.out 2; have hfz13_3 := blk_frozen BK514.out 3; have hfz13_4 := blk_frozen BK514.out 4; have hfz13_5 := blk_frozen BK514.out 5; have hfz13_6 := blk_frozen BK514.out 6))
 refine bodyPost_ret (results_cell_row rfl _ _ gb514 44 #[.int .i64 a0_0, .int .i64 a0_1, .int .i64 t516, .int .i64 t517, .int .i64 t518, .int .i64 t519, .string t520] (0, 0) _ rfl (by (with_reducible repeat (first | refine blk_drewN ?_ _ | refine blk_drew ?_ | refine blk_alloc ?_ _)); refine blk_put (cs := #[.int .i64 a0_0, .int .i64 a0_1, .int .i64 t516, .int .i64 t517, .int .i64 t518, .int .i64 t519, .string (⟨#[]⟩ : ByteArray)]) ?_ 6 _ rfl; (with_reducible repeat (first | refine blk_drewN ?_ _ | refine blk_drew ?_ | refine blk_alloc ?_ _)); refine blk_put (cs := #[.int .i64 a0_0, .int .i64 a0_1, .int .i64 t516, .int .i64 t517, .int .i64 t518, .int .i64 0, .string (⟨#[]⟩ : ByteArray)]) ?_ 5 _ rfl; (with_reducible repeat (first | refine blk_drewN ?_ _ | refine blk_drew ?_ | refine blk_alloc ?_ _)); refine blk_put (cs := #[.int .i64 a0_0, .int .i64 a0_1, .int .i64 t516, .int .i64 t517, .int .i64 0, .int .i64 0, .string (⟨#[]⟩ : ByteArray)]) ?_ 4 _ rfl; (with_reducible repeat (first | refine blk_drewN ?_ _ | refine blk_drew ?_ | refine blk_alloc ?_ _)); refine blk_put (cs := #[.int .i64 a0_0, .int .i64 a0_1, .int .i64 t516, .int .i64 0, .int .i64 0, .int .i64 0, .string (⟨#[]⟩ : ByteArray)]) ?_ 3 _ rfl; (with_reducible repeat (first | refine blk_drewN ?_ _ | refine blk_drew ?_ | refine blk_alloc ?_ _)); refine blk_put (cs := #[.int .i64 a0_0, .int .i64 a0_1, .int .i64 0, .int .i64 0, .int .i64 0, .int .i64 0, .string (⟨#[]⟩ : ByteArray)]) ?_ 2 _ rfl; (with_reducible repeat (first | refine blk_drewN ?_ _ | refine blk_drew ?_ | refine blk_alloc ?_ _)); refine blk_put (cs := #[.int .i64 a0_0, .int .i64 0, .int .i64 0, .int .i64 0, .int .i64 0, .int .i64 0, .string (⟨#[]⟩ : ByteArray)]) ?_ 1 _ rfl; (with_reducible repeat (first | refine blk_drewN ?_ _ | refine blk_drew ?_ | refine blk_alloc ?_ _)); refine blk_put (cs := #[.int .i64 0, .int .i64 0, .int .i64 0, .int .i64 0, .int .i64 0, .int .i64 0, .string (⟨#[]⟩ : ByteArray)]) ?_ 0 _ rfl; (with_reducible repeat (first | refine blk_drewN ?_ _ | refine blk_drew ?_ | refine blk_alloc ?_ _)); refine blk_far ?_ NB514_515.out _; (with_reducible repeat (first | refine blk_drewN ?_ _ | refine blk_drew ?_ | refine blk_alloc ?_ _)); refine blk_far ?_ NB514_515.out _; (with_reducible repeat (first | refine blk_drewN ?_ _ | refine blk_drew ?_ | refine blk_alloc ?_ _)); refine blk_far ?_ NB514_515.out _; (with_reducible repeat (first | refine blk_drewN ?_ _ | refine blk_drew ?_ | refine blk_alloc ?_ _)); refine blk_far ?_ NB514_515.out _; (with_reducible repeat (first | refine blk_drewN ?_ _ | refine blk_drew ?_ | refine blk_alloc ?_ _)); refine blk_far ?_ NB514_515.out _; (with_reducible repeat (first | refine blk_drewN ?_ _ | refine blk_drew ?_ | refine blk_alloc ?_ _)); exact BK514.out) Tryd.underlying44 rfl (by kernel_rfl)) rfl ?_
 exact ⟨fi_, bel_⟩

def laws_toEntryS.l0 : Nat → List (S36) → List (S44) → Int → Option ((List (S44)))
 | 0, _, _, _ => none
 | k + 1, x0, x3, x4 => if x4 < (x0.length : Int) then (if 0 ≤ x4 then ((laws_toEntry.f ((rd_T36 x0 x4).f0) ((rd_T36 x0 x4).f1) ((rd_T36 x0 x4).f2.f0) ((rd_T36 x0 x4).f2.f1) ((rd_T36 x0 x4).f2.f2) ((rd_T36 x0 x4).f2.f3) ((rd_T36 x0 x4).f2.f4)).bind fun bt525 => (if x4 < (x3.length : Int) then (laws_toEntryS.l0 k x0 (x3.set (x4 : Int).toNat (⟨bt525.1, bt525.2.1, (⟨bt525.2.2.1, bt525.2.2.2.1, bt525.2.2.2.2.1, bt525.2.2.2.2.2.1, bt525.2.2.2.2.2.2⟩ : S42)⟩ : S44)) (wrap64 (x4 + 1))) else (none))) else (none)) else (some x3)
def laws_toEntryS.f (k : Nat) (l0 : List (S36)) : Option ((List (S44))) := if 0 ≤ (l0.length : Int) then (if ((l0.length : Int) : Int).toNat ≤ 4398046511104 then (laws_toEntryS.l0 k l0 (List.replicate ((l0.length : Int) : Int).toNat z44) 0) else (none)) else (none)
theorem laws_toEntryS.mono_l : ∀ k, (∀ y0 y1 y2, LeO (laws_toEntryS.l0 k y0 y1 y2) (laws_toEntryS.l0 (k + 1) y0 y1 y2))
 | 0 => fun _ _ _ r h => by simp [laws_toEntryS.l0] at h
 | k + 1 => by
  have ih0 := laws_toEntryS.mono_l k
  ·intro y0 y1 y2
   unfold laws_toEntryS.l0
   repeat' first
   | (with_reducible exact ih0 _ _ _)
   | (with_reducible exact LeO.refl _)
   | (with_reducible exact LeO.none _)
   | (with_reducible refine LeO.ite ?_ ?_)
   | (with_reducible refine LeO.bind ?_ (fun _ => ?_))
   | exact ih0 _ _ _
   | exact LeO.none _
   | refine LeO.ite ?_ ?_
   | refine LeO.bind ?_ (fun _ => ?_)
theorem laws_toEntryS.mono : ∀ a0 k, LeO (laws_toEntryS.f k a0) (laws_toEntryS.f (k + 1) a0) := by
 intro a0 k
 have ih0 := laws_toEntryS.mono_l k
 unfold laws_toEntryS.f
 repeat' first
   | (with_reducible exact ih0 _ _ _)
   | (with_reducible exact LeO.refl _)
   | (with_reducible exact LeO.none _)
   | (with_reducible refine LeO.ite ?_ ?_)
   | (with_reducible refine LeO.bind ?_ (fun _ => ?_))
   | exact ih0 _ _ _
   | exact LeO.none _
   | refine LeO.ite ?_ ?_
   | refine LeO.bind ?_ (fun _ => ?_)
set_option maxHeartbeats 8000000 in
set_option maxRecDepth 100000 in
theorem laws_toEntryS.calls (k : Nat) (A0 : Option Addr) (c0 : Nat) (l0 : List (S36)) (r : List (S44)) (w : World) (hr0 : Kd.C k36 w A0 l0.length l0) (hc0 : l0.length ≤ c0) (h : laws_toEntryS.f k l0 = some r) :
  Calls Tryd.prog 50 #[.slice A0 l0.length c0] w fun e w' => ∃ v0_ : Value, e = .returned (v0_) ∧ Kd.R k44 44 w' w.heap.size (fun _ => True) v0_ r ∧ Below w.heap.size w w' := by
 have hu36 := Tryd.underlying36
 have hu44 := Tryd.underlying44
 have HR0 := Aside0.mk hr0
 have HC0 := Aside0.mk hc0
 clear hr0 hc0
 have HB := Aside0.mk (Below.refl w.heap.size w)
 unfold laws_toEntryS.f at h
 have H := h
 clear h
 by_cases c2 : 0 ≤ (l0.length : Int)
 ·rw [if_pos c2] at H
  have c2b0 := eq_true c2
  have c2b1 : decide (0 ≤ (l0.length : Int)) = true := decide_eq_true c2
  clear c2
  by_cases c3 : ((l0.length : Int) : Int).toNat ≤ 4398046511104
  ·rw [if_pos c3] at H
   have c3b0 := eq_true c3
   have c3b1 : decide (((l0.length : Int) : Int).toNat ≤ 4398046511104) = true := decide_eq_true c3
   clear c3
   obtain ⟨y521, hy521⟩ : ∃ y_ : List (S44), y_ = (List.replicate ((l0.length : Int) : Int).toNat z44) := ⟨_, rfl⟩
   replace H : (laws_toEntryS.l0 k l0 y521 0) = some r := by first | (rw [hy521]; with_reducible exact H) | (have H2_ := (Option.bind_some _ _).symm.trans H; rw [hy521]; with_reducible exact H2_) | (have H2_ := (Option.bind_some _ _).symm.trans H; with_reducible exact H2_) | with_reducible exact H | (rw [hy521]; exact H) | exact H
   have Ny521 := Aside0.mk hy521
   clear hy521
   have H' := Aside0.mk H
   clear H
   go_enter Tryd.func50, Tryd.ntmps50
   go_wp2_with (first | ((with_reducible refine gate_dst (N := 7) rfl ?_); refine Kd.R_make k44 _ 44 rfl (N := 7) rfl 23 _ _ rfl (l0.length : Int) rfl rfl Tryd.underlying23 (.agg #[(.int .i64 0), (.int .i64 0), (.int .i64 0), (.int .i64 0), (.int .i64 0), (.int .i64 0), (.string ⟨#[]⟩)]) 64 info44 rfl (by decide) (by omega) z44 (ok := fun _ => True) (okp := fun _ => True) (k44_mkM _ _ _ z44 ) (fun _ hk => hk) trivial (od_) (Nat.le_trans (Nat.mul_le_mul_right _ (od_ : (l0.length : Int).toNat ≤ 4398046511104)) (by omega)) (Below.refl _ _) (Nat.le_refl _) ?_; intro v522 w4 ho5 hb hg_ hnew_; clear hg_ hnew_; (first | rw [← Ny521.out] at ho5 | (simp only [Int.reduceToNat] at ho5; rw [← Ny521.out] at ho5)); have HO523 := Aside0.mk (Kd.R_lower ho5 (below_size (bel_))); replace HB := Aside0.mk (below_step (bel_) hb); clear hb ho5))
   go_loopg [4] k (fun kq v4 w' => ∃ (x3_1 : List (S44)) (x4_1 : Int), v4 = .int .i64 x4_1 ∧ Aside0 (laws_toEntryS.l0 kq l0 x3_1 x4_1 = some r) ∧ Aside0 (kq ≤ k) ∧ Aside0 (Kd.R k44 44 w' w.heap.size (fun _ => True) v522 x3_1) ∧ Aside0 (Below w.heap.size w w'))
   case atStart => exact ⟨(y521), (0), (si_), H', ⟨Nat.le_refl _⟩, ⟨by (with_reducible repeat (first | apply Kd.R_alloc | apply Kd.R_drewN | apply Kd.R_drew)); exact HO523.out⟩, ⟨bel_⟩⟩
   case round =>
    clear H'
    try clear c2
    try clear c2b0
    try clear c2b1
    try clear p2
    try clear c3
    try clear c3b0
    try clear c3b1
    try clear c5
    obtain ⟨x3_1, x4_1, rfl, HA, HK1, HO_3, HB⟩ := hrel
    cases gk with
    | zero => exact absurd HA.out (by simp [laws_toEntryS.l0])
    | succ k1 =>
     have H := HA.out
     clear HA
     simp only [laws_toEntryS.l0] at H
     by_cases c6 : x4_1 < (l0.length : Int)
     ·rw [if_pos c6] at H
      have c6b0 : decide (x4_1 < (l0.length : Int)) = true := decide_eq_true c6
      clear c6
      by_cases c7 : 0 ≤ x4_1
      ·rw [if_pos c7] at H
       have c7b0 : decide (0 ≤ x4_1) = true := decide_eq_true c7
       clear c7
       replace H := Option.bind_eq_some_iff.mp H
       obtain ⟨⟨t525, t526, t527, t528, t529, t530, t531⟩, A80, H⟩ := H
       try dsimp only at H
       have A8 := Aside0.mk A80
       clear A80
       by_cases c9 : x4_1 < (x3_1.length : Int)
       ·rw [if_pos c9] at H
        have c9b0 : decide (x4_1 < (x3_1.length : Int)) = true := decide_eq_true c9
        clear c9
        obtain ⟨y532, hy532⟩ : ∃ y_ : List (S44), y_ = (x3_1.set (x4_1 : Int).toNat (⟨t525, t526, (⟨t527, t528, t529, t530, t531⟩ : S42)⟩ : S44)) := ⟨_, rfl⟩
        replace H : (laws_toEntryS.l0 k1 l0 y532 (wrap64 (x4_1 + 1))) = some r := by first | (rw [hy532]; with_reducible exact H) | (have H2_ := (Option.bind_some _ _).symm.trans H; rw [hy532]; with_reducible exact H2_) | (have H2_ := (Option.bind_some _ _).symm.trans H; with_reducible exact H2_) | with_reducible exact H | (rw [hy532]; exact H) | exact H
        have Ny532 := Aside0.mk hy532
        clear hy532
        have H' := Aside0.mk H
        clear H
        have p524 : 0 ≤ (x4_1 : Int) := od_
        have q524 : x4_1 < (l0.length : Int) := od_
        obtain ⟨ad524, e524, hx524_0, hx524_1, hx524_2, hx524_3, hx524_4, hx524_5, hx524_6⟩ := at_T36 HR0.out x4_1 p524 q524
        cases e524
        replace hx524_0 := (cb_ HB.out hx524_0 :)
        replace hx524_1 := (cb_ HB.out hx524_1 :)
        replace hx524_2 := (cb_ HB.out hx524_2 :)
        replace hx524_3 := (cb_ HB.out hx524_3 :)
        replace hx524_4 := (cb_ HB.out hx524_4 :)
        replace hx524_5 := (cb_ HB.out hx524_5 :)
        replace hx524_6 := (cb_ HB.out hx524_6 :)
        replace p524 := eq_true p524
        replace q524 := eq_true q524
        go_wp2_with (first | ((with_reducible refine gate_callee (f := 23) rfl ?_); refine gl_ 20 Tryd.func23 #[.agg #[.int .i64 ((rd_T36 l0 x4_1).f0), .int .i64 ((rd_T36 l0 x4_1).f1), .int .i64 ((rd_T36 l0 x4_1).f2.f0), .int .i64 ((rd_T36 l0 x4_1).f2.f1), .int .i64 ((rd_T36 l0 x4_1).f2.f2), .int .i64 ((rd_T36 l0 x4_1).f2.f3), .string ((rd_T36 l0 x4_1).f2.f4)]] ?_; (with_reducible refine (laws_toEntry.calls ((rd_T36 l0 x4_1).f0) ((rd_T36 l0 x4_1).f1) ((rd_T36 l0 x4_1).f2.f0) ((rd_T36 l0 x4_1).f2.f1) ((rd_T36 l0 x4_1).f2.f2) ((rd_T36 l0 x4_1).f2.f3) ((rd_T36 l0 x4_1).f2.f4) t525 t526 t527 t528 t529 t530 t531 _ A8.out).mono ?_); rintro e w11 ⟨rfl, hb⟩; refine ⟨_, rfl, ?_⟩; replace HO_3 := Aside0.mk (Kd.R_below (rp_ HO_3.out) hb); replace HB := Aside0.mk (below_step (bel_) hb); (try clear hb); have p10 : 0 ≤ (x4_1 : Int) := od_; have q10 : (x4_1 : Int) < ((x3_1.length : Int) : Int) := od_; obtain ⟨go10, co10, eo10, gb10, gl10, cl10, HG10⟩ := Kd.R_form HO_3.out (by omega); (first | cases eo10 | (injection eo10 with ea_ en_ ec_; (first | subst ea_ | (injection ea_ with ea_; subst ea_)); subst ec_; clear en_)); have GB10 := Aside0.mk gb10; have GG10 := Aside0.mk HG10; clear gb10 gl10 HG10; obtain ⟨ce10, hcl10, hM10, hcc10, hfr10⟩ := Kd.R_elem HO_3.out z44 (x4_1 : Int) p10 q10; obtain rfl := k44_openM hM10; have hx10_0 : w11.cell? ⟨go10, (x4_1 : Int).toNat * 7, none⟩ = some (.int .i64 ((rd_T44 x3_1 x4_1).f0)) := hcc10 0 _ rfl; have hx10_1 : w11.cell? ⟨go10, (x4_1 : Int).toNat * 7 + 1, none⟩ = some (.int .i64 ((rd_T44 x3_1 x4_1).f1)) := hcc10 1 _ rfl; have hx10_2 : w11.cell? ⟨go10, (x4_1 : Int).toNat * 7 + 2, none⟩ = some (.int .i64 ((rd_T44 x3_1 x4_1).f2.f0)) := hcc10 2 _ rfl; have hx10_3 : w11.cell? ⟨go10, (x4_1 : Int).toNat * 7 + 3, none⟩ = some (.int .i64 ((rd_T44 x3_1 x4_1).f2.f1)) := hcc10 3 _ rfl; have hx10_4 : w11.cell? ⟨go10, (x4_1 : Int).toNat * 7 + 4, none⟩ = some (.int .i64 ((rd_T44 x3_1 x4_1).f2.f2)) := hcc10 4 _ rfl; have hx10_5 : w11.cell? ⟨go10, (x4_1 : Int).toNat * 7 + 5, none⟩ = some (.int .i64 ((rd_T44 x3_1 x4_1).f2.f3)) := hcc10 5 _ rfl; have hx10_6 : w11.cell? ⟨go10, (x4_1 : Int).toNat * 7 + 6, none⟩ = some (.string ((rd_T44 x3_1 x4_1).f2.f4)) := hcc10 6 _ rfl; have hf10_0 : w11.frozen? ⟨go10, (x4_1 : Int).toNat * 7, none⟩ = false := hfr10 0; have hf10_1 : w11.frozen? ⟨go10, (x4_1 : Int).toNat * 7 + 1, none⟩ = false := hfr10 1; have hf10_2 : w11.frozen? ⟨go10, (x4_1 : Int).toNat * 7 + 2, none⟩ = false := hfr10 2; have hf10_3 : w11.frozen? ⟨go10, (x4_1 : Int).toNat * 7 + 3, none⟩ = false := hfr10 3; have hf10_4 : w11.frozen? ⟨go10, (x4_1 : Int).toNat * 7 + 4, none⟩ = false := hfr10 4; have hf10_5 : w11.frozen? ⟨go10, (x4_1 : Int).toNat * 7 + 5, none⟩ = false := hfr10 5; have hf10_6 : w11.frozen? ⟨go10, (x4_1 : Int).toNat * 7 + 6, none⟩ = false := hfr10 6; clear hcl10 hcc10 hfr10 hM10; replace p10 := eq_true p10; replace q10 := eq_true q10; have HX12 := Aside0.mk (show Kd.R k44 44 w11 w.heap.size (fun _ => True) (.slice (some ⟨go10, 0, none⟩) x3_1.length co10) x3_1 from (rp_ HO_3.out)); obtain ⟨ce12, hcl12, hM12, hcc12, hfr12⟩ := Kd.R_elem HX12.out z44 (x4_1 : Int) (od_) (by have h_ : (x4_1 : Int) < ((x3_1.length : Int) : Int) := od_; first | exact h_ | (have e_ := (Kd.R_reads' HO_3.out).1; omega) | simpa using h_); obtain rfl := k44_openM hM12; have HP12 := Kd.R_seg HX12.out (x4_1 : Int) (od_) (by have h_ : (x4_1 : Int) < ((x3_1.length : Int) : Int) := od_; first | exact h_ | (have e_ := (Kd.R_reads' HO_3.out).1; omega) | simpa using h_) (seg := [.int .i64 t525, .int .i64 t526, .int .i64 t527, .int .i64 t528, .int .i64 t529, .int .i64 t530, .string t531]) (j := 0) hcl12 hcc12 (show 7 ≤ 7 from by decide) (x' := (⟨t525, t526, (⟨t527, t528, t529, t530, t531⟩ : S42)⟩ : S44)) (k44_mkM _ _ _ (⟨t525, t526, (⟨t527, t528, t529, t530, t531⟩ : S42)⟩ : S44) ) (fun _ hk => hk); have hx12_0 := hcc12 0 _ rfl; (try simp only [show (k44).sz = 7 from rfl, Nat.mul_one, Nat.add_zero] at hx12_0); have hf12_0 := hfr12 0; (try simp only [show (k44).sz = 7 from rfl, Nat.mul_one, Nat.add_zero] at hf12_0); have hx12_1 := hcc12 1 _ rfl; (try simp only [show (k44).sz = 7 from rfl, Nat.mul_one, Nat.add_zero] at hx12_1); have hf12_1 := hfr12 1; (try simp only [show (k44).sz = 7 from rfl, Nat.mul_one, Nat.add_zero] at hf12_1); have hx12_2 := hcc12 2 _ rfl; (try simp only [show (k44).sz = 7 from rfl, Nat.mul_one, Nat.add_zero] at hx12_2); have hf12_2 := hfr12 2; (try simp only [show (k44).sz = 7 from rfl, Nat.mul_one, Nat.add_zero] at hf12_2); have hx12_3 := hcc12 3 _ rfl; (try simp only [show (k44).sz = 7 from rfl, Nat.mul_one, Nat.add_zero] at hx12_3); have hf12_3 := hfr12 3; (try simp only [show (k44).sz = 7 from rfl, Nat.mul_one, Nat.add_zero] at hf12_3); have hx12_4 := hcc12 4 _ rfl; (try simp only [show (k44).sz = 7 from rfl, Nat.mul_one, Nat.add_zero] at hx12_4); have hf12_4 := hfr12 4; (try simp only [show (k44).sz = 7 from rfl, Nat.mul_one, Nat.add_zero] at hf12_4); have hx12_5 := hcc12 5 _ rfl; (try simp only [show (k44).sz = 7 from rfl, Nat.mul_one, Nat.add_zero] at hx12_5); have hf12_5 := hfr12 5; (try simp only [show (k44).sz = 7 from rfl, Nat.mul_one, Nat.add_zero] at hf12_5); have hx12_6 := hcc12 6 _ rfl; (try simp only [show (k44).sz = 7 from rfl, Nat.mul_one, Nat.add_zero] at hx12_6); have hf12_6 := hfr12 6; (try simp only [show (k44).sz = 7 from rfl, Nat.mul_one, Nat.add_zero] at hf12_6); clear hcl12 hcc12 hfr12 hM12) | ((with_reducible refine gate_store (t := 44) (p := 21) rfl ?_); refine store_event (t := 44) (p := 21) (v := ?vo_w13) (w1 := (((((((w11.setCell ⟨go10, (x4_1 : Int).toNat * 7, none⟩ (.int .i64 t525)).setCell ⟨go10, (x4_1 : Int).toNat * 7 + 1, none⟩ (.int .i64 t526)).setCell ⟨go10, (x4_1 : Int).toNat * 7 + 2, none⟩ (.int .i64 t527)).setCell ⟨go10, (x4_1 : Int).toNat * 7 + 3, none⟩ (.int .i64 t528)).setCell ⟨go10, (x4_1 : Int).toNat * 7 + 4, none⟩ (.int .i64 t529)).setCell ⟨go10, (x4_1 : Int).toNat * 7 + 5, none⟩ (.int .i64 t530)).setCell ⟨go10, (x4_1 : Int).toNat * 7 + 6, none⟩ (.string t531))) ?hg ?ho ?hn ?hr ?_; (case ho => rfl); (case hg => rfl); (case hn => rfl); (case hr => first | (go_simp; done) | (go_simp; rfl)); intro w13 hw; have hg : w11.grownBy w13 (some go10) := (by rw [hw]; exact HP12.2); have hp_ : Kd.R k44 44 w13 w.heap.size (fun _ => True) (.slice (some ⟨go10, 0, none⟩) x3_1.length co10) y532 := (by rw [hw, Ny532.out]; exact HP12.1); clear HP12; have n0_ := Aside0.mk (hp_); have n1_ := Aside0.mk ((by rw [hw]; exact below_set (below_set (below_set (below_set (below_set (below_set (below_set (HB.out) GB10.out) GB10.out) GB10.out) GB10.out) GB10.out) GB10.out) GB10.out : Below w.heap.size w w13)); clear HO_3; clear HB; have HO_3 := n0_; have HB := n1_; clear n0_ n1_; clear hg hw hp_))
        go_roundg k1
        case measure => have := HK1.out; omega
        case rel => exact ⟨(y532), (wrap64 (x4_1 + 1)), (si_), H', ⟨by have := HK1.out; omega⟩, ⟨by (with_reducible repeat (first | apply Kd.R_alloc | apply Kd.R_drewN | apply Kd.R_drew)); exact HO_3.out⟩, ⟨bel_⟩⟩
       ·rw [if_neg c9] at H
        exact absurd H (by simp)
      ·rw [if_neg c7] at H
       exact absurd H (by simp)
     ·rw [if_neg c6] at H
      have c6b0 : decide (x4_1 < (l0.length : Int)) = false := decide_eq_false c6
      clear c6
      obtain rfl := Option.some.inj H
      go_wp2
      go_ret
      exact ⟨_, fi_, by (with_reducible repeat (first | apply Kd.R_alloc | apply Kd.R_drewN | apply Kd.R_drew)); exact HO_3.out, bel_⟩
  ·rw [if_neg c3] at H
   exact absurd H (by simp)
 ·rw [if_neg c2] at H
  exact absurd H (by simp)

def laws_eqOp.f (a0_0 : Int) (a0_1 : Int) (a0_2 : Int) (a0_3 : Int) (a0_4 : ByteArray) (a1_0 : Int) (a1_1 : Int) (a1_2 : Int) (a1_3 : Int) (a1_4 : ByteArray) : Option (Bool) := if a0_0 = a1_0 then (if a0_1 = a1_1 then (if a0_2 = a1_2 then (if a0_3 = a1_3 then (if a0_4.toList = a1_4.toList then (some true) else (some false)) else (some false)) else (some false)) else (some false)) else (some false)
set_option maxHeartbeats 8000000 in
set_option maxRecDepth 100000 in
theorem laws_eqOp.calls (a0_0 : Int) (a0_1 : Int) (a0_2 : Int) (a0_3 : Int) (a0_4 : ByteArray) (a1_0 : Int) (a1_1 : Int) (a1_2 : Int) (a1_3 : Int) (a1_4 : ByteArray) (r : Bool) (w : World) (h : laws_eqOp.f a0_0 a0_1 a0_2 a0_3 a0_4 a1_0 a1_1 a1_2 a1_3 a1_4 = some r) :
  Calls Tryd.prog 137 #[.agg #[.int .i64 a0_0, .int .i64 a0_1, .int .i64 a0_2, .int .i64 a0_3, .string a0_4], .agg #[.int .i64 a1_0, .int .i64 a1_1, .int .i64 a1_2, .int .i64 a1_3, .string a1_4]] w fun e w' => e = .returned (.bool r) ∧ Below w.heap.size w w' := by
 have hu42 := Tryd.underlying42
 have HB := Aside0.mk (Below.refl w.heap.size w)
 unfold laws_eqOp.f at h
 have H := h
 clear h
 by_cases c3 : a0_0 = a1_0
 ·rw [if_pos c3] at H
  have c3b0 : (a0_0 == a1_0) = true := beq_iff_eq.mpr c3
  have c3b1 : (a0_0 != a1_0) = false := bne_eq_false_iff_eq.mpr c3
  clear c3
  by_cases c4 : a0_1 = a1_1
  ·rw [if_pos c4] at H
   have c4b0 : (a0_1 == a1_1) = true := beq_iff_eq.mpr c4
   have c4b1 : (a0_1 != a1_1) = false := bne_eq_false_iff_eq.mpr c4
   clear c4
   by_cases c5 : a0_2 = a1_2
   ·rw [if_pos c5] at H
    have c5b0 : (a0_2 == a1_2) = true := beq_iff_eq.mpr c5
    have c5b1 : (a0_2 != a1_2) = false := bne_eq_false_iff_eq.mpr c5
    clear c5
    by_cases c6 : a0_3 = a1_3
    ·rw [if_pos c6] at H
     have c6b0 : (a0_3 == a1_3) = true := beq_iff_eq.mpr c6
     have c6b1 : (a0_3 != a1_3) = false := bne_eq_false_iff_eq.mpr c6
     clear c6
     by_cases c7 : a0_4.toList = a1_4.toList
     ·rw [if_pos c7] at H
      have c7b0 : (a0_4.toList == a1_4.toList) = true := beq_iff_eq.mpr c7
      have c7b1 : (a0_4.toList != a1_4.toList) = false := bne_eq_false_iff_eq.mpr c7
      clear c7
      obtain rfl := Option.some.inj H
      go_enter Tryd.func137, Tryd.ntmps137
      go_wp2_with (first | ((with_reducible refine gate_dst (N := 2) rfl ?_); refine bx_ 2 (#[.int .i64 a0_0, .int .i64 a0_1, .int .i64 a0_2, .int .i64 a0_3, .string a0_4]) 42 ?_; intro gb552 hg w8 hbox hb; have n0_ := Aside0.mk (below_step (bel_) hb); have n1_ := Aside0.mk (hbox); have n2_ := Aside0.mk ((by rw [hg]; exact (below_size (bel_)) : w.heap.size ≤ gb552)); have n3_ := Aside0.mk ((by rw [hg]; exact (below_size (bel_)) : w.heap.size ≤ gb552)); clear HB; have HB := n0_; have BK552 := n1_; have GW552 := n2_; have GE552 := n3_; clear n0_ n1_ n2_ n3_; clear hb hbox hg) | ((with_reducible refine gate_dst (N := 3) rfl ?_); refine bx_ 3 (#[.int .i64 a1_0, .int .i64 a1_1, .int .i64 a1_2, .int .i64 a1_3, .string a1_4]) 42 ?_; intro gb553 hg w9 hbox hb; have n0_ := Aside0.mk (bb_ BK552.out hb); have n1_ := Aside0.mk (below_step (bel_) hb); have n2_ := Aside0.mk (hbox); have n3_ := Aside0.mk ((by rw [hg]; exact (below_size (bel_)) : w.heap.size ≤ gb553)); have n4_ := Aside0.mk ((by rw [hg]; exact (below_size (bel_)) : w.heap.size ≤ gb553)); have n5_ := Aside0.mk ((by rw [hg]; exact Nat.ne_of_lt (blk_lt (g := gb552) (o := .cells #[.int .i64 a0_0, .int .i64 a0_1, .int .i64 a0_2, .int .i64 a0_3, .string a0_4] 42 (0, 0)) (bp_ BK552.out)) : gb552 ≠ gb553)); have n6_ := Aside0.mk ((by rw [hg]; exact Nat.ne_of_gt (blk_lt (g := gb552) (o := .cells #[.int .i64 a0_0, .int .i64 a0_1, .int .i64 a0_2, .int .i64 a0_3, .string a0_4] 42 (0, 0)) (bp_ BK552.out)) : gb553 ≠ gb552)); clear BK552; clear HB; have BK552 := n0_; have HB := n1_; have BK553 := n2_; have GW553 := n3_; have GE553 := n4_; have NB552_553 := n5_; have NB553_552 := n6_; clear n0_ n1_ n2_ n3_ n4_ n5_ n6_; clear hb hbox hg; have hnb10 := NB552_553.out; have hnc10 := NB553_552.out; have hcz11_0 := cz_ BK552.out 0 (.int .i64 a0_0); have hcz11_1 := cz_ BK552.out 1 (.int .i64 a0_1); have hcz11_2 := cz_ BK552.out 2 (.int .i64 a0_2); have hcz11_3 := cz_ BK552.out 3 (.int .i64 a0_3); have hcz11_4 := cz_ BK552.out 4 (.string a0_4); have hfz11_0 := blk_frozen BK552.out 0; have hfz11_1 := blk_frozen BK552.out 1; have hfz11_2 := blk_frozen BK552.out 2; have hfz11_3 := blk_frozen BK552.out 3; have hfz11_4 := blk_frozen BK552.out 4; have hcz12_0 := cz_ BK553.out 0 (.int .i64 a1_0); have hcz12_1 := cz_ BK553.out 1 (.int .i64 a1_1); have hcz12_2 := cz_ BK553.out 2 (.int .i64 a1_2); have hcz12_3 := cz_ BK553.out 3 (.int .i64 a1_3); have hcz12_4 := cz_ BK553.out 4 (.string a1_4); have hfz12_0 := blk_frozen BK553.out 0; have hfz12_1 := blk_frozen BK553.out 1; have hfz12_2 := blk_frozen BK553.out 2; have hfz12_3 := blk_frozen BK553.out 3; have hfz12_4 := blk_frozen BK553.out 4))
      go_ret
      exact ⟨fi_, bel_⟩
     ·rw [if_neg c7] at H
      have c7b0 : (a0_4.toList == a1_4.toList) = false := beq_eq_false_iff_ne.mpr c7
      have c7b1 : (a0_4.toList != a1_4.toList) = true := bne_iff_ne.mpr c7
      obtain rfl := Option.some.inj H
      go_enter Tryd.func137, Tryd.ntmps137
      go_wp2_with (first | ((with_reducible refine gate_dst (N := 2) rfl ?_); refine bx_ 2 (#[.int .i64 a0_0, .int .i64 a0_1, .int .i64 a0_2, .int .i64 a0_3, .string a0_4]) 42 ?_; intro gb552 hg w13 hbox hb; have n0_ := Aside0.mk (below_step (bel_) hb); have n1_ := Aside0.mk (hbox); have n2_ := Aside0.mk ((by rw [hg]; exact (below_size (bel_)) : w.heap.size ≤ gb552)); have n3_ := Aside0.mk ((by rw [hg]; exact (below_size (bel_)) : w.heap.size ≤ gb552)); clear HB; have HB := n0_; have BK552 := n1_; have GW552 := n2_; have GE552 := n3_; clear n0_ n1_ n2_ n3_; clear hb hbox hg) | ((with_reducible refine gate_dst (N := 3) rfl ?_); refine bx_ 3 (#[.int .i64 a1_0, .int .i64 a1_1, .int .i64 a1_2, .int .i64 a1_3, .string a1_4]) 42 ?_; intro gb553 hg w14 hbox hb; have n0_ := Aside0.mk (bb_ BK552.out hb); have n1_ := Aside0.mk (below_step (bel_) hb); have n2_ := Aside0.mk (hbox); have n3_ := Aside0.mk ((by rw [hg]; exact (below_size (bel_)) : w.heap.size ≤ gb553)); have n4_ := Aside0.mk ((by rw [hg]; exact (below_size (bel_)) : w.heap.size ≤ gb553)); have n5_ := Aside0.mk ((by rw [hg]; exact Nat.ne_of_lt (blk_lt (g := gb552) (o := .cells #[.int .i64 a0_0, .int .i64 a0_1, .int .i64 a0_2, .int .i64 a0_3, .string a0_4] 42 (0, 0)) (bp_ BK552.out)) : gb552 ≠ gb553)); have n6_ := Aside0.mk ((by rw [hg]; exact Nat.ne_of_gt (blk_lt (g := gb552) (o := .cells #[.int .i64 a0_0, .int .i64 a0_1, .int .i64 a0_2, .int .i64 a0_3, .string a0_4] 42 (0, 0)) (bp_ BK552.out)) : gb553 ≠ gb552)); clear BK552; clear HB; have BK552 := n0_; have HB := n1_; have BK553 := n2_; have GW553 := n3_; have GE553 := n4_; have NB552_553 := n5_; have NB553_552 := n6_; clear n0_ n1_ n2_ n3_ n4_ n5_ n6_; clear hb hbox hg; have hnb15 := NB552_553.out; have hnc15 := NB553_552.out; have hcz16_0 := cz_ BK552.out 0 (.int .i64 a0_0); have hcz16_1 := cz_ BK552.out 1 (.int .i64 a0_1); have hcz16_2 := cz_ BK552.out 2 (.int .i64 a0_2); have hcz16_3 := cz_ BK552.out 3 (.int .i64 a0_3); have hcz16_4 := cz_ BK552.out 4 (.string a0_4); have hfz16_0 := blk_frozen BK552.out 0; have hfz16_1 := blk_frozen BK552.out 1; have hfz16_2 := blk_frozen BK552.out 2; have hfz16_3 := blk_frozen BK552.out 3; have hfz16_4 := blk_frozen BK552.out 4; have hcz17_0 := cz_ BK553.out 0 (.int .i64 a1_0); have hcz17_1 := cz_ BK553.out 1 (.int .i64 a1_1); have hcz17_2 := cz_ BK553.out 2 (.int .i64 a1_2); have hcz17_3 := cz_ BK553.out 3 (.int .i64 a1_3); have hcz17_4 := cz_ BK553.out 4 (.string a1_4); have hfz17_0 := blk_frozen BK553.out 0; have hfz17_1 := blk_frozen BK553.out 1; have hfz17_2 := blk_frozen BK553.out 2; have hfz17_3 := blk_frozen BK553.out 3; have hfz17_4 := blk_frozen BK553.out 4))
      go_ret
      exact ⟨fi_, bel_⟩
    ·rw [if_neg c6] at H
     have c6b0 : (a0_3 == a1_3) = false := beq_eq_false_iff_ne.mpr c6
     have c6b1 : (a0_3 != a1_3) = true := bne_iff_ne.mpr c6
     obtain rfl := Option.some.inj H
     go_enter Tryd.func137, Tryd.ntmps137
     go_wp2_with (first | ((with_reducible refine gate_dst (N := 2) rfl ?_); refine bx_ 2 (#[.int .i64 a0_0, .int .i64 a0_1, .int .i64 a0_2, .int .i64 a0_3, .string a0_4]) 42 ?_; intro gb552 hg w18 hbox hb; have n0_ := Aside0.mk (below_step (bel_) hb); have n1_ := Aside0.mk (hbox); have n2_ := Aside0.mk ((by rw [hg]; exact (below_size (bel_)) : w.heap.size ≤ gb552)); have n3_ := Aside0.mk ((by rw [hg]; exact (below_size (bel_)) : w.heap.size ≤ gb552)); clear HB; have HB := n0_; have BK552 := n1_; have GW552 := n2_; have GE552 := n3_; clear n0_ n1_ n2_ n3_; clear hb hbox hg) | ((with_reducible refine gate_dst (N := 3) rfl ?_); refine bx_ 3 (#[.int .i64 a1_0, .int .i64 a1_1, .int .i64 a1_2, .int .i64 a1_3, .string a1_4]) 42 ?_; intro gb553 hg w19 hbox hb; have n0_ := Aside0.mk (bb_ BK552.out hb); have n1_ := Aside0.mk (below_step (bel_) hb); have n2_ := Aside0.mk (hbox); have n3_ := Aside0.mk ((by rw [hg]; exact (below_size (bel_)) : w.heap.size ≤ gb553)); have n4_ := Aside0.mk ((by rw [hg]; exact (below_size (bel_)) : w.heap.size ≤ gb553)); have n5_ := Aside0.mk ((by rw [hg]; exact Nat.ne_of_lt (blk_lt (g := gb552) (o := .cells #[.int .i64 a0_0, .int .i64 a0_1, .int .i64 a0_2, .int .i64 a0_3, .string a0_4] 42 (0, 0)) (bp_ BK552.out)) : gb552 ≠ gb553)); have n6_ := Aside0.mk ((by rw [hg]; exact Nat.ne_of_gt (blk_lt (g := gb552) (o := .cells #[.int .i64 a0_0, .int .i64 a0_1, .int .i64 a0_2, .int .i64 a0_3, .string a0_4] 42 (0, 0)) (bp_ BK552.out)) : gb553 ≠ gb552)); clear BK552; clear HB; have BK552 := n0_; have HB := n1_; have BK553 := n2_; have GW553 := n3_; have GE553 := n4_; have NB552_553 := n5_; have NB553_552 := n6_; clear n0_ n1_ n2_ n3_ n4_ n5_ n6_; clear hb hbox hg; have hnb20 := NB552_553.out; have hnc20 := NB553_552.out; have hcz21_0 := cz_ BK552.out 0 (.int .i64 a0_0); have hcz21_1 := cz_ BK552.out 1 (.int .i64 a0_1); have hcz21_2 := cz_ BK552.out 2 (.int .i64 a0_2); have hcz21_3 := cz_ BK552.out 3 (.int .i64 a0_3); have hcz21_4 := cz_ BK552.out 4 (.string a0_4); have hfz21_0 := blk_frozen BK552.out 0; have hfz21_1 := blk_frozen BK552.out 1; have hfz21_2 := blk_frozen BK552.out 2; have hfz21_3 := blk_frozen BK552.out 3; have hfz21_4 := blk_frozen BK552.out 4; have hcz22_0 := cz_ BK553.out 0 (.int .i64 a1_0); have hcz22_1 := cz_ BK553.out 1 (.int .i64 a1_1); have hcz22_2 := cz_ BK553.out 2 (.int .i64 a1_2); have hcz22_3 := cz_ BK553.out 3 (.int .i64 a1_3); have hcz22_4 := cz_ BK553.out 4 (.string a1_4); have hfz22_0 := blk_frozen BK553.out 0; have hfz22_1 := blk_frozen BK553.out 1; have hfz22_2 := blk_frozen BK553.out 2; have hfz22_3 := blk_frozen BK553.out 3; have hfz22_4 := blk_frozen BK553.out 4))
     go_ret
     exact ⟨fi_, bel_⟩
   ·rw [if_neg c5] at H
    have c5b0 : (a0_2 == a1_2) = false := beq_eq_false_iff_ne.mpr c5
    have c5b1 : (a0_2 != a1_2) = true := bne_iff_ne.mpr c5
    obtain rfl := Option.some.inj H
    go_enter Tryd.func137, Tryd.ntmps137
    go_wp2_with (first | ((with_reducible refine gate_dst (N := 2) rfl ?_); refine bx_ 2 (#[.int .i64 a0_0, .int .i64 a0_1, .int .i64 a0_2, .int .i64 a0_3, .string a0_4]) 42 ?_; intro gb552 hg w23 hbox hb; have n0_ := Aside0.mk (below_step (bel_) hb); have n1_ := Aside0.mk (hbox); have n2_ := Aside0.mk ((by rw [hg]; exact (below_size (bel_)) : w.heap.size ≤ gb552)); have n3_ := Aside0.mk ((by rw [hg]; exact (below_size (bel_)) : w.heap.size ≤ gb552)); clear HB; have HB := n0_; have BK552 := n1_; have GW552 := n2_; have GE552 := n3_; clear n0_ n1_ n2_ n3_; clear hb hbox hg) | ((with_reducible refine gate_dst (N := 3) rfl ?_); refine bx_ 3 (#[.int .i64 a1_0, .int .i64 a1_1, .int .i64 a1_2, .int .i64 a1_3, .string a1_4]) 42 ?_; intro gb553 hg w24 hbox hb; have n0_ := Aside0.mk (bb_ BK552.out hb); have n1_ := Aside0.mk (below_step (bel_) hb); have n2_ := Aside0.mk (hbox); have n3_ := Aside0.mk ((by rw [hg]; exact (below_size (bel_)) : w.heap.size ≤ gb553)); have n4_ := Aside0.mk ((by rw [hg]; exact (below_size (bel_)) : w.heap.size ≤ gb553)); have n5_ := Aside0.mk ((by rw [hg]; exact Nat.ne_of_lt (blk_lt (g := gb552) (o := .cells #[.int .i64 a0_0, .int .i64 a0_1, .int .i64 a0_2, .int .i64 a0_3, .string a0_4] 42 (0, 0)) (bp_ BK552.out)) : gb552 ≠ gb553)); have n6_ := Aside0.mk ((by rw [hg]; exact Nat.ne_of_gt (blk_lt (g := gb552) (o := .cells #[.int .i64 a0_0, .int .i64 a0_1, .int .i64 a0_2, .int .i64 a0_3, .string a0_4] 42 (0, 0)) (bp_ BK552.out)) : gb553 ≠ gb552)); clear BK552; clear HB; have BK552 := n0_; have HB := n1_; have BK553 := n2_; have GW553 := n3_; have GE553 := n4_; have NB552_553 := n5_; have NB553_552 := n6_; clear n0_ n1_ n2_ n3_ n4_ n5_ n6_; clear hb hbox hg; have hnb25 := NB552_553.out; have hnc25 := NB553_552.out; have hcz26_0 := cz_ BK552.out 0 (.int .i64 a0_0); have hcz26_1 := cz_ BK552.out 1 (.int .i64 a0_1); have hcz26_2 := cz_ BK552.out 2 (.int .i64 a0_2); have hcz26_3 := cz_ BK552.out 3 (.int .i64 a0_3); have hcz26_4 := cz_ BK552.out 4 (.string a0_4); have hfz26_0 := blk_frozen BK552.out 0; have hfz26_1 := blk_frozen BK552.out 1; have hfz26_2 := blk_frozen BK552.out 2; have hfz26_3 := blk_frozen BK552.out 3; have hfz26_4 := blk_frozen BK552.out 4; have hcz27_0 := cz_ BK553.out 0 (.int .i64 a1_0); have hcz27_1 := cz_ BK553.out 1 (.int .i64 a1_1); have hcz27_2 := cz_ BK553.out 2 (.int .i64 a1_2); have hcz27_3 := cz_ BK553.out 3 (.int .i64 a1_3); have hcz27_4 := cz_ BK553.out 4 (.string a1_4); have hfz27_0 := blk_frozen BK553.out 0; have hfz27_1 := blk_frozen BK553.out 1; have hfz27_2 := blk_frozen BK553.out 2; have hfz27_3 := blk_frozen BK553.out 3; have hfz27_4 := blk_frozen BK553.out 4))
    go_ret
    exact ⟨fi_, bel_⟩
  ·rw [if_neg c4] at H
   have c4b0 : (a0_1 == a1_1) = false := beq_eq_false_iff_ne.mpr c4
   have c4b1 : (a0_1 != a1_1) = true := bne_iff_ne.mpr c4
   obtain rfl := Option.some.inj H
   go_enter Tryd.func137, Tryd.ntmps137
   go_wp2_with (first | ((with_reducible refine gate_dst (N := 2) rfl ?_); refine bx_ 2 (#[.int .i64 a0_0, .int .i64 a0_1, .int .i64 a0_2, .int .i64 a0_3, .string a0_4]) 42 ?_; intro gb552 hg w28 hbox hb; have n0_ := Aside0.mk (below_step (bel_) hb); have n1_ := Aside0.mk (hbox); have n2_ := Aside0.mk ((by rw [hg]; exact (below_size (bel_)) : w.heap.size ≤ gb552)); have n3_ := Aside0.mk ((by rw [hg]; exact (below_size (bel_)) : w.heap.size ≤ gb552)); clear HB; have HB := n0_; have BK552 := n1_; have GW552 := n2_; have GE552 := n3_; clear n0_ n1_ n2_ n3_; clear hb hbox hg) | ((with_reducible refine gate_dst (N := 3) rfl ?_); refine bx_ 3 (#[.int .i64 a1_0, .int .i64 a1_1, .int .i64 a1_2, .int .i64 a1_3, .string a1_4]) 42 ?_; intro gb553 hg w29 hbox hb; have n0_ := Aside0.mk (bb_ BK552.out hb); have n1_ := Aside0.mk (below_step (bel_) hb); have n2_ := Aside0.mk (hbox); have n3_ := Aside0.mk ((by rw [hg]; exact (below_size (bel_)) : w.heap.size ≤ gb553)); have n4_ := Aside0.mk ((by rw [hg]; exact (below_size (bel_)) : w.heap.size ≤ gb553)); have n5_ := Aside0.mk ((by rw [hg]; exact Nat.ne_of_lt (blk_lt (g := gb552) (o := .cells #[.int .i64 a0_0, .int .i64 a0_1, .int .i64 a0_2, .int .i64 a0_3, .string a0_4] 42 (0, 0)) (bp_ BK552.out)) : gb552 ≠ gb553)); have n6_ := Aside0.mk ((by rw [hg]; exact Nat.ne_of_gt (blk_lt (g := gb552) (o := .cells #[.int .i64 a0_0, .int .i64 a0_1, .int .i64 a0_2, .int .i64 a0_3, .string a0_4] 42 (0, 0)) (bp_ BK552.out)) : gb553 ≠ gb552)); clear BK552; clear HB; have BK552 := n0_; have HB := n1_; have BK553 := n2_; have GW553 := n3_; have GE553 := n4_; have NB552_553 := n5_; have NB553_552 := n6_; clear n0_ n1_ n2_ n3_ n4_ n5_ n6_; clear hb hbox hg; have hnb30 := NB552_553.out; have hnc30 := NB553_552.out; have hcz31_0 := cz_ BK552.out 0 (.int .i64 a0_0); have hcz31_1 := cz_ BK552.out 1 (.int .i64 a0_1); have hcz31_2 := cz_ BK552.out 2 (.int .i64 a0_2); have hcz31_3 := cz_ BK552.out 3 (.int .i64 a0_3); have hcz31_4 := cz_ BK552.out 4 (.string a0_4); have hfz31_0 := blk_frozen BK552.out 0; have hfz31_1 := blk_frozen BK552.out 1; have hfz31_2 := blk_frozen BK552.out 2; have hfz31_3 := blk_frozen BK552.out 3; have hfz31_4 := blk_frozen BK552.out 4; have hcz32_0 := cz_ BK553.out 0 (.int .i64 a1_0); have hcz32_1 := cz_ BK553.out 1 (.int .i64 a1_1); have hcz32_2 := cz_ BK553.out 2 (.int .i64 a1_2); have hcz32_3 := cz_ BK553.out 3 (.int .i64 a1_3); have hcz32_4 := cz_ BK553.out 4 (.string a1_4); have hfz32_0 := blk_frozen BK553.out 0; have hfz32_1 := blk_frozen BK553.out 1; have hfz32_2 := blk_frozen BK553.out 2; have hfz32_3 := blk_frozen BK553.out 3; have hfz32_4 := blk_frozen BK553.out 4))
   go_ret
   exact ⟨fi_, bel_⟩
 ·rw [if_neg c3] at H
  have c3b0 : (a0_0 == a1_0) = false := beq_eq_false_iff_ne.mpr c3
  have c3b1 : (a0_0 != a1_0) = true := bne_iff_ne.mpr c3
  obtain rfl := Option.some.inj H
  go_enter Tryd.func137, Tryd.ntmps137
  go_wp2_with (first | ((with_reducible refine gate_dst (N := 2) rfl ?_); refine bx_ 2 (#[.int .i64 a0_0, .int .i64 a0_1, .int .i64 a0_2, .int .i64 a0_3, .string a0_4]) 42 ?_; intro gb552 hg w33 hbox hb; have n0_ := Aside0.mk (below_step (bel_) hb); have n1_ := Aside0.mk (hbox); have n2_ := Aside0.mk ((by rw [hg]; exact (below_size (bel_)) : w.heap.size ≤ gb552)); have n3_ := Aside0.mk ((by rw [hg]; exact (below_size (bel_)) : w.heap.size ≤ gb552)); clear HB; have HB := n0_; have BK552 := n1_; have GW552 := n2_; have GE552 := n3_; clear n0_ n1_ n2_ n3_; clear hb hbox hg) | ((with_reducible refine gate_dst (N := 3) rfl ?_); refine bx_ 3 (#[.int .i64 a1_0, .int .i64 a1_1, .int .i64 a1_2, .int .i64 a1_3, .string a1_4]) 42 ?_; intro gb553 hg w34 hbox hb; have n0_ := Aside0.mk (bb_ BK552.out hb); have n1_ := Aside0.mk (below_step (bel_) hb); have n2_ := Aside0.mk (hbox); have n3_ := Aside0.mk ((by rw [hg]; exact (below_size (bel_)) : w.heap.size ≤ gb553)); have n4_ := Aside0.mk ((by rw [hg]; exact (below_size (bel_)) : w.heap.size ≤ gb553)); have n5_ := Aside0.mk ((by rw [hg]; exact Nat.ne_of_lt (blk_lt (g := gb552) (o := .cells #[.int .i64 a0_0, .int .i64 a0_1, .int .i64 a0_2, .int .i64 a0_3, .string a0_4] 42 (0, 0)) (bp_ BK552.out)) : gb552 ≠ gb553)); have n6_ := Aside0.mk ((by rw [hg]; exact Nat.ne_of_gt (blk_lt (g := gb552) (o := .cells #[.int .i64 a0_0, .int .i64 a0_1, .int .i64 a0_2, .int .i64 a0_3, .string a0_4] 42 (0, 0)) (bp_ BK552.out)) : gb553 ≠ gb552)); clear BK552; clear HB; have BK552 := n0_; have HB := n1_; have BK553 := n2_; have GW553 := n3_; have GE553 := n4_; have NB552_553 := n5_; have NB553_552 := n6_; clear n0_ n1_ n2_ n3_ n4_ n5_ n6_; clear hb hbox hg; have hnb35 := NB552_553.out; have hnc35 := NB553_552.out; have hcz36_0 := cz_ BK552.out 0 (.int .i64 a0_0); have hcz36_1 := cz_ BK552.out 1 (.int .i64 a0_1); have hcz36_2 := cz_ BK552.out 2 (.int .i64 a0_2); have hcz36_3 := cz_ BK552.out 3 (.int .i64 a0_3); have hcz36_4 := cz_ BK552.out 4 (.string a0_4); have hfz36_0 := blk_frozen BK552.out 0; have hfz36_1 := blk_frozen BK552.out 1; have hfz36_2 := blk_frozen BK552.out 2; have hfz36_3 := blk_frozen BK552.out 3; have hfz36_4 := blk_frozen BK552.out 4; have hcz37_0 := cz_ BK553.out 0 (.int .i64 a1_0); have hcz37_1 := cz_ BK553.out 1 (.int .i64 a1_1); have hcz37_2 := cz_ BK553.out 2 (.int .i64 a1_2); have hcz37_3 := cz_ BK553.out 3 (.int .i64 a1_3); have hcz37_4 := cz_ BK553.out 4 (.string a1_4); have hfz37_0 := blk_frozen BK553.out 0; have hfz37_1 := blk_frozen BK553.out 1; have hfz37_2 := blk_frozen BK553.out 2; have hfz37_3 := blk_frozen BK553.out 3; have hfz37_4 := blk_frozen BK553.out 4))
  go_ret
  exact ⟨fi_, bel_⟩

def laws_eqEntry.f (a0_0 : Int) (a0_1 : Int) (a0_2 : Int) (a0_3 : Int) (a0_4 : Int) (a0_5 : Int) (a0_6 : ByteArray) (a1_0 : Int) (a1_1 : Int) (a1_2 : Int) (a1_3 : Int) (a1_4 : Int) (a1_5 : Int) (a1_6 : ByteArray) : Option (Bool) := if a0_0 = a1_0 then (if a0_1 = a1_1 then ((laws_eqOp.f a0_2 a0_3 a0_4 a0_5 a0_6 a1_2 a1_3 a1_4 a1_5 a1_6).bind fun t556 => (if t556 = true then (some true) else (some false))) else (some false)) else (some false)
set_option maxHeartbeats 8000000 in
set_option maxRecDepth 100000 in
theorem laws_eqEntry.calls (a0_0 : Int) (a0_1 : Int) (a0_2 : Int) (a0_3 : Int) (a0_4 : Int) (a0_5 : Int) (a0_6 : ByteArray) (a1_0 : Int) (a1_1 : Int) (a1_2 : Int) (a1_3 : Int) (a1_4 : Int) (a1_5 : Int) (a1_6 : ByteArray) (r : Bool) (w : World) (h : laws_eqEntry.f a0_0 a0_1 a0_2 a0_3 a0_4 a0_5 a0_6 a1_0 a1_1 a1_2 a1_3 a1_4 a1_5 a1_6 = some r) :
  Calls Tryd.prog 102 #[.agg #[.int .i64 a0_0, .int .i64 a0_1, .int .i64 a0_2, .int .i64 a0_3, .int .i64 a0_4, .int .i64 a0_5, .string a0_6], .agg #[.int .i64 a1_0, .int .i64 a1_1, .int .i64 a1_2, .int .i64 a1_3, .int .i64 a1_4, .int .i64 a1_5, .string a1_6]] w fun e w' => e = .returned (.bool r) ∧ Below w.heap.size w w' := by
 have hu44 := Tryd.underlying44
 have hu42 := Tryd.underlying42
 have HB := Aside0.mk (Below.refl w.heap.size w)
 unfold laws_eqEntry.f at h
 have H := h
 clear h
 by_cases c3 : a0_0 = a1_0
 ·rw [if_pos c3] at H
  have c3b0 : (a0_0 == a1_0) = true := beq_iff_eq.mpr c3
  have c3b1 : (a0_0 != a1_0) = false := bne_eq_false_iff_eq.mpr c3
  clear c3
  by_cases c4 : a0_1 = a1_1
  ·rw [if_pos c4] at H
   have c4b0 : (a0_1 == a1_1) = true := beq_iff_eq.mpr c4
   have c4b1 : (a0_1 != a1_1) = false := bne_eq_false_iff_eq.mpr c4
   clear c4
   replace H := Option.bind_eq_some_iff.mp H
   obtain ⟨t556, A50, H⟩ := H
   try dsimp only at H
   have A5 := Aside0.mk A50
   clear A50
   by_cases c6 : t556 = true
   ·subst c6
    have H1 : (some true) = some r := by rw [if_pos rfl] at H; exact H
    clear H
    have H := H1
    clear H1
    obtain rfl := Option.some.inj H
    go_enter Tryd.func102, Tryd.ntmps102
    go_wp2_with (first | ((with_reducible refine gate_dst (N := 2) rfl ?_); refine bx_ 2 (#[.int .i64 a0_0, .int .i64 a0_1, .int .i64 a0_2, .int .i64 a0_3, .int .i64 a0_4, .int .i64 a0_5, .string a0_6]) 44 ?_; intro gb554 hg w7 hbox hb; have n0_ := Aside0.mk (below_step (bel_) hb); have n1_ := Aside0.mk (hbox); have n2_ := Aside0.mk ((by rw [hg]; exact (below_size (bel_)) : w.heap.size ≤ gb554)); have n3_ := Aside0.mk ((by rw [hg]; exact (below_size (bel_)) : w.heap.size ≤ gb554)); clear HB; have HB := n0_; have BK554 := n1_; have GW554 := n2_; have GE554 := n3_; clear n0_ n1_ n2_ n3_; clear hb hbox hg) | ((with_reducible refine gate_dst (N := 3) rfl ?_); refine bx_ 3 (#[.int .i64 a1_0, .int .i64 a1_1, .int .i64 a1_2, .int .i64 a1_3, .int .i64 a1_4, .int .i64 a1_5, .string a1_6]) 44 ?_; intro gb555 hg w8 hbox hb; have n0_ := Aside0.mk (bb_ BK554.out hb); have n1_ := Aside0.mk (below_step (bel_) hb); have n2_ := Aside0.mk (hbox); have n3_ := Aside0.mk ((by rw [hg]; exact (below_size (bel_)) : w.heap.size ≤ gb555)); have n4_ := Aside0.mk ((by rw [hg]; exact (below_size (bel_)) : w.heap.size ≤ gb555)); have n5_ := Aside0.mk ((by rw [hg]; exact Nat.ne_of_lt (blk_lt (g := gb554) (o := .cells #[.int .i64 a0_0, .int .i64 a0_1, .int .i64 a0_2, .int .i64 a0_3, .int .i64 a0_4, .int .i64 a0_5, .string a0_6] 44 (0, 0)) (bp_ BK554.out)) : gb554 ≠ gb555)); have n6_ := Aside0.mk ((by rw [hg]; exact Nat.ne_of_gt (blk_lt (g := gb554) (o := .cells #[.int .i64 a0_0, .int .i64 a0_1, .int .i64 a0_2, .int .i64 a0_3, .int .i64 a0_4, .int .i64 a0_5, .string a0_6] 44 (0, 0)) (bp_ BK554.out)) : gb555 ≠ gb554)); clear BK554; clear HB; have BK554 := n0_; have HB := n1_; have BK555 := n2_; have GW555 := n3_; have GE555 := n4_; have NB554_555 := n5_; have NB555_554 := n6_; clear n0_ n1_ n2_ n3_ n4_ n5_ n6_; clear hb hbox hg; have hnb9 := NB554_555.out; have hnc9 := NB555_554.out; have hcz10_0 := cz_ BK554.out 0 (.int .i64 a0_0); have hcz10_1 := cz_ BK554.out 1 (.int .i64 a0_1); have hcz10_2 := cz_ BK554.out 2 (.int .i64 a0_2); have hcz10_3 := cz_ BK554.out 3 (.int .i64 a0_3); have hcz10_4 := cz_ BK554.out 4 (.int .i64 a0_4); have hcz10_5 := cz_ BK554.out 5 (.int .i64 a0_5); have hcz10_6 := cz_ BK554.out 6 (.string a0_6); have hfz10_0 := blk_frozen BK554.out 0; have hfz10_1 := blk_frozen BK554.out 1; have hfz10_2 := blk_frozen BK554.out 2; have hfz10_3 := blk_frozen BK554.out 3; have hfz10_4 := blk_frozen BK554.out 4; have hfz10_5 := blk_frozen BK554.out 5; have hfz10_6 := blk_frozen BK554.out 6; have hcz11_0 := cz_ BK555.out 0 (.int .i64 a1_0); have hcz11_1 := cz_ BK555.out 1 (.int .i64 a1_1); have hcz11_2 := cz_ BK555.out 2 (.int .i64 a1_2); have hcz11_3 := cz_ BK555.out 3 (.int .i64 a1_3); have hcz11_4 := cz_ BK555.out 4 (.int .i64 a1_4); have hcz11_5 := cz_ BK555.out 5 (.int .i64 a1_5); have hcz11_6 := cz_ BK555.out 6 (.string a1_6); have hfz11_0 := blk_frozen BK555.out 0; have hfz11_1 := blk_frozen BK555.out 1; have hfz11_2 := blk_frozen BK555.out 2; have hfz11_3 := blk_frozen BK555.out 3; have hfz11_4 := blk_frozen BK555.out 4; have hfz11_5 := blk_frozen BK555.out 5; have hfz11_6 := blk_frozen BK555.out 6) | ((with_reducible refine gate_callee (f := 137) rfl ?_); refine gl_ 19 Tryd.func137 #[.agg #[.int .i64 a0_2, .int .i64 a0_3, .int .i64 a0_4, .int .i64 a0_5, .string a0_6], .agg #[.int .i64 a1_2, .int .i64 a1_3, .int .i64 a1_4, .int .i64 a1_5, .string a1_6]] ?_; (with_reducible refine (laws_eqOp.calls a0_2 a0_3 a0_4 a0_5 a0_6 a1_2 a1_3 a1_4 a1_5 a1_6 true _ A5.out).mono ?_); rintro e w12 ⟨rfl, hb⟩; refine ⟨_, rfl, ?_⟩; replace HB := Aside0.mk (below_step (bel_) hb); replace BK554 := Aside0.mk (bb_ BK554.out hb); replace BK555 := Aside0.mk (bb_ BK555.out hb); (try clear hb)))
    go_ret
    exact ⟨fi_, bel_⟩
   ·replace c6 := Bool.eq_false_iff.mpr c6
    subst c6
    have H1 : (some false) = some r := by rw [if_neg (show ¬ (false = true) by decide)] at H; exact H
    clear H
    have H := H1
    clear H1
    obtain rfl := Option.some.inj H
    go_enter Tryd.func102, Tryd.ntmps102
    go_wp2_with (first | ((with_reducible refine gate_dst (N := 2) rfl ?_); refine bx_ 2 (#[.int .i64 a0_0, .int .i64 a0_1, .int .i64 a0_2, .int .i64 a0_3, .int .i64 a0_4, .int .i64 a0_5, .string a0_6]) 44 ?_; intro gb554 hg w13 hbox hb; have n0_ := Aside0.mk (below_step (bel_) hb); have n1_ := Aside0.mk (hbox); have n2_ := Aside0.mk ((by rw [hg]; exact (below_size (bel_)) : w.heap.size ≤ gb554)); have n3_ := Aside0.mk ((by rw [hg]; exact (below_size (bel_)) : w.heap.size ≤ gb554)); clear HB; have HB := n0_; have BK554 := n1_; have GW554 := n2_; have GE554 := n3_; clear n0_ n1_ n2_ n3_; clear hb hbox hg) | ((with_reducible refine gate_dst (N := 3) rfl ?_); refine bx_ 3 (#[.int .i64 a1_0, .int .i64 a1_1, .int .i64 a1_2, .int .i64 a1_3, .int .i64 a1_4, .int .i64 a1_5, .string a1_6]) 44 ?_; intro gb555 hg w14 hbox hb; have n0_ := Aside0.mk (bb_ BK554.out hb); have n1_ := Aside0.mk (below_step (bel_) hb); have n2_ := Aside0.mk (hbox); have n3_ := Aside0.mk ((by rw [hg]; exact (below_size (bel_)) : w.heap.size ≤ gb555)); have n4_ := Aside0.mk ((by rw [hg]; exact (below_size (bel_)) : w.heap.size ≤ gb555)); have n5_ := Aside0.mk ((by rw [hg]; exact Nat.ne_of_lt (blk_lt (g := gb554) (o := .cells #[.int .i64 a0_0, .int .i64 a0_1, .int .i64 a0_2, .int .i64 a0_3, .int .i64 a0_4, .int .i64 a0_5, .string a0_6] 44 (0, 0)) (bp_ BK554.out)) : gb554 ≠ gb555)); have n6_ := Aside0.mk ((by rw [hg]; exact Nat.ne_of_gt (blk_lt (g := gb554) (o := .cells #[.int .i64 a0_0, .int .i64 a0_1, .int .i64 a0_2, .int .i64 a0_3, .int .i64 a0_4, .int .i64 a0_5, .string a0_6] 44 (0, 0)) (bp_ BK554.out)) : gb555 ≠ gb554)); clear BK554; clear HB; have BK554 := n0_; have HB := n1_; have BK555 := n2_; have GW555 := n3_; have GE555 := n4_; have NB554_555 := n5_; have NB555_554 := n6_; clear n0_ n1_ n2_ n3_ n4_ n5_ n6_; clear hb hbox hg; have hnb15 := NB554_555.out; have hnc15 := NB555_554.out; have hcz16_0 := cz_ BK554.out 0 (.int .i64 a0_0); have hcz16_1 := cz_ BK554.out 1 (.int .i64 a0_1); have hcz16_2 := cz_ BK554.out 2 (.int .i64 a0_2); have hcz16_3 := cz_ BK554.out 3 (.int .i64 a0_3); have hcz16_4 := cz_ BK554.out 4 (.int .i64 a0_4); have hcz16_5 := cz_ BK554.out 5 (.int .i64 a0_5); have hcz16_6 := cz_ BK554.out 6 (.string a0_6); have hfz16_0 := blk_frozen BK554.out 0; have hfz16_1 := blk_frozen BK554.out 1; have hfz16_2 := blk_frozen BK554.out 2; have hfz16_3 := blk_frozen BK554.out 3; have hfz16_4 := blk_frozen BK554.out 4; have hfz16_5 := blk_frozen BK554.out 5; have hfz16_6 := blk_frozen BK554.out 6; have hcz17_0 := cz_ BK555.out 0 (.int .i64 a1_0); have hcz17_1 := cz_ BK555.out 1 (.int .i64 a1_1); have hcz17_2 := cz_ BK555.out 2 (.int .i64 a1_2); have hcz17_3 := cz_ BK555.out 3 (.int .i64 a1_3); have hcz17_4 := cz_ BK555.out 4 (.int .i64 a1_4); have hcz17_5 := cz_ BK555.out 5 (.int .i64 a1_5); have hcz17_6 := cz_ BK555.out 6 (.string a1_6); have hfz17_0 := blk_frozen BK555.out 0; have hfz17_1 := blk_frozen BK555.out 1; have hfz17_2 := blk_frozen BK555.out 2; have hfz17_3 := blk_frozen BK555.out 3; have hfz17_4 := blk_frozen BK555.out 4; have hfz17_5 := blk_frozen BK555.out 5; have hfz17_6 := blk_frozen BK555.out 6) | ((with_reducible refine gate_callee (f := 137) rfl ?_); refine gl_ 19 Tryd.func137 #[.agg #[.int .i64 a0_2, .int .i64 a0_3, .int .i64 a0_4, .int .i64 a0_5, .string a0_6], .agg #[.int .i64 a1_2, .int .i64 a1_3, .int .i64 a1_4, .int .i64 a1_5, .string a1_6]] ?_; (with_reducible refine (laws_eqOp.calls a0_2 a0_3 a0_4 a0_5 a0_6 a1_2 a1_3 a1_4 a1_5 a1_6 false _ A5.out).mono ?_); rintro e w18 ⟨rfl, hb⟩; refine ⟨_, rfl, ?_⟩; replace HB := Aside0.mk (below_step (bel_) hb); replace BK554 := Aside0.mk (bb_ BK554.out hb); replace BK555 := Aside0.mk (bb_ BK555.out hb); (try clear hb)))
    go_ret
    exact ⟨fi_, bel_⟩
  ·rw [if_neg c4] at H
   have c4b0 : (a0_1 == a1_1) = false := beq_eq_false_iff_ne.mpr c4
   have c4b1 : (a0_1 != a1_1) = true := bne_iff_ne.mpr c4
   obtain rfl := Option.some.inj H
   go_enter Tryd.func102, Tryd.ntmps102
   go_wp2_with (first | ((with_reducible refine gate_dst (N := 2) rfl ?_); refine bx_ 2 (#[.int .i64 a0_0, .int .i64 a0_1, .int .i64 a0_2, .int .i64 a0_3, .int .i64 a0_4, .int .i64 a0_5, .string a0_6]) 44 ?_; intro gb554 hg w19 hbox hb; have n0_ := Aside0.mk (below_step (bel_) hb); have n1_ := Aside0.mk (hbox); have n2_ := Aside0.mk ((by rw [hg]; exact (below_size (bel_)) : w.heap.size ≤ gb554)); have n3_ := Aside0.mk ((by rw [hg]; exact (below_size (bel_)) : w.heap.size ≤ gb554)); clear HB; have HB := n0_; have BK554 := n1_; have GW554 := n2_; have GE554 := n3_; clear n0_ n1_ n2_ n3_; clear hb hbox hg) | ((with_reducible refine gate_dst (N := 3) rfl ?_); refine bx_ 3 (#[.int .i64 a1_0, .int .i64 a1_1, .int .i64 a1_2, .int .i64 a1_3, .int .i64 a1_4, .int .i64 a1_5, .string a1_6]) 44 ?_; intro gb555 hg w20 hbox hb; have n0_ := Aside0.mk (bb_ BK554.out hb); have n1_ := Aside0.mk (below_step (bel_) hb); have n2_ := Aside0.mk (hbox); have n3_ := Aside0.mk ((by rw [hg]; exact (below_size (bel_)) : w.heap.size ≤ gb555)); have n4_ := Aside0.mk ((by rw [hg]; exact (below_size (bel_)) : w.heap.size ≤ gb555)); have n5_ := Aside0.mk ((by rw [hg]; exact Nat.ne_of_lt (blk_lt (g := gb554) (o := .cells #[.int .i64 a0_0, .int .i64 a0_1, .int .i64 a0_2, .int .i64 a0_3, .int .i64 a0_4, .int .i64 a0_5, .string a0_6] 44 (0, 0)) (bp_ BK554.out)) : gb554 ≠ gb555)); have n6_ := Aside0.mk ((by rw [hg]; exact Nat.ne_of_gt (blk_lt (g := gb554) (o := .cells #[.int .i64 a0_0, .int .i64 a0_1, .int .i64 a0_2, .int .i64 a0_3, .int .i64 a0_4, .int .i64 a0_5, .string a0_6] 44 (0, 0)) (bp_ BK554.out)) : gb555 ≠ gb554)); clear BK554; clear HB; have BK554 := n0_; have HB := n1_; have BK555 := n2_; have GW555 := n3_; have GE555 := n4_; have NB554_555 := n5_; have NB555_554 := n6_; clear n0_ n1_ n2_ n3_ n4_ n5_ n6_; clear hb hbox hg; have hnb21 := NB554_555.out; have hnc21 := NB555_554.out; have hcz22_0 := cz_ BK554.out 0 (.int .i64 a0_0); have hcz22_1 := cz_ BK554.out 1 (.int .i64 a0_1); have hcz22_2 := cz_ BK554.out 2 (.int .i64 a0_2); have hcz22_3 := cz_ BK554.out 3 (.int .i64 a0_3); have hcz22_4 := cz_ BK554.out 4 (.int .i64 a0_4); have hcz22_5 := cz_ BK554.out 5 (.int .i64 a0_5); have hcz22_6 := cz_ BK554.out 6 (.string a0_6); have hfz22_0 := blk_frozen BK554.out 0; have hfz22_1 := blk_frozen BK554.out 1; have hfz22_2 := blk_frozen BK554.out 2; have hfz22_3 := blk_frozen BK554.out 3; have hfz22_4 := blk_frozen BK554.out 4; have hfz22_5 := blk_frozen BK554.out 5; have hfz22_6 := blk_frozen BK554.out 6; have hcz23_0 := cz_ BK555.out 0 (.int .i64 a1_0); have hcz23_1 := cz_ BK555.out 1 (.int .i64 a1_1); have hcz23_2 := cz_ BK555.out 2 (.int .i64 a1_2); have hcz23_3 := cz_ BK555.out 3 (.int .i64 a1_3); have hcz23_4 := cz_ BK555.out 4 (.int .i64 a1_4); have hcz23_5 := cz_ BK555.out 5 (.int .i64 a1_5); have hcz23_6 := cz_ BK555.out 6 (.string a1_6); have hfz23_0 := blk_frozen BK555.out 0; have hfz23_1 := blk_frozen BK555.out 1; have hfz23_2 := blk_frozen BK555.out 2; have hfz23_3 := blk_frozen BK555.out 3; have hfz23_4 := blk_frozen BK555.out 4; have hfz23_5 := blk_frozen BK555.out 5; have hfz23_6 := blk_frozen BK555.out 6))
   go_ret
   exact ⟨fi_, bel_⟩
 ·rw [if_neg c3] at H
  have c3b0 : (a0_0 == a1_0) = false := beq_eq_false_iff_ne.mpr c3
  have c3b1 : (a0_0 != a1_0) = true := bne_iff_ne.mpr c3
  obtain rfl := Option.some.inj H
  go_enter Tryd.func102, Tryd.ntmps102
  go_wp2_with (first | ((with_reducible refine gate_dst (N := 2) rfl ?_); refine bx_ 2 (#[.int .i64 a0_0, .int .i64 a0_1, .int .i64 a0_2, .int .i64 a0_3, .int .i64 a0_4, .int .i64 a0_5, .string a0_6]) 44 ?_; intro gb554 hg w24 hbox hb; have n0_ := Aside0.mk (below_step (bel_) hb); have n1_ := Aside0.mk (hbox); have n2_ := Aside0.mk ((by rw [hg]; exact (below_size (bel_)) : w.heap.size ≤ gb554)); have n3_ := Aside0.mk ((by rw [hg]; exact (below_size (bel_)) : w.heap.size ≤ gb554)); clear HB; have HB := n0_; have BK554 := n1_; have GW554 := n2_; have GE554 := n3_; clear n0_ n1_ n2_ n3_; clear hb hbox hg) | ((with_reducible refine gate_dst (N := 3) rfl ?_); refine bx_ 3 (#[.int .i64 a1_0, .int .i64 a1_1, .int .i64 a1_2, .int .i64 a1_3, .int .i64 a1_4, .int .i64 a1_5, .string a1_6]) 44 ?_; intro gb555 hg w25 hbox hb; have n0_ := Aside0.mk (bb_ BK554.out hb); have n1_ := Aside0.mk (below_step (bel_) hb); have n2_ := Aside0.mk (hbox); have n3_ := Aside0.mk ((by rw [hg]; exact (below_size (bel_)) : w.heap.size ≤ gb555)); have n4_ := Aside0.mk ((by rw [hg]; exact (below_size (bel_)) : w.heap.size ≤ gb555)); have n5_ := Aside0.mk ((by rw [hg]; exact Nat.ne_of_lt (blk_lt (g := gb554) (o := .cells #[.int .i64 a0_0, .int .i64 a0_1, .int .i64 a0_2, .int .i64 a0_3, .int .i64 a0_4, .int .i64 a0_5, .string a0_6] 44 (0, 0)) (bp_ BK554.out)) : gb554 ≠ gb555)); have n6_ := Aside0.mk ((by rw [hg]; exact Nat.ne_of_gt (blk_lt (g := gb554) (o := .cells #[.int .i64 a0_0, .int .i64 a0_1, .int .i64 a0_2, .int .i64 a0_3, .int .i64 a0_4, .int .i64 a0_5, .string a0_6] 44 (0, 0)) (bp_ BK554.out)) : gb555 ≠ gb554)); clear BK554; clear HB; have BK554 := n0_; have HB := n1_; have BK555 := n2_; have GW555 := n3_; have GE555 := n4_; have NB554_555 := n5_; have NB555_554 := n6_; clear n0_ n1_ n2_ n3_ n4_ n5_ n6_; clear hb hbox hg; have hnb26 := NB554_555.out; have hnc26 := NB555_554.out; have hcz27_0 := cz_ BK554.out 0 (.int .i64 a0_0); have hcz27_1 := cz_ BK554.out 1 (.int .i64 a0_1); have hcz27_2 := cz_ BK554.out 2 (.int .i64 a0_2); have hcz27_3 := cz_ BK554.out 3 (.int .i64 a0_3); have hcz27_4 := cz_ BK554.out 4 (.int .i64 a0_4); have hcz27_5 := cz_ BK554.out 5 (.int .i64 a0_5); have hcz27_6 := cz_ BK554.out 6 (.string a0_6); have hfz27_0 := blk_frozen BK554.out 0; have hfz27_1 := blk_frozen BK554.out 1; have hfz27_2 := blk_frozen BK554.out 2; have hfz27_3 := blk_frozen BK554.out 3; have hfz27_4 := blk_frozen BK554.out 4; have hfz27_5 := blk_frozen BK554.out 5; have hfz27_6 := blk_frozen BK554.out 6; have hcz28_0 := cz_ BK555.out 0 (.int .i64 a1_0); have hcz28_1 := cz_ BK555.out 1 (.int .i64 a1_1); have hcz28_2 := cz_ BK555.out 2 (.int .i64 a1_2); have hcz28_3 := cz_ BK555.out 3 (.int .i64 a1_3); have hcz28_4 := cz_ BK555.out 4 (.int .i64 a1_4); have hcz28_5 := cz_ BK555.out 5 (.int .i64 a1_5); have hcz28_6 := cz_ BK555.out 6 (.string a1_6); have hfz28_0 := blk_frozen BK555.out 0; have hfz28_1 := blk_frozen BK555.out 1; have hfz28_2 := blk_frozen BK555.out 2; have hfz28_3 := blk_frozen BK555.out 3; have hfz28_4 := blk_frozen BK555.out 4; have hfz28_5 := blk_frozen BK555.out 5; have hfz28_6 := blk_frozen BK555.out 6))
  go_ret
  exact ⟨fi_, bel_⟩

def laws_eqEntryS.l0 : Nat → List (S44) → List (S44) → Int → Option (Bool)
 | 0, _, _, _ => none
 | k + 1, x0, x1, x5 => if x5 < (x0.length : Int) then (if 0 ≤ x5 then (if x5 < (x1.length : Int) then ((laws_eqEntry.f ((rd_T44 x0 x5).f0) ((rd_T44 x0 x5).f1) ((rd_T44 x0 x5).f2.f0) ((rd_T44 x0 x5).f2.f1) ((rd_T44 x0 x5).f2.f2) ((rd_T44 x0 x5).f2.f3) ((rd_T44 x0 x5).f2.f4) ((rd_T44 x1 x5).f0) ((rd_T44 x1 x5).f1) ((rd_T44 x1 x5).f2.f0) ((rd_T44 x1 x5).f2.f1) ((rd_T44 x1 x5).f2.f2) ((rd_T44 x1 x5).f2.f3) ((rd_T44 x1 x5).f2.f4)).bind fun t559 => (if t559 = true then (laws_eqEntryS.l0 k x0 x1 (wrap64 (x5 + 1))) else (some false))) else (none)) else (none)) else (some true)
def laws_eqEntryS.f (k : Nat) (l0 : List (S44)) (l1 : List (S44)) : Option (Bool) := if (l0.length : Int) = (l1.length : Int) then (laws_eqEntryS.l0 k l0 l1 0) else (some false)
theorem laws_eqEntryS.mono_l : ∀ k, (∀ y0 y1 y2, LeO (laws_eqEntryS.l0 k y0 y1 y2) (laws_eqEntryS.l0 (k + 1) y0 y1 y2))
 | 0 => fun _ _ _ r h => by simp [laws_eqEntryS.l0] at h
 | k + 1 => by
  have ih0 := laws_eqEntryS.mono_l k
  ·intro y0 y1 y2
   unfold laws_eqEntryS.l0
   repeat' first
   | (with_reducible exact ih0 _ _ _)
   | (with_reducible exact LeO.refl _)
   | (with_reducible exact LeO.none _)
   | (with_reducible refine LeO.ite ?_ ?_)
   | (with_reducible refine LeO.bind ?_ (fun _ => ?_))
   | exact ih0 _ _ _
   | exact LeO.none _
   | refine LeO.ite ?_ ?_
   | refine LeO.bind ?_ (fun _ => ?_)
theorem laws_eqEntryS.mono : ∀ a0 a1 k, LeO (laws_eqEntryS.f k a0 a1) (laws_eqEntryS.f (k + 1) a0 a1) := by
 intro a0 a1 k
 have ih0 := laws_eqEntryS.mono_l k
 unfold laws_eqEntryS.f
 repeat' first
   | (with_reducible exact ih0 _ _ _)
   | (with_reducible exact LeO.refl _)
   | (with_reducible exact LeO.none _)
   | (with_reducible refine LeO.ite ?_ ?_)
   | (with_reducible refine LeO.bind ?_ (fun _ => ?_))
   | exact ih0 _ _ _
   | exact LeO.none _
   | refine LeO.ite ?_ ?_
   | refine LeO.bind ?_ (fun _ => ?_)
def laws_eqEntryS.T6 : Bool × List (List Nat × List Nat) := (true, [([], []), ([], []), ([0, 1], [0, 1]), ([2], [2]), ([], []), ([], []), ([4, 5], [4, 5]), ([6], [6]), ([3, 7], [3, 7]), ([8], [8])])
def laws_eqEntryS.B6 : List Nat := [0, 0, 3, 7, 0, 0, 48, 112, 255, 511]
theorem laws_eqEntryS.tab6 : rtab .any (opsOf Tryd.f52 6) = laws_eqEntryS.T6 := by kernel_rfl
theorem laws_eqEntryS.bits6 : waitsOk laws_eqEntryS.T6.2 laws_eqEntryS.B6 = true := by kernel_rfl
set_option maxHeartbeats 8000000 in
set_option maxRecDepth 100000 in
theorem laws_eqEntryS.calls (k : Nat) (A0 : Option Addr) (c0 : Nat) (l0 : List (S44)) (A1 : Option Addr) (c1 : Nat) (l1 : List (S44)) (r : Bool) (w : World) (hr0 : Kd.C k44 w A0 l0.length l0) (hc0 : l0.length ≤ c0) (hr1 : Kd.C k44 w A1 l1.length l1) (hc1 : l1.length ≤ c1) (h : laws_eqEntryS.f k l0 l1 = some r) :
  Calls Tryd.prog 52 #[.slice A0 l0.length c0, .slice A1 l1.length c1] w fun e w' => e = .returned (.bool r) ∧ Below w.heap.size w w' := by
 have hu44 := Tryd.underlying44
 have HR0 := Aside0.mk hr0
 have HC0 := Aside0.mk hc0
 clear hr0 hc0
 have HR1 := Aside0.mk hr1
 have HC1 := Aside0.mk hc1
 clear hr1 hc1
 have HB := Aside0.mk (Below.refl w.heap.size w)
 unfold laws_eqEntryS.f at h
 have H := h
 clear h
 by_cases c3 : (l0.length : Int) = (l1.length : Int)
 ·rw [if_pos c3] at H
  have c3b0 : ((l0.length : Int) == (l1.length : Int)) = true := beq_iff_eq.mpr c3
  have c3b1 : ((l0.length : Int) != (l1.length : Int)) = false := bne_eq_false_iff_eq.mpr c3
  have c3b2 : (l0.length == l1.length) = true := by first | simpa using c3 | (simp at c3 ⊢; omega)
  clear c3
  have H' := Aside0.mk H
  clear H
  go_enter Tryd.func52, Tryd.ntmps52
  go_wp2
  go_loopg [5] k (fun kq v5 w' => ∃ (x5_1 : Int), v5 = .int .i64 x5_1 ∧ Aside0 (laws_eqEntryS.l0 kq l0 l1 x5_1 = some r) ∧ Aside0 (kq ≤ k) ∧ Aside0 (Below w.heap.size w w'))
  case atStart => exact ⟨(0), (si_), H', ⟨Nat.le_refl _⟩, ⟨bel_⟩⟩
  case round =>
   clear H'
   try clear c1
   try clear p2
   try clear c3
   try clear c3b0
   try clear c3b1
   try clear c3b2
   obtain ⟨x5_1, rfl, HA, HK1, HB⟩ := hrel
   cases gk with
   | zero => exact absurd HA.out (by simp [laws_eqEntryS.l0])
   | succ k1 =>
    have H := HA.out
    clear HA
    simp only [laws_eqEntryS.l0] at H
    by_cases c4 : x5_1 < (l0.length : Int)
    ·rw [if_pos c4] at H
     have c4b0 : decide (x5_1 < (l0.length : Int)) = true := decide_eq_true c4
     clear c4
     by_cases c5 : 0 ≤ x5_1
     ·rw [if_pos c5] at H
      have c5b0 : decide (0 ≤ x5_1) = true := decide_eq_true c5
      clear c5
      by_cases c6 : x5_1 < (l1.length : Int)
      ·rw [if_pos c6] at H
       have c6b0 : decide (x5_1 < (l1.length : Int)) = true := decide_eq_true c6
       clear c6
       replace H := Option.bind_eq_some_iff.mp H
       obtain ⟨t559, A70, H⟩ := H
       try dsimp only at H
       have A7 := Aside0.mk A70
       clear A70
       by_cases c8 : t559 = true
       ·subst c8
        have H1 : (laws_eqEntryS.l0 k1 l0 l1 (wrap64 (x5_1 + 1))) = some r := by rw [if_pos rfl] at H; exact H
        clear H
        have H := H1
        clear H1
        have H' := Aside0.mk H
        clear H
        try go_wp2
        have n0_ := Aside0.mk (below_drew1 HB.out)
        clear HB
        have HB := n0_
        clear n0_
        have p557 : 0 ≤ (x5_1 : Int) := od_
        have q557 : x5_1 < (l0.length : Int) := od_
        obtain ⟨ad557, e557, hx557_0, hx557_1, hx557_2, hx557_3, hx557_4, hx557_5, hx557_6⟩ := at_T44 HR0.out x5_1 p557 q557
        have hw557_6 := hx557_6
        have hw557_5 := hx557_5
        have hw557_4 := hx557_4
        have hw557_3 := hx557_3
        have hw557_2 := hx557_2
        have hw557_1 := hx557_1
        have hw557_0 := hx557_0
        cases e557
        replace hx557_0 := (cb_ HB.out hx557_0 :)
        replace hx557_1 := (cb_ HB.out hx557_1 :)
        replace hx557_2 := (cb_ HB.out hx557_2 :)
        replace hx557_3 := (cb_ HB.out hx557_3 :)
        replace hx557_4 := (cb_ HB.out hx557_4 :)
        replace hx557_5 := (cb_ HB.out hx557_5 :)
        replace hx557_6 := (cb_ HB.out hx557_6 :)
        replace p557 := eq_true p557
        replace q557 := eq_true q557
        have p558 : 0 ≤ (x5_1 : Int) := od_
        have q558 : x5_1 < (l1.length : Int) := od_
        obtain ⟨ad558, e558, hx558_0, hx558_1, hx558_2, hx558_3, hx558_4, hx558_5, hx558_6⟩ := at_T44 HR1.out x5_1 p558 q558
        have hw558_6 := hx558_6
        have hw558_5 := hx558_5
        have hw558_4 := hx558_4
        have hw558_3 := hx558_3
        have hw558_2 := hx558_2
        have hw558_1 := hx558_1
        have hw558_0 := hx558_0
        cases e558
        replace hx558_0 := (cb_ HB.out hx558_0 :)
        replace hx558_1 := (cb_ HB.out hx558_1 :)
        replace hx558_2 := (cb_ HB.out hx558_2 :)
        replace hx558_3 := (cb_ HB.out hx558_3 :)
        replace hx558_4 := (cb_ HB.out hx558_4 :)
        replace hx558_5 := (cb_ HB.out hx558_5 :)
        replace hx558_6 := (cb_ HB.out hx558_6 :)
        replace p558 := eq_true p558
        replace q558 := eq_true q558
        refine start_ (n := 10) (S := fun w' => w'.cell? (ad557.add ((x5_1).toNat * 7)) = some (.int .i64 ((rd_T44 l0 x5_1).f0)) ∧ w'.cell? ⟨(ad557.add ((x5_1).toNat * 7)).block, (ad557.add ((x5_1).toNat * 7)).off + 1, none⟩ = some (.int .i64 ((rd_T44 l0 x5_1).f1)) ∧ w'.cell? ⟨(ad557.add ((x5_1).toNat * 7)).block, (ad557.add ((x5_1).toNat * 7)).off + 2, none⟩ = some (.int .i64 ((rd_T44 l0 x5_1).f2.f0)) ∧ w'.cell? ⟨(ad557.add ((x5_1).toNat * 7)).block, (ad557.add ((x5_1).toNat * 7)).off + 3, none⟩ = some (.int .i64 ((rd_T44 l0 x5_1).f2.f1)) ∧ w'.cell? ⟨(ad557.add ((x5_1).toNat * 7)).block, (ad557.add ((x5_1).toNat * 7)).off + 4, none⟩ = some (.int .i64 ((rd_T44 l0 x5_1).f2.f2)) ∧ w'.cell? ⟨(ad557.add ((x5_1).toNat * 7)).block, (ad557.add ((x5_1).toNat * 7)).off + 5, none⟩ = some (.int .i64 ((rd_T44 l0 x5_1).f2.f3)) ∧ w'.cell? ⟨(ad557.add ((x5_1).toNat * 7)).block, (ad557.add ((x5_1).toNat * 7)).off + 6, none⟩ = some (.string ((rd_T44 l0 x5_1).f2.f4)) ∧ w'.cell? (ad558.add ((x5_1).toNat * 7)) = some (.int .i64 ((rd_T44 l1 x5_1).f0)) ∧ w'.cell? ⟨(ad558.add ((x5_1).toNat * 7)).block, (ad558.add ((x5_1).toNat * 7)).off + 1, none⟩ = some (.int .i64 ((rd_T44 l1 x5_1).f1)) ∧ w'.cell? ⟨(ad558.add ((x5_1).toNat * 7)).block, (ad558.add ((x5_1).toNat * 7)).off + 2, none⟩ = some (.int .i64 ((rd_T44 l1 x5_1).f2.f0)) ∧ w'.cell? ⟨(ad558.add ((x5_1).toNat * 7)).block, (ad558.add ((x5_1).toNat * 7)).off + 3, none⟩ = some (.int .i64 ((rd_T44 l1 x5_1).f2.f1)) ∧ w'.cell? ⟨(ad558.add ((x5_1).toNat * 7)).block, (ad558.add ((x5_1).toNat * 7)).off + 4, none⟩ = some (.int .i64 ((rd_T44 l1 x5_1).f2.f2)) ∧ w'.cell? ⟨(ad558.add ((x5_1).toNat * 7)).block, (ad558.add ((x5_1).toNat * 7)).off + 5, none⟩ = some (.int .i64 ((rd_T44 l1 x5_1).f2.f3)) ∧ w'.cell? ⟨(ad558.add ((x5_1).toNat * 7)).block, (ad558.add ((x5_1).toNat * 7)).off + 6, none⟩ = some (.string ((rd_T44 l1 x5_1).f2.f4))) (ds := []) #[false, false, false, false, false, false, false, false, false, false] (by kernel_rfl) rfl rfl ⟨((cb_ HB.out hw557_0 :)), ((cb_ HB.out hw557_1 :)), ((cb_ HB.out hw557_2 :)), ((cb_ HB.out hw557_3 :)), ((cb_ HB.out hw557_4 :)), ((cb_ HB.out hw557_5 :)), ((cb_ HB.out hw557_6 :)), ((cb_ HB.out hw558_0 :)), ((cb_ HB.out hw558_1 :)), ((cb_ HB.out hw558_2 :)), ((cb_ HB.out hw558_3 :)), ((cb_ HB.out hw558_4 :)), ((cb_ HB.out hw558_5 :)), ((cb_ HB.out hw558_6 :))⟩ (fun hHeld => ?_); refine with_tabW laws_eqEntryS.tab6 laws_eqEntryS.bits6 (fun HT_ HW_ => ?_)
        generalize wr.drew = w9 at HB hx557_0 hx557_1 hx557_2 hx557_3 hx557_4 hx557_5 hx557_6 hx558_0 hx558_1 hx558_2 hx558_3 hx558_4 hx558_5 hx558_6 hHeld ⊢
        refine pa_ 0 17 ?_
        refine pa_ 1 18 ?_
        refine pa_ 2 19 ?_
        refine pa_ 4 21 ?_
        refine pa_ 5 22 ?_
        refine pa_ 6 23 ?_
        refine ta14_ 3 20 hHeld ?_
        refine ta14_ 7 24 hHeld ?_
        refine on_ 8 25 (fun K hK => ?_)
        refine goes_ Tryd.func102 (by kernel_rfl) rfl #[.agg #[.int .i64 ((rd_T44 l0 x5_1).f0), .int .i64 ((rd_T44 l0 x5_1).f1), .int .i64 ((rd_T44 l0 x5_1).f2.f0), .int .i64 ((rd_T44 l0 x5_1).f2.f1), .int .i64 ((rd_T44 l0 x5_1).f2.f2), .int .i64 ((rd_T44 l0 x5_1).f2.f3), .string ((rd_T44 l0 x5_1).f2.f4)], .agg #[.int .i64 ((rd_T44 l1 x5_1).f0), .int .i64 ((rd_T44 l1 x5_1).f1), .int .i64 ((rd_T44 l1 x5_1).f2.f0), .int .i64 ((rd_T44 l1 x5_1).f2.f1), .int .i64 ((rd_T44 l1 x5_1).f2.f2), .int .i64 ((rd_T44 l1 x5_1).f2.f3), .string ((rd_T44 l1 x5_1).f2.f4)]] (by rfl) rfl rfl ar_ ?_
        with_reducible refine (laws_eqEntry.calls ((rd_T44 l0 x5_1).f0) ((rd_T44 l0 x5_1).f1) ((rd_T44 l0 x5_1).f2.f0) ((rd_T44 l0 x5_1).f2.f1) ((rd_T44 l0 x5_1).f2.f2) ((rd_T44 l0 x5_1).f2.f3) ((rd_T44 l0 x5_1).f2.f4) ((rd_T44 l1 x5_1).f0) ((rd_T44 l1 x5_1).f1) ((rd_T44 l1 x5_1).f2.f0) ((rd_T44 l1 x5_1).f2.f1) ((rd_T44 l1 x5_1).f2.f2) ((rd_T44 l1 x5_1).f2.f3) ((rd_T44 l1 x5_1).f2.f4) true _ A7.out).mono ?_
        rintro e w10 ⟨rfl, hb⟩
        refine ⟨_, rfl, ?_⟩
        have n0_ := Aside0.mk (below_step (bel_) hb)
        clear HB
        have HB := n0_
        clear n0_
        (try clear hb)
        (try clear hb2)
        (try clear hk)
        (try clear hi)
        refine hK.out _ _ ⟨((cb_ HB.out hw557_0 :)), ((cb_ HB.out hw557_1 :)), ((cb_ HB.out hw557_2 :)), ((cb_ HB.out hw557_3 :)), ((cb_ HB.out hw557_4 :)), ((cb_ HB.out hw557_5 :)), ((cb_ HB.out hw557_6 :)), ((cb_ HB.out hw558_0 :)), ((cb_ HB.out hw558_1 :)), ((cb_ HB.out hw558_2 :)), ((cb_ HB.out hw558_3 :)), ((cb_ HB.out hw558_4 :)), ((cb_ HB.out hw558_5 :)), ((cb_ HB.out hw558_6 :))⟩ (fun hHeld => ?_)
        clear hK K
        refine no_ 25 ?_
        refine pa_ 9 26 ?_
        refine done_ (done_of HT_.out (by kernel_rfl)) ?_
        try go_wp2
        go_roundg k1
        case measure => have := HK1.out; omega
        case rel => exact ⟨(wrap64 (x5_1 + 1)), (si_), H', ⟨by have := HK1.out; omega⟩, ⟨bel_⟩⟩
       ·replace c8 := Bool.eq_false_iff.mpr c8
        subst c8
        have H1 : (some false) = some r := by rw [if_neg (show ¬ (false = true) by decide)] at H; exact H
        clear H
        have H := H1
        clear H1
        obtain rfl := Option.some.inj H
        try go_wp2
        have n0_ := Aside0.mk (below_drew1 HB.out)
        clear HB
        have HB := n0_
        clear n0_
        have p557 : 0 ≤ (x5_1 : Int) := od_
        have q557 : x5_1 < (l0.length : Int) := od_
        obtain ⟨ad557, e557, hx557_0, hx557_1, hx557_2, hx557_3, hx557_4, hx557_5, hx557_6⟩ := at_T44 HR0.out x5_1 p557 q557
        have hw557_6 := hx557_6
        have hw557_5 := hx557_5
        have hw557_4 := hx557_4
        have hw557_3 := hx557_3
        have hw557_2 := hx557_2
        have hw557_1 := hx557_1
        have hw557_0 := hx557_0
        cases e557
        replace hx557_0 := (cb_ HB.out hx557_0 :)
        replace hx557_1 := (cb_ HB.out hx557_1 :)
        replace hx557_2 := (cb_ HB.out hx557_2 :)
        replace hx557_3 := (cb_ HB.out hx557_3 :)
        replace hx557_4 := (cb_ HB.out hx557_4 :)
        replace hx557_5 := (cb_ HB.out hx557_5 :)
        replace hx557_6 := (cb_ HB.out hx557_6 :)
        replace p557 := eq_true p557
        replace q557 := eq_true q557
        have p558 : 0 ≤ (x5_1 : Int) := od_
        have q558 : x5_1 < (l1.length : Int) := od_
        obtain ⟨ad558, e558, hx558_0, hx558_1, hx558_2, hx558_3, hx558_4, hx558_5, hx558_6⟩ := at_T44 HR1.out x5_1 p558 q558
        have hw558_6 := hx558_6
        have hw558_5 := hx558_5
        have hw558_4 := hx558_4
        have hw558_3 := hx558_3
        have hw558_2 := hx558_2
        have hw558_1 := hx558_1
        have hw558_0 := hx558_0
        cases e558
        replace hx558_0 := (cb_ HB.out hx558_0 :)
        replace hx558_1 := (cb_ HB.out hx558_1 :)
        replace hx558_2 := (cb_ HB.out hx558_2 :)
        replace hx558_3 := (cb_ HB.out hx558_3 :)
        replace hx558_4 := (cb_ HB.out hx558_4 :)
        replace hx558_5 := (cb_ HB.out hx558_5 :)
        replace hx558_6 := (cb_ HB.out hx558_6 :)
        replace p558 := eq_true p558
        replace q558 := eq_true q558
        refine start_ (n := 10) (S := fun w' => w'.cell? (ad557.add ((x5_1).toNat * 7)) = some (.int .i64 ((rd_T44 l0 x5_1).f0)) ∧ w'.cell? ⟨(ad557.add ((x5_1).toNat * 7)).block, (ad557.add ((x5_1).toNat * 7)).off + 1, none⟩ = some (.int .i64 ((rd_T44 l0 x5_1).f1)) ∧ w'.cell? ⟨(ad557.add ((x5_1).toNat * 7)).block, (ad557.add ((x5_1).toNat * 7)).off + 2, none⟩ = some (.int .i64 ((rd_T44 l0 x5_1).f2.f0)) ∧ w'.cell? ⟨(ad557.add ((x5_1).toNat * 7)).block, (ad557.add ((x5_1).toNat * 7)).off + 3, none⟩ = some (.int .i64 ((rd_T44 l0 x5_1).f2.f1)) ∧ w'.cell? ⟨(ad557.add ((x5_1).toNat * 7)).block, (ad557.add ((x5_1).toNat * 7)).off + 4, none⟩ = some (.int .i64 ((rd_T44 l0 x5_1).f2.f2)) ∧ w'.cell? ⟨(ad557.add ((x5_1).toNat * 7)).block, (ad557.add ((x5_1).toNat * 7)).off + 5, none⟩ = some (.int .i64 ((rd_T44 l0 x5_1).f2.f3)) ∧ w'.cell? ⟨(ad557.add ((x5_1).toNat * 7)).block, (ad557.add ((x5_1).toNat * 7)).off + 6, none⟩ = some (.string ((rd_T44 l0 x5_1).f2.f4)) ∧ w'.cell? (ad558.add ((x5_1).toNat * 7)) = some (.int .i64 ((rd_T44 l1 x5_1).f0)) ∧ w'.cell? ⟨(ad558.add ((x5_1).toNat * 7)).block, (ad558.add ((x5_1).toNat * 7)).off + 1, none⟩ = some (.int .i64 ((rd_T44 l1 x5_1).f1)) ∧ w'.cell? ⟨(ad558.add ((x5_1).toNat * 7)).block, (ad558.add ((x5_1).toNat * 7)).off + 2, none⟩ = some (.int .i64 ((rd_T44 l1 x5_1).f2.f0)) ∧ w'.cell? ⟨(ad558.add ((x5_1).toNat * 7)).block, (ad558.add ((x5_1).toNat * 7)).off + 3, none⟩ = some (.int .i64 ((rd_T44 l1 x5_1).f2.f1)) ∧ w'.cell? ⟨(ad558.add ((x5_1).toNat * 7)).block, (ad558.add ((x5_1).toNat * 7)).off + 4, none⟩ = some (.int .i64 ((rd_T44 l1 x5_1).f2.f2)) ∧ w'.cell? ⟨(ad558.add ((x5_1).toNat * 7)).block, (ad558.add ((x5_1).toNat * 7)).off + 5, none⟩ = some (.int .i64 ((rd_T44 l1 x5_1).f2.f3)) ∧ w'.cell? ⟨(ad558.add ((x5_1).toNat * 7)).block, (ad558.add ((x5_1).toNat * 7)).off + 6, none⟩ = some (.string ((rd_T44 l1 x5_1).f2.f4))) (ds := []) #[false, false, false, false, false, false, false, false, false, false] (by kernel_rfl) rfl rfl ⟨((cb_ HB.out hw557_0 :)), ((cb_ HB.out hw557_1 :)), ((cb_ HB.out hw557_2 :)), ((cb_ HB.out hw557_3 :)), ((cb_ HB.out hw557_4 :)), ((cb_ HB.out hw557_5 :)), ((cb_ HB.out hw557_6 :)), ((cb_ HB.out hw558_0 :)), ((cb_ HB.out hw558_1 :)), ((cb_ HB.out hw558_2 :)), ((cb_ HB.out hw558_3 :)), ((cb_ HB.out hw558_4 :)), ((cb_ HB.out hw558_5 :)), ((cb_ HB.out hw558_6 :))⟩ (fun hHeld => ?_); refine with_tabW laws_eqEntryS.tab6 laws_eqEntryS.bits6 (fun HT_ HW_ => ?_)
        generalize wr.drew = w11 at HB hx557_0 hx557_1 hx557_2 hx557_3 hx557_4 hx557_5 hx557_6 hx558_0 hx558_1 hx558_2 hx558_3 hx558_4 hx558_5 hx558_6 hHeld ⊢
        refine pa_ 0 17 ?_
        refine pa_ 1 18 ?_
        refine pa_ 2 19 ?_
        refine pa_ 4 21 ?_
        refine pa_ 5 22 ?_
        refine pa_ 6 23 ?_
        refine ta14_ 3 20 hHeld ?_
        refine ta14_ 7 24 hHeld ?_
        refine on_ 8 25 (fun K hK => ?_)
        refine goes_ Tryd.func102 (by kernel_rfl) rfl #[.agg #[.int .i64 ((rd_T44 l0 x5_1).f0), .int .i64 ((rd_T44 l0 x5_1).f1), .int .i64 ((rd_T44 l0 x5_1).f2.f0), .int .i64 ((rd_T44 l0 x5_1).f2.f1), .int .i64 ((rd_T44 l0 x5_1).f2.f2), .int .i64 ((rd_T44 l0 x5_1).f2.f3), .string ((rd_T44 l0 x5_1).f2.f4)], .agg #[.int .i64 ((rd_T44 l1 x5_1).f0), .int .i64 ((rd_T44 l1 x5_1).f1), .int .i64 ((rd_T44 l1 x5_1).f2.f0), .int .i64 ((rd_T44 l1 x5_1).f2.f1), .int .i64 ((rd_T44 l1 x5_1).f2.f2), .int .i64 ((rd_T44 l1 x5_1).f2.f3), .string ((rd_T44 l1 x5_1).f2.f4)]] (by rfl) rfl rfl ar_ ?_
        with_reducible refine (laws_eqEntry.calls ((rd_T44 l0 x5_1).f0) ((rd_T44 l0 x5_1).f1) ((rd_T44 l0 x5_1).f2.f0) ((rd_T44 l0 x5_1).f2.f1) ((rd_T44 l0 x5_1).f2.f2) ((rd_T44 l0 x5_1).f2.f3) ((rd_T44 l0 x5_1).f2.f4) ((rd_T44 l1 x5_1).f0) ((rd_T44 l1 x5_1).f1) ((rd_T44 l1 x5_1).f2.f0) ((rd_T44 l1 x5_1).f2.f1) ((rd_T44 l1 x5_1).f2.f2) ((rd_T44 l1 x5_1).f2.f3) ((rd_T44 l1 x5_1).f2.f4) false _ A7.out).mono ?_
        rintro e w12 ⟨rfl, hb⟩
        refine ⟨_, rfl, ?_⟩
        have n0_ := Aside0.mk (below_step (bel_) hb)
        clear HB
        have HB := n0_
        clear n0_
        (try clear hb)
        (try clear hb2)
        (try clear hk)
        (try clear hi)
        refine hK.out _ _ ⟨((cb_ HB.out hw557_0 :)), ((cb_ HB.out hw557_1 :)), ((cb_ HB.out hw557_2 :)), ((cb_ HB.out hw557_3 :)), ((cb_ HB.out hw557_4 :)), ((cb_ HB.out hw557_5 :)), ((cb_ HB.out hw557_6 :)), ((cb_ HB.out hw558_0 :)), ((cb_ HB.out hw558_1 :)), ((cb_ HB.out hw558_2 :)), ((cb_ HB.out hw558_3 :)), ((cb_ HB.out hw558_4 :)), ((cb_ HB.out hw558_5 :)), ((cb_ HB.out hw558_6 :))⟩ (fun hHeld => ?_)
        clear hK K
        refine no_ 25 ?_
        refine pa_ 9 26 ?_
        refine done_ (done_of HT_.out (by kernel_rfl)) ?_
        try go_wp2
        go_ret
        exact ⟨fi_, bel_⟩
      ·rw [if_neg c6] at H
       exact absurd H (by simp)
     ·rw [if_neg c5] at H
      exact absurd H (by simp)
    ·rw [if_neg c4] at H
     have c4b0 : decide (x5_1 < (l0.length : Int)) = false := decide_eq_false c4
     clear c4
     obtain rfl := Option.some.inj H
     go_wp2
     go_ret
     exact ⟨fi_, bel_⟩
 ·rw [if_neg c3] at H
  have c3b0 : ((l0.length : Int) == (l1.length : Int)) = false := beq_eq_false_iff_ne.mpr c3
  have c3b1 : ((l0.length : Int) != (l1.length : Int)) = true := bne_iff_ne.mpr c3
  have c3b2 : (l0.length == l1.length) = false := by first | simpa using c3 | (simp at c3 ⊢; omega)
  obtain rfl := Option.some.inj H
  go_enter Tryd.func52, Tryd.ntmps52
  go_wp2
  go_ret
  exact ⟨fi_, bel_⟩

def laws_markText.l0 : Nat → Int → ByteArray → Option (ByteArray)
 | 0, _, _ => none
 | k + 1, x0, x3 => if x0 > 0 then ((some (([(wrap64 (48 + (Int.tmod x0 10))) % 256] : List Int) : List Int)).bind fun y563 => (if (strOfNums y563).size + x3.size ≤ 9223372036854775807 then (laws_markText.l0 k (wrap64 (Int.tdiv x0 10)) ((strOfNums y563) ++ x3)) else (none))) else (if 1 + x3.size ≤ 9223372036854775807 then (some ((⟨#[109]⟩ : ByteArray) ++ x3)) else (none))
def laws_markText.f (k : Nat) (a0 : Int) : Option (ByteArray) := if a0 ≤ 0 then (some (⟨#[109, 48]⟩ : ByteArray)) else (laws_markText.l0 k a0 (⟨#[]⟩ : ByteArray))
theorem laws_markText.mono_l : ∀ k, (∀ y0 y1, LeO (laws_markText.l0 k y0 y1) (laws_markText.l0 (k + 1) y0 y1))
 | 0 => fun _ _ r h => by simp [laws_markText.l0] at h
 | k + 1 => by
  have ih0 := laws_markText.mono_l k
  ·intro y0 y1
   unfold laws_markText.l0
   repeat' first
   | (with_reducible exact ih0 _ _)
   | (with_reducible exact LeO.refl _)
   | (with_reducible exact LeO.none _)
   | (with_reducible refine LeO.ite ?_ ?_)
   | (with_reducible refine LeO.bind ?_ (fun _ => ?_))
   | exact ih0 _ _
   | exact LeO.none _
   | refine LeO.ite ?_ ?_
   | refine LeO.bind ?_ (fun _ => ?_)
theorem laws_markText.mono : ∀ a0 k, LeO (laws_markText.f k a0) (laws_markText.f (k + 1) a0) := by
 intro a0 k
 have ih0 := laws_markText.mono_l k
 unfold laws_markText.f
 repeat' first
   | (with_reducible exact ih0 _ _)
   | (with_reducible exact LeO.refl _)
   | (with_reducible exact LeO.none _)
   | (with_reducible refine LeO.ite ?_ ?_)
   | (with_reducible refine LeO.bind ?_ (fun _ => ?_))
   | exact ih0 _ _
   | exact LeO.none _
   | refine LeO.ite ?_ ?_
   | refine LeO.bind ?_ (fun _ => ?_)
set_option maxHeartbeats 8000000 in
set_option maxRecDepth 100000 in
theorem laws_markText.calls (k : Nat) (a0 : Int) (r : ByteArray) (w : World) (h : laws_markText.f k a0 = some r) :
  Calls Tryd.prog 103 #[.int .i64 a0] w fun e w' => e = .returned (.string r) ∧ Below w.heap.size w w' := by
 have HB := Aside0.mk (Below.refl w.heap.size w)
 unfold laws_markText.f at h
 have H := h
 clear h
 by_cases c2 : a0 ≤ 0
 ·rw [if_pos c2] at H
  have c2b0 : decide (a0 ≤ 0) = true := decide_eq_true c2
  clear c2
  obtain rfl := Option.some.inj H
  go_enter Tryd.func103, Tryd.ntmps103
  go_wp2
  go_ret
  exact ⟨fi_, bel_⟩
 ·rw [if_neg c2] at H
  have c2b0 : decide (a0 ≤ 0) = false := decide_eq_false c2
  clear c2
  have H' := Aside0.mk H
  clear H
  go_enter Tryd.func103, Tryd.ntmps103
  go_wp2
  go_loopg [0, 3] k (fun kq v0 v3 w' => ∃ (x0_1 : Int) (x3_1 : ByteArray), v0 = .int .i64 x0_1 ∧ v3 = .string x3_1 ∧ Aside0 (laws_markText.l0 kq x0_1 x3_1 = some r) ∧ Aside0 (kq ≤ k) ∧ Aside0 (Below w.heap.size w w'))
  case atStart => exact ⟨(a0), ((⟨#[]⟩ : ByteArray)), (si_), (si_), H', ⟨Nat.le_refl _⟩, ⟨bel_⟩⟩
  case round =>
   clear H'
   try clear c1
   try clear c2
   try clear c2b0
   try clear p2
   obtain ⟨x0_1, x3_1, rfl, rfl, HA, HK1, HB⟩ := hrel
   cases gk with
   | zero => exact absurd HA.out (by simp [laws_markText.l0])
   | succ k1 =>
    have H := HA.out
    clear HA
    simp only [laws_markText.l0] at H
    by_cases c3 : x0_1 > 0
    ·rw [if_pos c3] at H
     have c3b0 : decide (0 < x0_1) = true := decide_eq_true c3
     clear c3
     obtain ⟨y563, hy563⟩ : ∃ y_ : List Int, y_ = (([(wrap64 (48 + (Int.tmod x0_1 10))) % 256] : List Int)) := ⟨_, rfl⟩
     replace H : (if (strOfNums y563).size + x3_1.size ≤ 9223372036854775807 then (laws_markText.l0 k1 (wrap64 (Int.tdiv x0_1 10)) ((strOfNums y563) ++ x3_1)) else (none)) = some r := by first | (rw [hy563]; with_reducible exact H) | (have H2_ := (Option.bind_some _ _).symm.trans H; rw [hy563]; with_reducible exact H2_) | (have H2_ := (Option.bind_some _ _).symm.trans H; with_reducible exact H2_) | with_reducible exact H | (rw [hy563]; exact H) | exact H
     have Ny563 := Aside0.mk hy563
     clear hy563
     by_cases c4 : (strOfNums y563).size + x3_1.size ≤ 9223372036854775807
     ·rw [if_pos c4] at H
      have c4b0 := eq_true c4
      have c4b1 : decide ((strOfNums y563).size + x3_1.size ≤ 9223372036854775807) = true := decide_eq_true c4
      try have c4b2 : (9223372036854775807 < (strOfNums y563).size + x3_1.size) = False := eq_false (Nat.not_lt.2 c4)
      have H' := Aside0.mk H
      clear H
      go_wp2_with (first | ((with_reducible refine gate_dst (N := 12) rfl ?_); refine Kd.R_lit (Kd.int .u8) _ 5 ?hg (N := 12) ?hd (xs := ([(wrap64 (48 + (Int.tmod x0_1 10))) % 256] : List Int)) (inner := [.int .u8 ((wrap64 (48 + (Int.tmod x0_1 10))) % 256)]) (ok := fun _ => True) (okp := fun _ => True) ?hr ?hp (fun _ hk => hk) trivial (Below.refl _ _) (Nat.le_refl _) (by simp) ?_; (case hd => rfl); (case hg => rfl); (case hr => first | (go_simp; done) | (go_simp; rfl)); (case hp => exact (Reps.one (show Kd.M (Kd.int .u8) _ _ _ ((wrap64 (48 + (Int.tmod x0_1 10))) % 256) [.int .u8 ((wrap64 (48 + (Int.tmod x0_1 10))) % 256)] from rfl) (Reps.none _ _))); intro v564 w5 ho6 hb hg_ hnew_; clear hg_ hnew_; (first | rw [← Ny563.out] at ho6 | (simp only [Int.reduceToNat] at ho6; rw [← Ny563.out] at ho6)); have HO565 := Aside0.mk (Kd.R_lower ho6 (below_size (bel_))); replace HB := Aside0.mk (below_step (bel_) hb); clear hb ho6; have hcv7 := own_string (P := Tryd.prog) Tryd.underlying22 Tryd.underlying5 Tryd.underlying9 (Kd.own_of_R HO565.out)))
      go_roundg k1
      case measure => have := HK1.out; omega
      case rel => exact ⟨(wrap64 (Int.tdiv x0_1 10)), ((strOfNums y563) ++ x3_1), (si_), (si_), H', ⟨by have := HK1.out; omega⟩, ⟨bel_⟩⟩
     ·rw [if_neg c4] at H
      exact absurd H (by simp)
    ·rw [if_neg c3] at H
     have c3b0 : decide (0 < x0_1) = false := decide_eq_false c3
     clear c3
     by_cases c8 : 1 + x3_1.size ≤ 9223372036854775807
     ·rw [if_pos c8] at H
      have c8b0 := eq_true c8
      have c8b1 : decide (1 + x3_1.size ≤ 9223372036854775807) = true := decide_eq_true c8
      try have c8b2 : (9223372036854775807 < 1 + x3_1.size) = False := eq_false (Nat.not_lt.2 c8)
      obtain rfl := Option.some.inj H
      go_wp2
      go_ret
      exact ⟨fi_, bel_⟩
     ·rw [if_neg c8] at H
      exact absurd H (by simp)

def laws_markEntryS.l0 : Nat → List (S44) → Int → Int → Option (Int × (List (S44)))
 | 0, _, _, _ => none
 | k + 1, x0, x1, x5 => if x5 < (x0.length : Int) then (if 0 ≤ x5 then ((some (x0.set (x5 : Int).toNat (⟨x1, (rd_T44 x0 x5).f1, (⟨(rd_T44 x0 x5).f2.f0, (rd_T44 x0 x5).f2.f1, (rd_T44 x0 x5).f2.f2, (rd_T44 x0 x5).f2.f3, (rd_T44 x0 x5).f2.f4⟩ : S42)⟩ : S44) : List (S44))).bind fun y566 => ((some (y566.set (x5 : Int).toNat (⟨(rd_T44 y566 x5).f0, wrap64 (x1 + 1), (⟨(rd_T44 y566 x5).f2.f0, (rd_T44 y566 x5).f2.f1, (rd_T44 y566 x5).f2.f2, (rd_T44 y566 x5).f2.f3, (rd_T44 y566 x5).f2.f4⟩ : S42)⟩ : S44) : List (S44))).bind fun y567 => ((some (y567.set (x5 : Int).toNat (⟨(rd_T44 y567 x5).f0, (rd_T44 y567 x5).f1, (⟨wrap64 ((wrap64 (x1 + 1)) + 1), (rd_T44 y567 x5).f2.f1, (rd_T44 y567 x5).f2.f2, (rd_T44 y567 x5).f2.f3, (rd_T44 y567 x5).f2.f4⟩ : S42)⟩ : S44) : List (S44))).bind fun y568 => ((some (y568.set (x5 : Int).toNat (⟨(rd_T44 y568 x5).f0, (rd_T44 y568 x5).f1, (⟨(rd_T44 y568 x5).f2.f0, wrap64 ((wrap64 ((wrap64 (x1 + 1)) + 1)) + 1), (rd_T44 y568 x5).f2.f2, (rd_T44 y568 x5).f2.f3, (rd_T44 y568 x5).f2.f4⟩ : S42)⟩ : S44) : List (S44))).bind fun y569 => ((some (y569.set (x5 : Int).toNat (⟨(rd_T44 y569 x5).f0, (rd_T44 y569 x5).f1, (⟨(rd_T44 y569 x5).f2.f0, (rd_T44 y569 x5).f2.f1, wrap64 ((wrap64 ((wrap64 ((wrap64 (x1 + 1)) + 1)) + 1)) + 1), (rd_T44 y569 x5).f2.f3, (rd_T44 y569 x5).f2.f4⟩ : S42)⟩ : S44) : List (S44))).bind fun y570 => ((some (y570.set (x5 : Int).toNat (⟨(rd_T44 y570 x5).f0, (rd_T44 y570 x5).f1, (⟨(rd_T44 y570 x5).f2.f0, (rd_T44 y570 x5).f2.f1, (rd_T44 y570 x5).f2.f2, wrap64 ((wrap64 ((wrap64 ((wrap64 ((wrap64 (x1 + 1)) + 1)) + 1)) + 1)) + 1), (rd_T44 y570 x5).f2.f4⟩ : S42)⟩ : S44) : List (S44))).bind fun y571 => ((laws_markText.f k (wrap64 ((wrap64 ((wrap64 ((wrap64 ((wrap64 ((wrap64 (x1 + 1)) + 1)) + 1)) + 1)) + 1)) + 1))).bind fun t572 => (laws_markEntryS.l0 k (y571.set (x5 : Int).toNat (⟨(rd_T44 y571 x5).f0, (rd_T44 y571 x5).f1, (⟨(rd_T44 y571 x5).f2.f0, (rd_T44 y571 x5).f2.f1, (rd_T44 y571 x5).f2.f2, (rd_T44 y571 x5).f2.f3, t572⟩ : S42)⟩ : S44)) (wrap64 ((wrap64 ((wrap64 ((wrap64 ((wrap64 ((wrap64 ((wrap64 (x1 + 1)) + 1)) + 1)) + 1)) + 1)) + 1)) + 1)) (wrap64 (x5 + 1)))))))))) else (none)) else (some (x1, x0))
def laws_markEntryS.f (k : Nat) (l0 : List (S44)) (a1 : Int) : Option (Int × (List (S44))) := laws_markEntryS.l0 k l0 a1 0
theorem laws_markEntryS.mono_l : ∀ k, (∀ y0 y1 y2, LeO (laws_markEntryS.l0 k y0 y1 y2) (laws_markEntryS.l0 (k + 1) y0 y1 y2))
 | 0 => fun _ _ _ r h => by simp [laws_markEntryS.l0] at h
 | k + 1 => by
  have ih0 := laws_markEntryS.mono_l k
  ·intro y0 y1 y2
   unfold laws_markEntryS.l0
   repeat' first
   | (with_reducible exact ih0 _ _ _)
   | (with_reducible exact laws_markText.mono _ _)
   | (with_reducible exact LeO.refl _)
   | (with_reducible exact LeO.none _)
   | (with_reducible refine LeO.ite ?_ ?_)
   | (with_reducible refine LeO.bind ?_ (fun _ => ?_))
   | exact ih0 _ _ _
   | exact laws_markText.mono _ _
   | exact LeO.none _
   | refine LeO.ite ?_ ?_
   | refine LeO.bind ?_ (fun _ => ?_)
theorem laws_markEntryS.mono : ∀ a0 a1 k, LeO (laws_markEntryS.f k a0 a1) (laws_markEntryS.f (k + 1) a0 a1) := by
 intro a0 a1 k
 have ih0 := laws_markEntryS.mono_l k
 unfold laws_markEntryS.f
 repeat' first
   | (with_reducible exact ih0 _ _ _)
   | (with_reducible exact laws_markText.mono _ _)
   | (with_reducible exact LeO.refl _)
   | (with_reducible exact LeO.none _)
   | (with_reducible refine LeO.ite ?_ ?_)
   | (with_reducible refine LeO.bind ?_ (fun _ => ?_))
   | exact ih0 _ _ _
   | exact laws_markText.mono _ _
   | exact LeO.none _
   | refine LeO.ite ?_ ?_
   | refine LeO.bind ?_ (fun _ => ?_)
end Go.Proofs.YtdpklbomhdpimaaDoor.P
