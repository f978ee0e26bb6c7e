/- Joined by a program (wip/shake.py): the declarations that 'YtnclcbjagleoeaaDoorCardFnExactServerFall' reaches. -/
import Derived.Test.YtnclcbjagleoeaaDoorZFa3
set_option linter.unusedVariables false
set_option linter.unusedSimpArgs false
namespace Go.Proofs.YtnclcbjagleoeaaDoor.P
open Go.RowKit Go.Proofs.YtnclcbjagleoeaaDoorW.PrintWords Go.Proofs.YtnclcbjagleoeaaDoorW.PrintLast Go.Proofs.YtnclcbjagleoeaaDoorW.PrintMore
set_option maxHeartbeats 4000000 in
set_option maxRecDepth 100000 in
theorem impl_ServerFall.calls (k : Nat) (A0_0 : Option Addr) (c0_0 : Nat) (l0_0 : List S56) (a0_1 : Int) (a0_2 : Bool) (a1 : Int) (r1 : List S56) (r2 : Int) (r3 : Bool) (w : World) (hr0_0 : Kd.C k56 w A0_0 l0_0.length l0_0) (hc0_0 : l0_0.length ≤ c0_0) (h : impl_ServerFall.f k l0_0 a0_1 a0_2 a1 = some (r1, r2, r3)) (hG : Glob w) :
    Calls Tryd.prog 30 #[.agg #[.slice A0_0 l0_0.length c0_0, .int .i64 a0_1, .bool a0_2], .int .i64 a1] w fun e w' => ∃ v0_ : Value, e = .returned (.agg #[v0_, .int .i64 r2, .bool r3]) ∧ Kd.R k56 56 w' w.heap.size (fun _ => True) v0_ r1 ∧ Below w.heap.size w w' := by
  have HR0 := Aside0.mk hr0_0
  have HC0 := Aside0.mk hc0_0
  have HG := Aside0.mk hG
  clear hr0_0 hc0_0 hG
  have hu1 := Tryd.underlying29
  have hu2 := Tryd.underlying83
  have hu3 := Tryd.underlying79
  unfold impl_ServerFall.f at h
  obtain ⟨t, ht, h⟩ := Option.bind_eq_some_iff.1 h
  have HT := Aside0.mk ht
  clear ht
  cases t with
  | false =>
    simp only [Bool.false_eq_true, if_false, Option.some.injEq, Prod.mk.injEq] at h
    obtain ⟨rfl, rfl, rfl⟩ := h
    go_enter Tryd.func30, Tryd.ntmps30
    go_wp2_with (first | ((with_reducible refine gate_dst (N := 2) rfl ?_); refine box_event ?hg (N := 2) ?hd (cs := #[.slice A0_0 l0_0.length c0_0, .int .i64 a0_1, .bool a0_2]) (t := 29) ?hr ?_; (case hd => rfl); (case hg => rfl); (case hr => first | (go_simp; done) | (go_simp; rfl)); intro g1 hg1 w1 hbox1 hb1; have HB1 := Aside0.mk hb1; have BK1 := Aside0.mk hbox1; clear hb1 hbox1 hg1) | ((with_reducible refine gate_dst (N := 4) rfl ?_); refine box_event ?hg (N := 4) ?hd (cs := #[.slice none 0 0, .int .i64 0, .bool false]) (t := 29) ?hr ?_; (case hd => rfl); (case hg => rfl); (case hr => first | (go_simp; done) | (go_simp; rfl)); intro g2 hg2 w2 hbox2 hb2; have BK12 := Aside0.mk (blk_below BK1.out hb2); have HB2 := Aside0.mk (below_step HB1.out hb2); have BK2 := Aside0.mk hbox2; have GE2 := Aside0.mk (show w.heap.size ≤ g2 by rw [hg2]; exact HB1.out.size); have LT2 := Aside0.mk (blk_lt hbox2); clear hb2 hbox2 hg2; have hx0 : w2.cell? ⟨g1, 0, none⟩ = some (.slice A0_0 l0_0.length c0_0) := (blk_cell BK12.out 0).trans rfl; have hx1 : w2.cell? ⟨g1, 1, none⟩ = some (.int .i64 a0_1) := (blk_cell BK12.out 1).trans rfl; have hx2 : w2.cell? ⟨g1, 2, none⟩ = some (.bool a0_2) := (blk_cell BK12.out 2).trans rfl) | (go_at_call 26; refine (impl_ServerOk.calls k _ _ l0_0 a0_1 a0_2 false _ (Kd.C_below HR0.out HB2.out) HC0.out HT.out (HG.out.below HB2.out)).mono ?_; rintro e w3 ⟨rfl, hb3⟩; have BK13 := Aside0.mk (blk_below BK12.out hb3); have BK23 := Aside0.mk (blk_below BK2.out hb3); have HB3 := Aside0.mk (below_step HB2.out hb3); have LT3 := Aside0.mk (Nat.lt_of_lt_of_le LT2.out hb3.size); clear hb3; have hy0 : w3.cell? ⟨g1, 0, none⟩ = some (.slice A0_0 l0_0.length c0_0) := (blk_cell BK13.out 0).trans rfl; have hy1 : w3.cell? ⟨g1, 1, none⟩ = some (.int .i64 a0_1) := (blk_cell BK13.out 1).trans rfl; have hy2 : w3.cell? ⟨g1, 2, none⟩ = some (.bool a0_2) := (blk_cell BK13.out 2).trans rfl; have hz0 : w3.cell? ⟨g2, 0, none⟩ = some (.slice none 0 0) := (blk_cell BK23.out 0).trans rfl; have hz1 : w3.cell? ⟨g2, 1, none⟩ = some (.int .i64 0) := (blk_cell BK23.out 1).trans rfl; have hz2 : w3.cell? ⟨g2, 2, none⟩ = some (.bool false) := (blk_cell BK23.out 2).trans rfl; have hzf0 := blk_frozen BK23.out 0; have hzf1 := blk_frozen BK23.out 1; have hzf2 := blk_frozen BK23.out 2))
    (try simp only [Exit.inBlock, Exit.then])
    refine bodyPost_ret (results_cell_row rfl _ _ g2 29 #[.slice none 0 0, .int .i64 0, .bool false] (0, 0) _ rfl ((blk_set (blk_set (blk_set BK23.out 0 _) 1 _) 2 _).trans rfl) Tryd.underlying29 rfl (by kernel_rfl)) rfl ?_
    exact ⟨_, rfl, Kd.R_nil _ _ _ _ _, below_set (below_set (below_set HB3.out GE2.out) GE2.out) GE2.out⟩
  | true =>
    rw [if_pos rfl] at h
    by_cases h1 : a1 < 0
    · rw [if_pos h1] at h
      simp only [Option.some.injEq, Prod.mk.injEq] at h
      obtain ⟨rfl, rfl, rfl⟩ := h
      have hd1 : decide (a1 < 0) = true := decide_eq_true h1
      clear h1
      go_enter Tryd.func30, Tryd.ntmps30
      go_wp2_with (first | ((with_reducible refine gate_dst (N := 2) rfl ?_); refine box_event ?hg (N := 2) ?hd (cs := #[.slice A0_0 l0_0.length c0_0, .int .i64 a0_1, .bool a0_2]) (t := 29) ?hr ?_; (case hd => rfl); (case hg => rfl); (case hr => first | (go_simp; done) | (go_simp; rfl)); intro g1 hg1 w1 hbox1 hb1; have HB1 := Aside0.mk hb1; have BK1 := Aside0.mk hbox1; clear hb1 hbox1 hg1) | ((with_reducible refine gate_dst (N := 4) rfl ?_); refine box_event ?hg (N := 4) ?hd (cs := #[.slice none 0 0, .int .i64 0, .bool false]) (t := 29) ?hr ?_; (case hd => rfl); (case hg => rfl); (case hr => first | (go_simp; done) | (go_simp; rfl)); intro g2 hg2 w2 hbox2 hb2; have BK12 := Aside0.mk (blk_below BK1.out hb2); have HB2 := Aside0.mk (below_step HB1.out hb2); have BK2 := Aside0.mk hbox2; have GE2 := Aside0.mk (show w.heap.size ≤ g2 by rw [hg2]; exact HB1.out.size); have LT2 := Aside0.mk (blk_lt hbox2); clear hb2 hbox2 hg2; have hx0 : w2.cell? ⟨g1, 0, none⟩ = some (.slice A0_0 l0_0.length c0_0) := (blk_cell BK12.out 0).trans rfl; have hx1 : w2.cell? ⟨g1, 1, none⟩ = some (.int .i64 a0_1) := (blk_cell BK12.out 1).trans rfl; have hx2 : w2.cell? ⟨g1, 2, none⟩ = some (.bool a0_2) := (blk_cell BK12.out 2).trans rfl) | (go_at_call 26; refine (impl_ServerOk.calls k _ _ l0_0 a0_1 a0_2 true _ (Kd.C_below HR0.out HB2.out) HC0.out HT.out (HG.out.below HB2.out)).mono ?_; rintro e w3 ⟨rfl, hb3⟩; have BK13 := Aside0.mk (blk_below BK12.out hb3); have BK23 := Aside0.mk (blk_below BK2.out hb3); have HB3 := Aside0.mk (below_step HB2.out hb3); have LT3 := Aside0.mk (Nat.lt_of_lt_of_le LT2.out hb3.size); clear hb3; have hy0 : w3.cell? ⟨g1, 0, none⟩ = some (.slice A0_0 l0_0.length c0_0) := (blk_cell BK13.out 0).trans rfl; have hy1 : w3.cell? ⟨g1, 1, none⟩ = some (.int .i64 a0_1) := (blk_cell BK13.out 1).trans rfl; have hy2 : w3.cell? ⟨g1, 2, none⟩ = some (.bool a0_2) := (blk_cell BK13.out 2).trans rfl; have hz0 : w3.cell? ⟨g2, 0, none⟩ = some (.slice none 0 0) := (blk_cell BK23.out 0).trans rfl; have hz1 : w3.cell? ⟨g2, 1, none⟩ = some (.int .i64 0) := (blk_cell BK23.out 1).trans rfl; have hz2 : w3.cell? ⟨g2, 2, none⟩ = some (.bool false) := (blk_cell BK23.out 2).trans rfl; have hzf0 := blk_frozen BK23.out 0; have hzf1 := blk_frozen BK23.out 1; have hzf2 := blk_frozen BK23.out 2))
      (try simp only [Exit.inBlock, Exit.then])
      refine bodyPost_ret (results_cell_row rfl _ _ g2 29 #[.slice none 0 0, .int .i64 0, .bool false] (0, 0) _ rfl ((blk_set (blk_set (blk_set BK23.out 0 _) 1 _) 2 _).trans rfl) Tryd.underlying29 rfl (by kernel_rfl)) rfl ?_
      exact ⟨_, rfl, Kd.R_nil _ _ _ _ _, below_set (below_set (below_set HB3.out GE2.out) GE2.out) GE2.out⟩
    · rw [if_neg h1] at h
      have hd1 : decide (a1 < 0) = false := decide_eq_false h1
      by_cases h2 : a1 > 40
      · rw [if_pos h2] at h
        simp only [Option.some.injEq, Prod.mk.injEq] at h
        obtain ⟨rfl, rfl, rfl⟩ := h
        have hd2 : decide (40 < a1) = true := decide_eq_true h2
        clear h1 h2
        go_enter Tryd.func30, Tryd.ntmps30
        go_wp2_with (first | ((with_reducible refine gate_dst (N := 2) rfl ?_); refine box_event ?hg (N := 2) ?hd (cs := #[.slice A0_0 l0_0.length c0_0, .int .i64 a0_1, .bool a0_2]) (t := 29) ?hr ?_; (case hd => rfl); (case hg => rfl); (case hr => first | (go_simp; done) | (go_simp; rfl)); intro g1 hg1 w1 hbox1 hb1; have HB1 := Aside0.mk hb1; have BK1 := Aside0.mk hbox1; clear hb1 hbox1 hg1) | ((with_reducible refine gate_dst (N := 4) rfl ?_); refine box_event ?hg (N := 4) ?hd (cs := #[.slice none 0 0, .int .i64 0, .bool false]) (t := 29) ?hr ?_; (case hd => rfl); (case hg => rfl); (case hr => first | (go_simp; done) | (go_simp; rfl)); intro g2 hg2 w2 hbox2 hb2; have BK12 := Aside0.mk (blk_below BK1.out hb2); have HB2 := Aside0.mk (below_step HB1.out hb2); have BK2 := Aside0.mk hbox2; have GE2 := Aside0.mk (show w.heap.size ≤ g2 by rw [hg2]; exact HB1.out.size); have LT2 := Aside0.mk (blk_lt hbox2); clear hb2 hbox2 hg2; have hx0 : w2.cell? ⟨g1, 0, none⟩ = some (.slice A0_0 l0_0.length c0_0) := (blk_cell BK12.out 0).trans rfl; have hx1 : w2.cell? ⟨g1, 1, none⟩ = some (.int .i64 a0_1) := (blk_cell BK12.out 1).trans rfl; have hx2 : w2.cell? ⟨g1, 2, none⟩ = some (.bool a0_2) := (blk_cell BK12.out 2).trans rfl) | (go_at_call 26; refine (impl_ServerOk.calls k _ _ l0_0 a0_1 a0_2 true _ (Kd.C_below HR0.out HB2.out) HC0.out HT.out (HG.out.below HB2.out)).mono ?_; rintro e w3 ⟨rfl, hb3⟩; have BK13 := Aside0.mk (blk_below BK12.out hb3); have BK23 := Aside0.mk (blk_below BK2.out hb3); have HB3 := Aside0.mk (below_step HB2.out hb3); have LT3 := Aside0.mk (Nat.lt_of_lt_of_le LT2.out hb3.size); clear hb3; have hy0 : w3.cell? ⟨g1, 0, none⟩ = some (.slice A0_0 l0_0.length c0_0) := (blk_cell BK13.out 0).trans rfl; have hy1 : w3.cell? ⟨g1, 1, none⟩ = some (.int .i64 a0_1) := (blk_cell BK13.out 1).trans rfl; have hy2 : w3.cell? ⟨g1, 2, none⟩ = some (.bool a0_2) := (blk_cell BK13.out 2).trans rfl; have hz0 : w3.cell? ⟨g2, 0, none⟩ = some (.slice none 0 0) := (blk_cell BK23.out 0).trans rfl; have hz1 : w3.cell? ⟨g2, 1, none⟩ = some (.int .i64 0) := (blk_cell BK23.out 1).trans rfl; have hz2 : w3.cell? ⟨g2, 2, none⟩ = some (.bool false) := (blk_cell BK23.out 2).trans rfl; have hzf0 := blk_frozen BK23.out 0; have hzf1 := blk_frozen BK23.out 1; have hzf2 := blk_frozen BK23.out 2))
        (try simp only [Exit.inBlock, Exit.then])
        refine bodyPost_ret (results_cell_row rfl _ _ g2 29 #[.slice none 0 0, .int .i64 0, .bool false] (0, 0) _ rfl ((blk_set (blk_set (blk_set BK23.out 0 _) 1 _) 2 _).trans rfl) Tryd.underlying29 rfl (by kernel_rfl)) rfl ?_
        exact ⟨_, rfl, Kd.R_nil _ _ _ _ _, below_set (below_set (below_set HB3.out GE2.out) GE2.out) GE2.out⟩
      · rw [if_neg h2] at h
        have hd2 : decide (40 < a1) = false := decide_eq_false h2
        by_cases hl : l0_0.length < 2199023255552
        · rw [if_pos hl] at h
          have LM := Aside0.mk hl
          clear hl
          by_cases hm : 0 ≤ fallAt l0_0.length a0_1 a1
          · rw [if_pos hm] at h
            simp only [Option.some.injEq, Prod.mk.injEq] at h
            obtain ⟨rfl, rfl, rfl⟩ := h
            have HM := Aside0.mk hm
            clear h1 h2 hm
            go_enter Tryd.func30, Tryd.ntmps30
            go_wp2_with (first | ((with_reducible refine gate_dst (N := 2) rfl ?_); refine box_event ?hg (N := 2) ?hd (cs := #[.slice A0_0 l0_0.length c0_0, .int .i64 a0_1, .bool a0_2]) (t := 29) ?hr ?_; (case hd => rfl); (case hg => rfl); (case hr => first | (go_simp; done) | (go_simp; rfl)); intro g1 hg1 w1 hbox1 hb1; have HB1 := Aside0.mk hb1; have BK1 := Aside0.mk hbox1; clear hb1 hbox1 hg1) | ((with_reducible refine gate_dst (N := 4) rfl ?_); refine box_event ?hg (N := 4) ?hd (cs := #[.slice none 0 0, .int .i64 0, .bool false]) (t := 29) ?hr ?_; (case hd => rfl); (case hg => rfl); (case hr => first | (go_simp; done) | (go_simp; rfl)); intro g2 hg2 w2 hbox2 hb2; have BK12 := Aside0.mk (blk_below BK1.out hb2); have HB2 := Aside0.mk (below_step HB1.out hb2); have BK2 := Aside0.mk hbox2; have GE2 := Aside0.mk (show w.heap.size ≤ g2 by rw [hg2]; exact HB1.out.size); have LT2 := Aside0.mk (blk_lt hbox2); clear hb2 hbox2 hg2; have hx0 : w2.cell? ⟨g1, 0, none⟩ = some (.slice A0_0 l0_0.length c0_0) := (blk_cell BK12.out 0).trans rfl; have hx1 : w2.cell? ⟨g1, 1, none⟩ = some (.int .i64 a0_1) := (blk_cell BK12.out 1).trans rfl; have hx2 : w2.cell? ⟨g1, 2, none⟩ = some (.bool a0_2) := (blk_cell BK12.out 2).trans rfl) | (go_at_call 26; refine (impl_ServerOk.calls k _ _ l0_0 a0_1 a0_2 true _ (Kd.C_below HR0.out HB2.out) HC0.out HT.out (HG.out.below HB2.out)).mono ?_; rintro e w3 ⟨rfl, hb3⟩; have BK13 := Aside0.mk (blk_below BK12.out hb3); have BK23 := Aside0.mk (blk_below BK2.out hb3); have HB3 := Aside0.mk (below_step HB2.out hb3); have LT3 := Aside0.mk (Nat.lt_of_lt_of_le LT2.out hb3.size); clear hb3; have hy0 : w3.cell? ⟨g1, 0, none⟩ = some (.slice A0_0 l0_0.length c0_0) := (blk_cell BK13.out 0).trans rfl; have hy1 : w3.cell? ⟨g1, 1, none⟩ = some (.int .i64 a0_1) := (blk_cell BK13.out 1).trans rfl; have hy2 : w3.cell? ⟨g1, 2, none⟩ = some (.bool a0_2) := (blk_cell BK13.out 2).trans rfl; have hz0 : w3.cell? ⟨g2, 0, none⟩ = some (.slice none 0 0) := (blk_cell BK23.out 0).trans rfl; have hz1 : w3.cell? ⟨g2, 1, none⟩ = some (.int .i64 0) := (blk_cell BK23.out 1).trans rfl; have hz2 : w3.cell? ⟨g2, 2, none⟩ = some (.bool false) := (blk_cell BK23.out 2).trans rfl; have hzf0 := blk_frozen BK23.out 0; have hzf1 := blk_frozen BK23.out 1; have hzf2 := blk_frozen BK23.out 2) | (go_at_call 61; refine (impl_machineOf.calls _ _ l0_0 a0_1 a0_2 _ (Kd.C_below HR0.out HB3.out) HC0.out LM.out).mono ?_; rintro e w4 ⟨g, rfl, ⟨A4, c4, hk4, hr4, hge4⟩, hb4⟩; have HK4 := Aside0.mk hk4; have HRR4 := Aside0.mk hr4; have GE4 := Aside0.mk (Nat.le_trans HB3.out.size hge4); have NE4 := Aside0.mk (show g2 ≠ g by have := LT3.out; omega); have BK24 := Aside0.mk (blk_below BK23.out hb4); have HB4 := Aside0.mk (below_step HB3.out hb4); clear hb4 hk4 hr4 hge4))
            have hmin : (if (l0_0.length : Int) < wrap64 (a0_1 + a1) then (l0_0.length : Int) else wrap64 (a0_1 + a1)) = fallAt l0_0.length a0_1 a1 := rfl
            have hle := fallAt_le l0_0.length a0_1 a1
            have hm0 := HM.out
            generalize hme : fallAt l0_0.length a0_1 a1 = m at hmin hle hm0 ⊢
            have HME := Aside0.mk hme
            clear hme
            obtain ⟨_, hc4, _⟩ := Kd.R_reads' HRR4.out
            have hm1 : m ≤ (c4 : Int) := by omega
            have HLE := Aside0.mk (show m.toNat ≤ l0_0.length from by omega)
            have hm0 := eq_true hm0
            have hm1 := eq_true hm1
            have HKd := Aside0.mk (blk_drew HK4.out)
            have HRd := Aside0.mk (Kd.R_drew HRR4.out)
            have BKd := Aside0.mk (blk_drew BK24.out)
            have HBd := Aside0.mk (below_drew1 HB4.out)
            clear hle hc4
            refine start_ (n := 24) (S := fun w' => w'.cell? ⟨g, 0, none⟩ = some (.slice A4 l0_0.length c4) ∧ w'.cell? ⟨g, 2, none⟩ = some (.int .i64 a0_1)) (ds := [23]) #[false, false, false, false, false, false, false, false, false, false, false, false, false, false, false, false, false, false, false, false, false, false, false, false] (by kernel_rfl) rfl rfl ⟨(blk_cell HK4.out 0).trans rfl, (blk_cell HK4.out 2).trans rfl⟩ (fun hHeld => ?_)
            refine pure_ (i := 0) (N := some 20) (v := ?_) (a' := ?_) #[true, false, false, false, false, false, false, false, false, false, false, false, false, false, false, false, false, false, false, false, false, false, false, false] rfl rfl (by kernel_rfl) (fun _ _ _ h => h) (Or.inl ⟨by rfl, ?_⟩) ?_ ?_
            rotate_left
            · intro w'
              go_simp
              with_reducible rfl
            rotate_left
            · simp only [Act.put, List.setIfInBounds_toArray, List.set_cons_zero, List.set_cons_succ, i64_w, i32_w]
              rfl
            refine pure_ (i := 1) (N := some 21) (v := ?_) (a' := ?_) #[true, true, false, false, false, false, false, false, false, false, false, false, false, false, false, false, false, false, false, false, false, false, false, false] rfl rfl (by kernel_rfl) (fun _ _ _ h => h) (Or.inl ⟨by rfl, ?_⟩) ?_ ?_
            rotate_left
            · intro w'
              go_simp
              with_reducible rfl
            rotate_left
            · simp only [Act.put, List.setIfInBounds_toArray, List.set_cons_zero, List.set_cons_succ, i64_w, i32_w]
              rfl
            refine pure_ (i := 2) (N := some 22) (v := ?_) (a' := ?_) #[true, true, true, false, false, false, false, false, false, false, false, false, false, false, false, false, false, false, false, false, false, false, false, false] rfl rfl (by kernel_rfl) (fun _ _ _ h => h) (Or.inl ⟨by rfl, ?_⟩) ?_ ?_
            rotate_left
            · intro w'
              go_simp
              with_reducible rfl
            rotate_left
            · simp only [Act.put, List.setIfInBounds_toArray, List.set_cons_zero, List.set_cons_succ, i64_w, i32_w]
              rfl
            refine pure_ (i := 3) (N := some 23) (v := ?_) (a' := ?_) #[true, true, true, true, false, false, false, false, false, false, false, false, false, false, false, false, false, false, false, false, false, false, false, false] rfl rfl (by kernel_rfl) (fun _ _ _ h => h) (Or.inl ⟨by rfl, ?_⟩) ?_ ?_
            rotate_left
            · intro w'
              go_simp
              with_reducible rfl
            rotate_left
            · simp only [Act.put, List.setIfInBounds_toArray, List.set_cons_zero, List.set_cons_succ, i64_w, i32_w]
              rfl
            refine pure_ (i := 4) (N := some 24) (v := ?_) (a' := ?_) #[true, true, true, true, true, false, false, false, false, false, false, false, false, false, false, false, false, false, false, false, false, false, false, false] rfl rfl (by kernel_rfl) (fun _ _ _ h => h) (Or.inl ⟨by rfl, ?_⟩) ?_ ?_
            rotate_left
            · intro w'
              go_simp
              with_reducible rfl
            rotate_left
            · simp only [Act.put, List.setIfInBounds_toArray, List.set_cons_zero, List.set_cons_succ, i64_w, i32_w]
              rfl
            refine take_ (i := 5) (N := some 25) (v := ?_) (a' := ?_) #[true, true, true, true, true, true, false, false, false, false, false, false, false, false, false, false, false, false, false, false, false, false, false, false] rfl rfl (by kernel_rfl) (fun _ _ _ h => h) (Or.inl ⟨by rfl, ?_⟩) hHeld ?_ ?_
            rotate_left
            · rintro w' ⟨s0, s1⟩
              go_simp
              with_reducible rfl
            rotate_left
            · simp only [Act.put, List.setIfInBounds_toArray, List.set_cons_zero, List.set_cons_succ, i64_w, i32_w]
              rfl
            refine pure_ (i := 6) (N := some 26) (v := ?_) (a' := ?_) #[true, true, true, true, true, true, true, false, false, false, false, false, false, false, false, false, false, false, false, false, false, false, false, false] rfl rfl (by kernel_rfl) (fun _ _ _ h => h) (Or.inl ⟨by rfl, ?_⟩) ?_ ?_
            rotate_left
            · intro w'
              go_simp
              with_reducible rfl
            rotate_left
            · simp only [Act.put, List.setIfInBounds_toArray, List.set_cons_zero, List.set_cons_succ, i64_w, i32_w]
              rfl
            refine pure_ (i := 7) (N := some 27) (v := ?_) (a' := ?_) #[true, true, true, true, true, true, true, true, false, false, false, false, false, false, false, false, false, false, false, false, false, false, false, false] rfl rfl (by kernel_rfl) (fun _ _ _ h => h) (Or.inl ⟨by rfl, ?_⟩) ?_ ?_
            rotate_left
            · intro w'
              go_simp
              with_reducible rfl
            rotate_left
            · simp only [Act.put, List.setIfInBounds_toArray, List.set_cons_zero, List.set_cons_succ, i64_w, i32_w]
              rfl
            refine pure_ (i := 8) (N := some 28) (v := ?_) (a' := ?_) #[true, true, true, true, true, true, true, true, true, false, false, false, false, false, false, false, false, false, false, false, false, false, false, false] rfl rfl (by kernel_rfl) (fun _ _ _ h => h) (Or.inl ⟨by rfl, ?_⟩) ?_ ?_
            rotate_left
            · intro w'
              go_simp
              with_reducible rfl
            rotate_left
            · simp only [Act.put, List.setIfInBounds_toArray, List.set_cons_zero, List.set_cons_succ, i64_w, i32_w]
              rfl
            refine take_ (i := 9) (N := some 29) (v := ?_) (a' := ?_) #[true, true, true, true, true, true, true, true, true, true, false, false, false, false, false, false, false, false, false, false, false, false, false, false] rfl rfl (by kernel_rfl) (fun _ _ _ h => h) (Or.inl ⟨by rfl, ?_⟩) hHeld ?_ ?_
            rotate_left
            · rintro w' ⟨s0, s1⟩
              go_simp
              with_reducible rfl
            rotate_left
            · simp only [Act.put, List.setIfInBounds_toArray, List.set_cons_zero, List.set_cons_succ, i64_w, i32_w]
              rfl
            refine pure_ (i := 10) (N := some 30) (v := ?_) (a' := ?_) #[true, true, true, true, true, true, true, true, true, true, true, false, false, false, false, false, false, false, false, false, false, false, false, false] rfl rfl (by kernel_rfl) (fun _ _ _ h => h) (Or.inl ⟨by rfl, ?_⟩) ?_ ?_
            rotate_left
            · intro w'
              go_simp
              with_reducible rfl
            rotate_left
            · simp only [Act.put, List.setIfInBounds_toArray, List.set_cons_zero, List.set_cons_succ, i64_w, i32_w]
              rfl
            refine pure_ (i := 11) (N := some 31) (v := ?_) (a' := ?_) #[true, true, true, true, true, true, true, true, true, true, true, true, false, false, false, false, false, false, false, false, false, false, false, false] rfl rfl (by kernel_rfl) (fun _ _ _ h => h) (Or.inl ⟨by rfl, ?_⟩) ?_ ?_
            rotate_left
            · intro w'
              go_simp
              with_reducible rfl
            rotate_left
            · simp only [Act.put, List.setIfInBounds_toArray, List.set_cons_zero, List.set_cons_succ, i64_w, i32_w]
              rfl
            refine pure_ (i := 12) (N := some 32) (v := ?_) (a' := ?_) #[true, true, true, true, true, true, true, true, true, true, true, true, true, false, false, false, false, false, false, false, false, false, false, false] rfl rfl (by kernel_rfl) (fun _ _ _ h => h) (Or.inl ⟨by rfl, ?_⟩) ?_ ?_
            rotate_left
            · intro w'
              go_simp
              with_reducible rfl
            rotate_left
            · simp only [Act.put, List.setIfInBounds_toArray, List.set_cons_zero, List.set_cons_succ, i64_w, i32_w]
              rfl
            refine pure_ (i := 13) (N := some 33) (v := ?_) (a' := ?_) #[true, true, true, true, true, true, true, true, true, true, true, true, true, true, false, false, false, false, false, false, false, false, false, false] rfl rfl (by kernel_rfl) (fun _ _ _ h => h) (Or.inl ⟨by rfl, ?_⟩) ?_ ?_
            rotate_left
            · intro w'
              go_simp
              with_reducible rfl
            rotate_left
            · simp only [Act.put, List.setIfInBounds_toArray, List.set_cons_zero, List.set_cons_succ, i64_w, i32_w]
              rfl
            refine pure_ (i := 14) (N := some 34) (v := ?_) (a' := ?_) #[true, true, true, true, true, true, true, true, true, true, true, true, true, true, true, false, false, false, false, false, false, false, false, false] rfl rfl (by kernel_rfl) (fun _ _ _ h => h) (Or.inl ⟨by rfl, ?_⟩) ?_ ?_
            rotate_left
            · intro w'
              go_simp
              with_reducible rfl
            rotate_left
            · simp only [Act.put, List.setIfInBounds_toArray, List.set_cons_zero, List.set_cons_succ, i64_w, i32_w]
              rfl
            refine pure_ (i := 15) (N := some 35) (v := ?_) (a' := ?_) #[true, true, true, true, true, true, true, true, true, true, true, true, true, true, true, true, false, false, false, false, false, false, false, false] rfl rfl (by kernel_rfl) (fun _ _ _ h => h) (Or.inl ⟨by rfl, ?_⟩) ?_ ?_
            rotate_left
            · intro w'
              go_simp
              with_reducible rfl
            rotate_left
            · simp only [Act.put, List.setIfInBounds_toArray, List.set_cons_zero, List.set_cons_succ, i64_w, i32_w]
              rfl
            refine take_ (i := 16) (N := some 36) (v := ?_) (a' := ?_) #[true, true, true, true, true, true, true, true, true, true, true, true, true, true, true, true, true, false, false, false, false, false, false, false] rfl rfl (by kernel_rfl) (fun _ _ _ h => h) (Or.inl ⟨by rfl, ?_⟩) hHeld ?_ ?_
            rotate_left
            · rintro w' ⟨s0, s1⟩
              go_simp
              with_reducible rfl
            rotate_left
            · simp only [Act.put, List.setIfInBounds_toArray, List.set_cons_zero, List.set_cons_succ, i64_w, i32_w]
              rfl
            refine pure_ (i := 17) (N := some 37) (v := ?_) (a' := ?_) #[true, true, true, true, true, true, true, true, true, true, true, true, true, true, true, true, true, true, false, false, false, false, false, false] rfl rfl (by kernel_rfl) (fun _ _ _ h => h) (Or.inl ⟨by rfl, ?_⟩) ?_ ?_
            rotate_left
            · intro w'
              go_simp
              with_reducible rfl
            rotate_left
            · simp only [Act.put, List.setIfInBounds_toArray, List.set_cons_zero, List.set_cons_succ, i64_w, i32_w]
              rfl
            refine pure_ (i := 18) (N := some 38) (v := ?_) (a' := ?_) #[true, true, true, true, true, true, true, true, true, true, true, true, true, true, true, true, true, true, true, false, false, false, false, false] rfl rfl (by kernel_rfl) (fun _ _ _ h => h) (Or.inl ⟨by rfl, ?_⟩) ?_ ?_
            rotate_left
            · intro w'
              go_simp
              with_reducible rfl
            rotate_left
            · simp only [Act.put, List.setIfInBounds_toArray, List.set_cons_zero, List.set_cons_succ, i64_w, i32_w]
              rfl
            refine pure_ (i := 19) (N := some 39) (v := ?_) (a' := ?_) #[true, true, true, true, true, true, true, true, true, true, true, true, true, true, true, true, true, true, true, true, false, false, false, false] rfl rfl (by kernel_rfl) (fun _ _ _ h => h) (Or.inl ⟨by rfl, ?_⟩) ?_ ?_
            rotate_left
            · intro w'
              go_simp
              with_reducible rfl
            rotate_left
            · simp only [Act.put, List.setIfInBounds_toArray, List.set_cons_zero, List.set_cons_succ, i64_w, i32_w]
              rfl
            refine pure_ (i := 20) (N := some 40) (v := ?_) (a' := ?_) #[true, true, true, true, true, true, true, true, true, true, true, true, true, true, true, true, true, true, true, true, true, false, false, false] rfl rfl (by kernel_rfl) (fun _ _ _ h => h) (Or.inl ⟨by rfl, ?_⟩) ?_ ?_
            rotate_left
            · intro w'
              go_simp
              with_reducible rfl
            rotate_left
            · simp only [Act.put, List.setIfInBounds_toArray, List.set_cons_zero, List.set_cons_succ, i64_w, i32_w]
              rfl
            refine pure_ (i := 21) (N := some 41) (v := ?_) (a' := ?_) #[true, true, true, true, true, true, true, true, true, true, true, true, true, true, true, true, true, true, true, true, true, true, false, false] rfl rfl (by kernel_rfl) (fun _ _ _ h => h) (Or.inl ⟨by rfl, ?_⟩) ?_ ?_
            rotate_left
            · intro w'
              go_simp
              with_reducible rfl
            rotate_left
            · simp only [Act.put, List.setIfInBounds_toArray, List.set_cons_zero, List.set_cons_succ, i64_w, i32_w]
              rfl
            refine pure_ (i := 22) (N := some 42) (v := ?_) (a' := ?_) #[true, true, true, true, true, true, true, true, true, true, true, true, true, true, true, true, true, true, true, true, true, true, true, false] rfl rfl (by kernel_rfl) (fun _ _ _ h => h) (Or.inl ⟨by rfl, ?_⟩) ?_ ?_
            rotate_left
            · intro w'
              go_simp
              with_reducible rfl
            rotate_left
            · simp only [Act.put, List.setIfInBounds_toArray, List.set_cons_zero, List.set_cons_succ, i64_w, i32_w]
              rfl
            refine fin_ (i := 23) (N := none) #[true, true, true, true, true, true, true, true, true, true, true, true, true, true, true, true, true, true, true, true, true, true, true, true] rfl rfl (by kernel_rfl) (by decide) (fun K hK => ?_)
            generalize w4.drew = w5 at HKd HRd BKd HBd ⊢
            have hs5 : w5.cell? ⟨g, 0, none⟩ = some (.slice A4 l0_0.length c4) := (blk_cell HKd.out 0).trans rfl
            have hfs5 := blk_frozen HKd.out 0
            refine skip_ (w1 := ?_) (by rfl) rfl ?_ ?_
            rotate_left
            · go_simp
              rfl
            refine hK _ _ ?_
            clear hK K
            refine done_ (by kernel_rfl) ?_
            have HKe := Aside0.mk ((blk_set HKd.out 0 (.slice A4 m.toNat c4)).trans rfl)
            have HRe := Aside0.mk (Kd.R_far HRd.out (p := ⟨g, 0, none⟩) (fun _ hk => hk) (.slice A4 m.toNat c4))
            have BKe := Aside0.mk (blk_far BKd.out (p := ⟨g, 0, none⟩) NE4.out (.slice A4 m.toNat c4))
            have HBe := Aside0.mk (below_set (j := 0) (v := .slice A4 m.toNat c4) HBd.out GE4.out)
            generalize w5.setCell ⟨g, 0, none⟩ (.slice A4 m.toNat c4) = W5 at HKe HRe BKe HBe ⊢
            obtain ⟨_, hc4, hrd⟩ := Kd.R_reads' HRe.out
            have hlen : (l0_0.take m.toNat).length = m.toNat := by rw [List.length_take]; have := HLE.out; omega
            have hct := Kd.C_take hrd HLE.out
            have HCT := Aside0.mk hct
            have hbk := HKe.out
            rw [← hlen] at hbk
            have HBK := Aside0.mk (hbk.trans rfl : W5.heap[g]? = some (.cells #[.slice A4 (l0_0.take m.toNat).length c4, .slice none 0 0, .int .i64 a0_1, .bool a0_2] 83 (0, 0)))
            have HC4 := Aside0.mk (show (l0_0.take m.toNat).length ≤ c4 by rw [hlen]; have := HLE.out; omega)
            have HLT := Aside0.mk (show (l0_0.take m.toNat).length < 2199023255552 by rw [hlen]; have := HLE.out; have := LM.out; omega)
            clear hct hrd hc4 hbk hlen hmin hm0 hm1
            go_wp2_with (go_at_call 62; refine (impl_mserver.callsC g A4 c4 (l0_0.take m.toNat) _ a0_1 a0_2 _ HBK.out HCT.out HC4.out HLT.out).mono ?_; rintro e w6 ⟨v6, rfl, ho6, hb6⟩; obtain ⟨A6, c6, rfl⟩ := Kd.R_slice ho6; have HO6 := Aside0.mk (Kd.R_newB ho6 BKe.out); have HB6 := Aside0.mk (below_step HBe.out hb6); have BK6 := Aside0.mk (blk_below BKe.out hb6); clear ho6 hb6; have hz0 : w6.cell? ⟨g2, 0, none⟩ = some (.slice none 0 0) := (blk_cell BK6.out 0).trans rfl; have hz1 : w6.cell? ⟨g2, 1, none⟩ = some (.int .i64 0) := (blk_cell BK6.out 1).trans rfl; have hz2 : w6.cell? ⟨g2, 2, none⟩ = some (.bool false) := (blk_cell BK6.out 2).trans rfl; have hzf0 := blk_frozen BK6.out 0; have hzf1 := blk_frozen BK6.out 1; have hzf2 := blk_frozen BK6.out 2)
            (try simp only [Exit.inBlock, Exit.then])
            refine bodyPost_ret (results_cell_row rfl _ _ g2 29 #[.slice A6 (min m.toNat l0_0.length) c6, .int .i64 a0_1, .bool a0_2] (0, 0) _ rfl ((blk_set (blk_set (blk_set BK6.out 0 _) 1 _) 2 _).trans rfl) Tryd.underlying29 rfl (by kernel_rfl)) rfl ?_
            refine ⟨_, rfl, ?_, below_set (below_set (below_set HB6.out GE2.out) GE2.out) GE2.out⟩
            have ho := HO6.out
            rw [List.length_take] at ho
            rw [HME.out]
            exact Kd.R_mono (Kd.R_far (Kd.R_far (Kd.R_far (Kd.R_lower ho HBe.out.size) (p := ⟨g2, 0, none⟩) (fun _ hk => hk.2) _) (p := ⟨g2, 1, none⟩) (fun _ hk => hk.2) _) (p := ⟨g2, 2, none⟩) (fun _ hk => hk.2) _) (fun _ _ => trivial)
          · rw [if_neg hm] at h
            cases h
        · rw [if_neg hl] at h
          cases h
end Go.Proofs.YtnclcbjagleoeaaDoor.P
namespace Go.Proofs.YtnclcbjagleoeaaDoor.P
open Go.RowKit Go.Proofs.YtnclcbjagleoeaaDoorW.PrintWords Go.Proofs.YtnclcbjagleoeaaDoorW.PrintLast
set_option linter.unusedVariables false
set_option linter.unusedSimpArgs false
def laws_heldServer.f (k : Nat) (l0_0 : List (S56)) (a0_1 : Int) (a0_2 : Bool) (a1 : Int) : Option (Int) := (laws_heldEntryS.f k l0_0 a1).bind fun t648 => (if t648 < 0 then (some (-1)) else (some t648))
theorem laws_heldServer.mono : ∀ a0 a1 a2 a3 k, LeO (laws_heldServer.f k a0 a1 a2 a3) (laws_heldServer.f (k + 1) a0 a1 a2 a3) := by
  intro a0 a1 a2 a3 k
  unfold laws_heldServer.f
  repeat' first
      | (with_reducible exact laws_heldEntryS.mono _ _ _)
      | (with_reducible exact LeO.refl _)
      | (with_reducible exact LeO.none _)
      | (with_reducible refine LeO.ite ?_ ?_)
      | (with_reducible refine LeO.bind ?_ (fun _ => ?_))
      | exact laws_heldEntryS.mono _ _ _
      | exact LeO.none _
      | refine LeO.ite ?_ ?_
      | refine LeO.bind ?_ (fun _ => ?_)
set_option maxHeartbeats 8000000 in
set_option maxRecDepth 100000 in
theorem laws_heldServer.calls (k : Nat) (A0_0 : Option Addr) (c0_0 : Nat) (l0_0 : List (S56)) (a0_1 : Int) (a0_2 : Bool) (a1 : Int) (r : Int) (w : World) (hr0_0 : Kd.C k56 w A0_0 l0_0.length l0_0) (hc0_0 : l0_0.length ≤ c0_0) (h : laws_heldServer.f k l0_0 a0_1 a0_2 a1 = some r) :
    Calls Tryd.prog 31 #[.agg #[.slice A0_0 l0_0.length c0_0, .int .i64 a0_1, .bool a0_2], .int .i64 a1] w fun e w' => e = .returned (.int .i64 r) ∧ Below w.heap.size w w' := by
  have hu29 := Tryd.underlying29
  have HR0_0 := Aside0.mk hr0_0
  have HC0_0 := Aside0.mk hc0_0
  clear hr0_0 hc0_0
  have HB := Aside0.mk (Below.refl w.heap.size w)
  have H : ((laws_heldEntryS.f k l0_0 a1).bind fun t648 => (if t648 < 0 then (some (-1)) else (some t648))) = some r := h
  clear h
  replace H := Option.bind_eq_some_iff.mp H
  obtain ⟨t648, A30, H⟩ := H
  replace H : (if t648 < 0 then (some (-1)) else (some t648)) = some r := H
  have A3 := Aside0.mk A30
  clear A30
  by_cases c4 : t648 < 0
  · rw [if_pos c4] at H
    have c4b0 : decide (t648 < 0) = true := decide_eq_true c4
    clear c4
    obtain rfl := Option.some.inj H
    go_enter Tryd.func31, Tryd.ntmps31
    go_wp2_with (first | ((with_reducible refine gate_dst (N := 2) rfl ?_); refine box_event ?hg (N := 2) ?hd (cs := #[.slice A0_0 l0_0.length c0_0, .int .i64 a0_1, .bool a0_2]) (t := 29) ?hr ?_; (case hd => rfl); (case hg => rfl); (case hr => first | (go_simp; done) | (go_simp; rfl)); intro gb647 hg w5 hbox hb; have n0_ := Aside0.mk (below_step (by repeat (first | (with_reducible first | exact HB.out | apply below_alloc | apply pw_below_drewN | apply below_drew1) | exact HB.out)) hb); have n1_ := Aside0.mk (hbox); have n2_ := Aside0.mk ((by rw [hg]; exact (below_size (by repeat (first | (with_reducible first | exact HB.out | apply below_alloc | apply pw_below_drewN | apply below_drew1) | exact HB.out))) : w.heap.size ≤ gb647)); have n3_ := Aside0.mk ((by rw [hg]; exact (below_size (by repeat (first | (with_reducible first | exact HB.out | apply below_alloc | apply pw_below_drewN | apply below_drew1) | exact HB.out))) : w.heap.size ≤ gb647)); clear HB; have HB := n0_; have BK647 := n1_; have GW647 := n2_; have GE647 := n3_; clear n0_ n1_ n2_ n3_; clear hb hbox hg; have hcz6_0 : w5.cell? ⟨gb647, 0, none⟩ = some (.slice A0_0 l0_0.length c0_0) := (blk_cell BK647.out 0).trans rfl; have hcz6_1 : w5.cell? ⟨gb647, 1, none⟩ = some (.int .i64 a0_1) := (blk_cell BK647.out 1).trans rfl; have hcz6_2 : w5.cell? ⟨gb647, 2, none⟩ = some (.bool a0_2) := (blk_cell BK647.out 2).trans rfl; have hfz6_0 := blk_frozen BK647.out 0; have hfz6_1 := blk_frozen BK647.out 1; have hfz6_2 := blk_frozen BK647.out 2) | ((with_reducible refine gate_callee (f := 24) rfl ?_); refine goesL_ (some 8) rfl rfl Tryd.func24 (by kernel_rfl) rfl #[.slice A0_0 l0_0.length c0_0, .int .i64 a1] rfl (by (try simp only [List.map_toArray, List.map_cons, List.map_nil]); first | done | rfl | (simp only [List.length_drop, List.length_take]; rfl)) ?_; (with_reducible refine (laws_heldEntryS.calls k _ _ l0_0 a1 t648 _ ?side1 ?side2 A3.out).mono ?_); (case side1 => repeat (first | exact (Kd.C_below HR0_0.out HB.out) | (with_reducible refine Kd.C_alloc ?_ _) | (with_reducible refine Kd.C_drewN ?_ _) | (with_reducible refine Kd.C_drew ?_))); (case side2 => exact HC0_0.out); rintro e w7 ⟨rfl, hb⟩; refine ⟨_, rfl, ?_⟩; have n0_ := Aside0.mk (blk_below (g := gb647) (o := .cells #[.slice A0_0 l0_0.length c0_0, .int .i64 a0_1, .bool a0_2] 29 (0, 0)) (by (with_reducible repeat (first | refine blk_drewN ?_ _ | refine blk_drew ?_ | refine blk_alloc ?_ _)); exact BK647.out) hb); have n1_ := Aside0.mk (below_step (by repeat (first | (with_reducible first | exact HB.out | apply below_alloc | apply pw_below_drewN | apply below_drew1 | refine below_set ?_ GE647.out) | exact HB.out)) hb); clear BK647; clear HB; have BK647 := n0_; have HB := n1_; clear n0_ n1_; (try clear hb); (try clear hb2); (try clear hk); (try clear hi)))
    go_ret
    exact ⟨by first | rfl | (simp [errW_none, errW_some] <;> rfl) | (simp [*, errW_none, errW_some] <;> rfl), by repeat (first | (with_reducible first | exact HB.out | apply below_alloc | apply pw_below_drewN | apply below_drew1 | refine below_set ?_ GE647.out) | exact HB.out)⟩
  · rw [if_neg c4] at H
    have c4b0 : decide (t648 < 0) = false := decide_eq_false c4
    clear c4
    obtain rfl := Option.some.inj H
    go_enter Tryd.func31, Tryd.ntmps31
    go_wp2_with (first | ((with_reducible refine gate_dst (N := 2) rfl ?_); refine box_event ?hg (N := 2) ?hd (cs := #[.slice A0_0 l0_0.length c0_0, .int .i64 a0_1, .bool a0_2]) (t := 29) ?hr ?_; (case hd => rfl); (case hg => rfl); (case hr => first | (go_simp; done) | (go_simp; rfl)); intro gb647 hg w8 hbox hb; have n0_ := Aside0.mk (below_step (by repeat (first | (with_reducible first | exact HB.out | apply below_alloc | apply pw_below_drewN | apply below_drew1) | exact HB.out)) hb); have n1_ := Aside0.mk (hbox); have n2_ := Aside0.mk ((by rw [hg]; exact (below_size (by repeat (first | (with_reducible first | exact HB.out | apply below_alloc | apply pw_below_drewN | apply below_drew1) | exact HB.out))) : w.heap.size ≤ gb647)); have n3_ := Aside0.mk ((by rw [hg]; exact (below_size (by repeat (first | (with_reducible first | exact HB.out | apply below_alloc | apply pw_below_drewN | apply below_drew1) | exact HB.out))) : w.heap.size ≤ gb647)); clear HB; have HB := n0_; have BK647 := n1_; have GW647 := n2_; have GE647 := n3_; clear n0_ n1_ n2_ n3_; clear hb hbox hg; have hcz9_0 : w8.cell? ⟨gb647, 0, none⟩ = some (.slice A0_0 l0_0.length c0_0) := (blk_cell BK647.out 0).trans rfl; have hcz9_1 : w8.cell? ⟨gb647, 1, none⟩ = some (.int .i64 a0_1) := (blk_cell BK647.out 1).trans rfl; have hcz9_2 : w8.cell? ⟨gb647, 2, none⟩ = some (.bool a0_2) := (blk_cell BK647.out 2).trans rfl; have hfz9_0 := blk_frozen BK647.out 0; have hfz9_1 := blk_frozen BK647.out 1; have hfz9_2 := blk_frozen BK647.out 2) | ((with_reducible refine gate_callee (f := 24) rfl ?_); refine goesL_ (some 8) rfl rfl Tryd.func24 (by kernel_rfl) rfl #[.slice A0_0 l0_0.length c0_0, .int .i64 a1] rfl (by (try simp only [List.map_toArray, List.map_cons, List.map_nil]); first | done | rfl | (simp only [List.length_drop, List.length_take]; rfl)) ?_; (with_reducible refine (laws_heldEntryS.calls k _ _ l0_0 a1 t648 _ ?side1 ?side2 A3.out).mono ?_); (case side1 => repeat (first | exact (Kd.C_below HR0_0.out HB.out) | (with_reducible refine Kd.C_alloc ?_ _) | (with_reducible refine Kd.C_drewN ?_ _) | (with_reducible refine Kd.C_drew ?_))); (case side2 => exact HC0_0.out); rintro e w10 ⟨rfl, hb⟩; refine ⟨_, rfl, ?_⟩; have n0_ := Aside0.mk (blk_below (g := gb647) (o := .cells #[.slice A0_0 l0_0.length c0_0, .int .i64 a0_1, .bool a0_2] 29 (0, 0)) (by (with_reducible repeat (first | refine blk_drewN ?_ _ | refine blk_drew ?_ | refine blk_alloc ?_ _)); exact BK647.out) hb); have n1_ := Aside0.mk (below_step (by repeat (first | (with_reducible first | exact HB.out | apply below_alloc | apply pw_below_drewN | apply below_drew1 | refine below_set ?_ GE647.out) | exact HB.out)) hb); clear BK647; clear HB; have BK647 := n0_; have HB := n1_; clear n0_ n1_; (try clear hb); (try clear hb2); (try clear hk); (try clear hi)))
    go_ret
    exact ⟨by first | rfl | (simp [errW_none, errW_some] <;> rfl) | (simp [*, errW_none, errW_some] <;> rfl), by repeat (first | (with_reducible first | exact HB.out | apply below_alloc | apply pw_below_drewN | apply below_drew1 | refine below_set ?_ GE647.out) | exact HB.out)⟩

def laws_FnExactServerFall.f (k : Nat) (l0_0 : List (S51)) (a0_1 : Int) (a0_2 : Bool) (a1 : Int) : Option (Bool) := (laws_szServer.f k l0_0 a0_1 a0_2 1048576).bind fun t650 => (if t650 < 0 then (some true) else ((laws_toServer.f k l0_0 a0_1 a0_2).bind fun bt651 => ((spec_ServerFall.f k bt651.1 bt651.2.1 bt651.2.2 a1).bind fun bt656 => ((laws_toServer.f k l0_0 a0_1 a0_2).bind fun bt662 => ((impl_ServerFall.f k bt662.1 bt662.2.1 bt662.2.2 a1).bind fun bt668 => ((laws_eqServer.f k bt668.1 bt668.2.1 bt668.2.2 bt656.1 bt656.2.1 bt656.2.2).bind fun t674 => (if t674 = true then ((laws_toServer.f k l0_0 a0_1 a0_2).bind fun bt675 => ((laws_eqServer.f k bt662.1 bt662.2.1 bt662.2.2 bt675.1 bt675.2.1 bt675.2.2).bind fun t680 => (if t680 = true then ((laws_markServer.f k bt662.1 bt662.2.1 bt662.2.2 1).bind fun bt681 => (if bt681.1 < 0 then (none) else ((laws_eqServer.f k bt668.1 bt668.2.1 bt668.2.2 bt656.1 bt656.2.1 bt656.2.2).bind fun t683 => (if t683 = true then ((laws_markServer.f k bt668.1 bt668.2.1 bt668.2.2 1).bind fun bt684 => ((laws_heldServer.f k bt684.2 bt668.2.1 bt668.2.2 1).bind fun t686 => (if t686 < 0 then (none) else (if t686 = bt684.1 then ((laws_toServer.f k l0_0 a0_1 a0_2).bind fun bt687 => ((impl_ServerFall.f k bt687.1 bt687.2.1 bt687.2.2 a1).bind fun bt692 => ((laws_eqServer.f k bt692.1 bt692.2.1 bt692.2.2 bt656.1 bt656.2.1 bt656.2.2).bind fun t698 => (if t698 = true then ((laws_heldServer.f k bt684.2 bt668.2.1 bt668.2.2 1).bind fun t699 => (if t699 < 0 then (none) else (if t699 = bt684.1 then (some true) else (none)))) else (none))))) else (none))))) else (none))))) else (none)))) else (none))))))))
theorem laws_FnExactServerFall.mono : ∀ a0 a1 a2 a3 k, LeO (laws_FnExactServerFall.f k a0 a1 a2 a3) (laws_FnExactServerFall.f (k + 1) a0 a1 a2 a3) := by
  intro a0 a1 a2 a3 k
  unfold laws_FnExactServerFall.f
  repeat' first
      | (with_reducible exact impl_ServerFall.mono _ _ _ _ _)
      | (with_reducible exact laws_eqServer.mono _ _ _ _ _ _ _)
      | (with_reducible exact laws_heldServer.mono _ _ _ _ _)
      | (with_reducible exact laws_markServer.mono _ _ _ _ _)
      | (with_reducible exact laws_szServer.mono _ _ _ _ _)
      | (with_reducible exact laws_toServer.mono _ _ _ _)
      | (with_reducible exact spec_ServerFall.mono _ _ _ _ _)
      | (with_reducible exact LeO.refl _)
      | (with_reducible exact LeO.none _)
      | (with_reducible refine LeO.ite ?_ ?_)
      | (with_reducible refine LeO.bind ?_ (fun _ => ?_))
      | exact impl_ServerFall.mono _ _ _ _ _
      | exact laws_eqServer.mono _ _ _ _ _ _ _
      | exact laws_heldServer.mono _ _ _ _ _
      | exact laws_markServer.mono _ _ _ _ _
      | exact laws_szServer.mono _ _ _ _ _
      | exact laws_toServer.mono _ _ _ _
      | exact spec_ServerFall.mono _ _ _ _ _
      | exact LeO.none _
      | refine LeO.ite ?_ ?_
      | refine LeO.bind ?_ (fun _ => ?_)
set_option maxHeartbeats 8000000 in
set_option maxRecDepth 100000 in
theorem laws_FnExactServerFall.calls (k : Nat) (A0_0 : Option Addr) (c0_0 : Nat) (l0_0 : List (S51)) (a0_1 : Int) (a0_2 : Bool) (a1 : Int) (r : Bool) (w : World) (hr0_0 : Kd.C k51 w A0_0 l0_0.length l0_0) (hc0_0 : l0_0.length ≤ c0_0) (h : laws_FnExactServerFall.f k l0_0 a0_1 a0_2 a1 = some r) (hG : Glob w) :
    Calls Tryd.prog 5 #[.agg #[.slice A0_0 l0_0.length c0_0, .int .i64 a0_1, .bool a0_2], .int .i64 a1] w fun e w' => e = .returned (.bool r) ∧ Below w.heap.size w w' := by
  have hu24 := Tryd.underlying24
  have hu29 := Tryd.underlying29
  have HR0_0 := Aside0.mk hr0_0
  have HC0_0 := Aside0.mk hc0_0
  clear hr0_0 hc0_0
  have HB := Aside0.mk (Below.refl w.heap.size w)
  have HG := Aside0.mk hG
  clear hG
  have H : ((laws_szServer.f k l0_0 a0_1 a0_2 1048576).bind fun t650 => (if t650 < 0 then (some true) else ((laws_toServer.f k l0_0 a0_1 a0_2).bind fun bt651 => ((spec_ServerFall.f k bt651.1 bt651.2.1 bt651.2.2 a1).bind fun bt656 => ((laws_toServer.f k l0_0 a0_1 a0_2).bind fun bt662 => ((impl_ServerFall.f k bt662.1 bt662.2.1 bt662.2.2 a1).bind fun bt668 => ((laws_eqServer.f k bt668.1 bt668.2.1 bt668.2.2 bt656.1 bt656.2.1 bt656.2.2).bind fun t674 => (if t674 = true then ((laws_toServer.f k l0_0 a0_1 a0_2).bind fun bt675 => ((laws_eqServer.f k bt662.1 bt662.2.1 bt662.2.2 bt675.1 bt675.2.1 bt675.2.2).bind fun t680 => (if t680 = true then ((laws_markServer.f k bt662.1 bt662.2.1 bt662.2.2 1).bind fun bt681 => (if bt681.1 < 0 then (none) else ((laws_eqServer.f k bt668.1 bt668.2.1 bt668.2.2 bt656.1 bt656.2.1 bt656.2.2).bind fun t683 => (if t683 = true then ((laws_markServer.f k bt668.1 bt668.2.1 bt668.2.2 1).bind fun bt684 => ((laws_heldServer.f k bt684.2 bt668.2.1 bt668.2.2 1).bind fun t686 => (if t686 < 0 then (none) else (if t686 = bt684.1 then ((laws_toServer.f k l0_0 a0_1 a0_2).bind fun bt687 => ((impl_ServerFall.f k bt687.1 bt687.2.1 bt687.2.2 a1).bind fun bt692 => ((laws_eqServer.f k bt692.1 bt692.2.1 bt692.2.2 bt656.1 bt656.2.1 bt656.2.2).bind fun t698 => (if t698 = true then ((laws_heldServer.f k bt684.2 bt668.2.1 bt668.2.2 1).bind fun t699 => (if t699 < 0 then (none) else (if t699 = bt684.1 then (some true) else (none)))) else (none))))) else (none))))) else (none))))) else (none)))) else (none))))))))) = some r := h
  clear h
  replace H := Option.bind_eq_some_iff.mp H
  obtain ⟨t650, A30, H⟩ := H
  replace H : (if t650 < 0 then (some true) else ((laws_toServer.f k l0_0 a0_1 a0_2).bind fun bt651 => ((spec_ServerFall.f k bt651.1 bt651.2.1 bt651.2.2 a1).bind fun bt656 => ((laws_toServer.f k l0_0 a0_1 a0_2).bind fun bt662 => ((impl_ServerFall.f k bt662.1 bt662.2.1 bt662.2.2 a1).bind fun bt668 => ((laws_eqServer.f k bt668.1 bt668.2.1 bt668.2.2 bt656.1 bt656.2.1 bt656.2.2).bind fun t674 => (if t674 = true then ((laws_toServer.f k l0_0 a0_1 a0_2).bind fun bt675 => ((laws_eqServer.f k bt662.1 bt662.2.1 bt662.2.2 bt675.1 bt675.2.1 bt675.2.2).bind fun t680 => (if t680 = true then ((laws_markServer.f k bt662.1 bt662.2.1 bt662.2.2 1).bind fun bt681 => (if bt681.1 < 0 then (none) else ((laws_eqServer.f k bt668.1 bt668.2.1 bt668.2.2 bt656.1 bt656.2.1 bt656.2.2).bind fun t683 => (if t683 = true then ((laws_markServer.f k bt668.1 bt668.2.1 bt668.2.2 1).bind fun bt684 => ((laws_heldServer.f k bt684.2 bt668.2.1 bt668.2.2 1).bind fun t686 => (if t686 < 0 then (none) else (if t686 = bt684.1 then ((laws_toServer.f k l0_0 a0_1 a0_2).bind fun bt687 => ((impl_ServerFall.f k bt687.1 bt687.2.1 bt687.2.2 a1).bind fun bt692 => ((laws_eqServer.f k bt692.1 bt692.2.1 bt692.2.2 bt656.1 bt656.2.1 bt656.2.2).bind fun t698 => (if t698 = true then ((laws_heldServer.f k bt684.2 bt668.2.1 bt668.2.2 1).bind fun t699 => (if t699 < 0 then (none) else (if t699 = bt684.1 then (some true) else (none)))) else (none))))) else (none))))) else (none))))) else (none)))) else (none)))))))) = some r := H
  have A3 := Aside0.mk A30
  clear A30
  by_cases c4 : t650 < 0
  · rw [if_pos c4] at H
    have c4b0 : decide (t650 < 0) = true := decide_eq_true c4
    clear c4
    obtain rfl := Option.some.inj H
    go_enter Tryd.func5, Tryd.ntmps5
    go_wp2_with (first | ((with_reducible refine gate_dst (N := 2) rfl ?_); refine box_event ?hg (N := 2) ?hd (cs := #[.slice A0_0 l0_0.length c0_0, .int .i64 a0_1, .bool a0_2]) (t := 24) ?hr ?_; (case hd => rfl); (case hg => rfl); (case hr => first | (go_simp; done) | (go_simp; rfl)); intro gb649 hg w5 hbox hb; have n0_ := Aside0.mk (below_step (by repeat (first | (with_reducible first | exact HB.out | apply below_alloc | apply pw_below_drewN | apply below_drew1) | exact HB.out)) hb); have n1_ := Aside0.mk (hbox); have n2_ := Aside0.mk ((by rw [hg]; exact (below_size (by repeat (first | (with_reducible first | exact HB.out | apply below_alloc | apply pw_below_drewN | apply below_drew1) | exact HB.out))) : w.heap.size ≤ gb649)); have n3_ := Aside0.mk ((by rw [hg]; exact (below_size (by repeat (first | (with_reducible first | exact HB.out | apply below_alloc | apply pw_below_drewN | apply below_drew1) | exact HB.out))) : w.heap.size ≤ gb649)); clear HB; have HB := n0_; have BK649 := n1_; have GW649 := n2_; have GE649 := n3_; clear n0_ n1_ n2_ n3_; clear hb hbox hg; have hcz6_0 : w5.cell? ⟨gb649, 0, none⟩ = some (.slice A0_0 l0_0.length c0_0) := (blk_cell BK649.out 0).trans rfl; have hcz6_1 : w5.cell? ⟨gb649, 1, none⟩ = some (.int .i64 a0_1) := (blk_cell BK649.out 1).trans rfl; have hcz6_2 : w5.cell? ⟨gb649, 2, none⟩ = some (.bool a0_2) := (blk_cell BK649.out 2).trans rfl; have hfz6_0 := blk_frozen BK649.out 0; have hfz6_1 := blk_frozen BK649.out 1; have hfz6_2 := blk_frozen BK649.out 2) | ((with_reducible refine gate_callee (f := 16) rfl ?_); refine goesL_ (some 15) rfl rfl Tryd.func16 (by kernel_rfl) rfl #[.agg #[.slice A0_0 l0_0.length c0_0, .int .i64 a0_1, .bool a0_2], .int .i64 1048576] rfl (by (try simp only [List.map_toArray, List.map_cons, List.map_nil]); first | done | rfl | (simp only [List.length_drop, List.length_take]; rfl)) ?_; (with_reducible refine (laws_szServer.calls k _ _ l0_0 a0_1 a0_2 1048576 t650 _ ?side1 ?side2 A3.out).mono ?_); (case side1 => repeat (first | exact (Kd.C_below HR0_0.out HB.out) | (with_reducible refine Kd.C_alloc ?_ _) | (with_reducible refine Kd.C_drewN ?_ _) | (with_reducible refine Kd.C_drew ?_))); (case side2 => exact HC0_0.out); rintro e w7 ⟨rfl, hb⟩; refine ⟨_, rfl, ?_⟩; have n0_ := Aside0.mk (blk_below (g := gb649) (o := .cells #[.slice A0_0 l0_0.length c0_0, .int .i64 a0_1, .bool a0_2] 24 (0, 0)) (by (with_reducible repeat (first | refine blk_drewN ?_ _ | refine blk_drew ?_ | refine blk_alloc ?_ _)); exact BK649.out) hb); have n1_ := Aside0.mk (below_step (by repeat (first | (with_reducible first | exact HB.out | apply below_alloc | apply pw_below_drewN | apply below_drew1 | refine below_set ?_ GE649.out) | exact HB.out)) hb); clear BK649; clear HB; have BK649 := n0_; have HB := n1_; clear n0_ n1_; (try clear hb); (try clear hb2); (try clear hk); (try clear hi)))
    go_ret
    exact ⟨by first | rfl | (simp [errW_none, errW_some] <;> rfl) | (simp [*, errW_none, errW_some] <;> rfl), by repeat (first | (with_reducible first | exact HB.out | apply below_alloc | apply pw_below_drewN | apply below_drew1 | refine below_set ?_ GE649.out) | exact HB.out)⟩
  · rw [if_neg c4] at H
    have c4b0 : decide (t650 < 0) = false := decide_eq_false c4
    clear c4
    replace H := Option.bind_eq_some_iff.mp H
    obtain ⟨⟨t651, t654, t655⟩, A80, H⟩ := H
    replace H : ((spec_ServerFall.f k t651 t654 t655 a1).bind fun bt656 => ((laws_toServer.f k l0_0 a0_1 a0_2).bind fun bt662 => ((impl_ServerFall.f k bt662.1 bt662.2.1 bt662.2.2 a1).bind fun bt668 => ((laws_eqServer.f k bt668.1 bt668.2.1 bt668.2.2 bt656.1 bt656.2.1 bt656.2.2).bind fun t674 => (if t674 = true then ((laws_toServer.f k l0_0 a0_1 a0_2).bind fun bt675 => ((laws_eqServer.f k bt662.1 bt662.2.1 bt662.2.2 bt675.1 bt675.2.1 bt675.2.2).bind fun t680 => (if t680 = true then ((laws_markServer.f k bt662.1 bt662.2.1 bt662.2.2 1).bind fun bt681 => (if bt681.1 < 0 then (none) else ((laws_eqServer.f k bt668.1 bt668.2.1 bt668.2.2 bt656.1 bt656.2.1 bt656.2.2).bind fun t683 => (if t683 = true then ((laws_markServer.f k bt668.1 bt668.2.1 bt668.2.2 1).bind fun bt684 => ((laws_heldServer.f k bt684.2 bt668.2.1 bt668.2.2 1).bind fun t686 => (if t686 < 0 then (none) else (if t686 = bt684.1 then ((laws_toServer.f k l0_0 a0_1 a0_2).bind fun bt687 => ((impl_ServerFall.f k bt687.1 bt687.2.1 bt687.2.2 a1).bind fun bt692 => ((laws_eqServer.f k bt692.1 bt692.2.1 bt692.2.2 bt656.1 bt656.2.1 bt656.2.2).bind fun t698 => (if t698 = true then ((laws_heldServer.f k bt684.2 bt668.2.1 bt668.2.2 1).bind fun t699 => (if t699 < 0 then (none) else (if t699 = bt684.1 then (some true) else (none)))) else (none))))) else (none))))) else (none))))) else (none)))) else (none)))))) = some r := H
    have A8 := Aside0.mk A80
    clear A80
    replace H := Option.bind_eq_some_iff.mp H
    obtain ⟨⟨t656, t659, t660⟩, A90, H⟩ := H
    replace H : ((laws_toServer.f k l0_0 a0_1 a0_2).bind fun bt662 => ((impl_ServerFall.f k bt662.1 bt662.2.1 bt662.2.2 a1).bind fun bt668 => ((laws_eqServer.f k bt668.1 bt668.2.1 bt668.2.2 t656 t659 t660).bind fun t674 => (if t674 = true then ((laws_toServer.f k l0_0 a0_1 a0_2).bind fun bt675 => ((laws_eqServer.f k bt662.1 bt662.2.1 bt662.2.2 bt675.1 bt675.2.1 bt675.2.2).bind fun t680 => (if t680 = true then ((laws_markServer.f k bt662.1 bt662.2.1 bt662.2.2 1).bind fun bt681 => (if bt681.1 < 0 then (none) else ((laws_eqServer.f k bt668.1 bt668.2.1 bt668.2.2 t656 t659 t660).bind fun t683 => (if t683 = true then ((laws_markServer.f k bt668.1 bt668.2.1 bt668.2.2 1).bind fun bt684 => ((laws_heldServer.f k bt684.2 bt668.2.1 bt668.2.2 1).bind fun t686 => (if t686 < 0 then (none) else (if t686 = bt684.1 then ((laws_toServer.f k l0_0 a0_1 a0_2).bind fun bt687 => ((impl_ServerFall.f k bt687.1 bt687.2.1 bt687.2.2 a1).bind fun bt692 => ((laws_eqServer.f k bt692.1 bt692.2.1 bt692.2.2 t656 t659 t660).bind fun t698 => (if t698 = true then ((laws_heldServer.f k bt684.2 bt668.2.1 bt668.2.2 1).bind fun t699 => (if t699 < 0 then (none) else (if t699 = bt684.1 then (some true) else (none)))) else (none))))) else (none))))) else (none))))) else (none)))) else (none))))) = some r := H
    have A9 := Aside0.mk A90
    clear A90
    replace H := Option.bind_eq_some_iff.mp H
    obtain ⟨⟨t662, t665, t666⟩, A100, H⟩ := H
    replace H : ((impl_ServerFall.f k t662 t665 t666 a1).bind fun bt668 => ((laws_eqServer.f k bt668.1 bt668.2.1 bt668.2.2 t656 t659 t660).bind fun t674 => (if t674 = true then ((laws_toServer.f k l0_0 a0_1 a0_2).bind fun bt675 => ((laws_eqServer.f k t662 t665 t666 bt675.1 bt675.2.1 bt675.2.2).bind fun t680 => (if t680 = true then ((laws_markServer.f k t662 t665 t666 1).bind fun bt681 => (if bt681.1 < 0 then (none) else ((laws_eqServer.f k bt668.1 bt668.2.1 bt668.2.2 t656 t659 t660).bind fun t683 => (if t683 = true then ((laws_markServer.f k bt668.1 bt668.2.1 bt668.2.2 1).bind fun bt684 => ((laws_heldServer.f k bt684.2 bt668.2.1 bt668.2.2 1).bind fun t686 => (if t686 < 0 then (none) else (if t686 = bt684.1 then ((laws_toServer.f k l0_0 a0_1 a0_2).bind fun bt687 => ((impl_ServerFall.f k bt687.1 bt687.2.1 bt687.2.2 a1).bind fun bt692 => ((laws_eqServer.f k bt692.1 bt692.2.1 bt692.2.2 t656 t659 t660).bind fun t698 => (if t698 = true then ((laws_heldServer.f k bt684.2 bt668.2.1 bt668.2.2 1).bind fun t699 => (if t699 < 0 then (none) else (if t699 = bt684.1 then (some true) else (none)))) else (none))))) else (none))))) else (none))))) else (none)))) else (none)))) = some r := H
    have A10 := Aside0.mk A100
    clear A100
    replace H := Option.bind_eq_some_iff.mp H
    obtain ⟨⟨t668, t671, t672⟩, A110, H⟩ := H
    replace H : ((laws_eqServer.f k t668 t671 t672 t656 t659 t660).bind fun t674 => (if t674 = true then ((laws_toServer.f k l0_0 a0_1 a0_2).bind fun bt675 => ((laws_eqServer.f k t662 t665 t666 bt675.1 bt675.2.1 bt675.2.2).bind fun t680 => (if t680 = true then ((laws_markServer.f k t662 t665 t666 1).bind fun bt681 => (if bt681.1 < 0 then (none) else ((laws_eqServer.f k t668 t671 t672 t656 t659 t660).bind fun t683 => (if t683 = true then ((laws_markServer.f k t668 t671 t672 1).bind fun bt684 => ((laws_heldServer.f k bt684.2 t671 t672 1).bind fun t686 => (if t686 < 0 then (none) else (if t686 = bt684.1 then ((laws_toServer.f k l0_0 a0_1 a0_2).bind fun bt687 => ((impl_ServerFall.f k bt687.1 bt687.2.1 bt687.2.2 a1).bind fun bt692 => ((laws_eqServer.f k bt692.1 bt692.2.1 bt692.2.2 t656 t659 t660).bind fun t698 => (if t698 = true then ((laws_heldServer.f k bt684.2 t671 t672 1).bind fun t699 => (if t699 < 0 then (none) else (if t699 = bt684.1 then (some true) else (none)))) else (none))))) else (none))))) else (none))))) else (none)))) else (none))) = some r := H
    have A11 := Aside0.mk A110
    clear A110
    replace H := Option.bind_eq_some_iff.mp H
    obtain ⟨t674, A120, H⟩ := H
    replace H : (if t674 = true then ((laws_toServer.f k l0_0 a0_1 a0_2).bind fun bt675 => ((laws_eqServer.f k t662 t665 t666 bt675.1 bt675.2.1 bt675.2.2).bind fun t680 => (if t680 = true then ((laws_markServer.f k t662 t665 t666 1).bind fun bt681 => (if bt681.1 < 0 then (none) else ((laws_eqServer.f k t668 t671 t672 t656 t659 t660).bind fun t683 => (if t683 = true then ((laws_markServer.f k t668 t671 t672 1).bind fun bt684 => ((laws_heldServer.f k bt684.2 t671 t672 1).bind fun t686 => (if t686 < 0 then (none) else (if t686 = bt684.1 then ((laws_toServer.f k l0_0 a0_1 a0_2).bind fun bt687 => ((impl_ServerFall.f k bt687.1 bt687.2.1 bt687.2.2 a1).bind fun bt692 => ((laws_eqServer.f k bt692.1 bt692.2.1 bt692.2.2 t656 t659 t660).bind fun t698 => (if t698 = true then ((laws_heldServer.f k bt684.2 t671 t672 1).bind fun t699 => (if t699 < 0 then (none) else (if t699 = bt684.1 then (some true) else (none)))) else (none))))) else (none))))) else (none))))) else (none)))) else (none)) = some r := H
    have A12 := Aside0.mk A120
    clear A120
    by_cases c13 : t674 = true
    · subst c13
      have H1 : ((laws_toServer.f k l0_0 a0_1 a0_2).bind fun bt675 => ((laws_eqServer.f k t662 t665 t666 bt675.1 bt675.2.1 bt675.2.2).bind fun t680 => (if t680 = true then ((laws_markServer.f k t662 t665 t666 1).bind fun bt681 => (if bt681.1 < 0 then (none) else ((laws_eqServer.f k t668 t671 t672 t656 t659 t660).bind fun t683 => (if t683 = true then ((laws_markServer.f k t668 t671 t672 1).bind fun bt684 => ((laws_heldServer.f k bt684.2 t671 t672 1).bind fun t686 => (if t686 < 0 then (none) else (if t686 = bt684.1 then ((laws_toServer.f k l0_0 a0_1 a0_2).bind fun bt687 => ((impl_ServerFall.f k bt687.1 bt687.2.1 bt687.2.2 a1).bind fun bt692 => ((laws_eqServer.f k bt692.1 bt692.2.1 bt692.2.2 t656 t659 t660).bind fun t698 => (if t698 = true then ((laws_heldServer.f k bt684.2 t671 t672 1).bind fun t699 => (if t699 < 0 then (none) else (if t699 = bt684.1 then (some true) else (none)))) else (none))))) else (none))))) else (none))))) else (none)))) = some r := by rw [if_pos rfl] at H; exact H
      clear H
      have H := H1
      clear H1
      replace H := Option.bind_eq_some_iff.mp H
      obtain ⟨⟨t675, t678, t679⟩, A140, H⟩ := H
      replace H : ((laws_eqServer.f k t662 t665 t666 t675 t678 t679).bind fun t680 => (if t680 = true then ((laws_markServer.f k t662 t665 t666 1).bind fun bt681 => (if bt681.1 < 0 then (none) else ((laws_eqServer.f k t668 t671 t672 t656 t659 t660).bind fun t683 => (if t683 = true then ((laws_markServer.f k t668 t671 t672 1).bind fun bt684 => ((laws_heldServer.f k bt684.2 t671 t672 1).bind fun t686 => (if t686 < 0 then (none) else (if t686 = bt684.1 then ((laws_toServer.f k l0_0 a0_1 a0_2).bind fun bt687 => ((impl_ServerFall.f k bt687.1 bt687.2.1 bt687.2.2 a1).bind fun bt692 => ((laws_eqServer.f k bt692.1 bt692.2.1 bt692.2.2 t656 t659 t660).bind fun t698 => (if t698 = true then ((laws_heldServer.f k bt684.2 t671 t672 1).bind fun t699 => (if t699 < 0 then (none) else (if t699 = bt684.1 then (some true) else (none)))) else (none))))) else (none))))) else (none))))) else (none))) = some r := H
      have A14 := Aside0.mk A140
      clear A140
      replace H := Option.bind_eq_some_iff.mp H
      obtain ⟨t680, A150, H⟩ := H
      replace H : (if t680 = true then ((laws_markServer.f k t662 t665 t666 1).bind fun bt681 => (if bt681.1 < 0 then (none) else ((laws_eqServer.f k t668 t671 t672 t656 t659 t660).bind fun t683 => (if t683 = true then ((laws_markServer.f k t668 t671 t672 1).bind fun bt684 => ((laws_heldServer.f k bt684.2 t671 t672 1).bind fun t686 => (if t686 < 0 then (none) else (if t686 = bt684.1 then ((laws_toServer.f k l0_0 a0_1 a0_2).bind fun bt687 => ((impl_ServerFall.f k bt687.1 bt687.2.1 bt687.2.2 a1).bind fun bt692 => ((laws_eqServer.f k bt692.1 bt692.2.1 bt692.2.2 t656 t659 t660).bind fun t698 => (if t698 = true then ((laws_heldServer.f k bt684.2 t671 t672 1).bind fun t699 => (if t699 < 0 then (none) else (if t699 = bt684.1 then (some true) else (none)))) else (none))))) else (none))))) else (none))))) else (none)) = some r := H
      have A15 := Aside0.mk A150
      clear A150
      by_cases c16 : t680 = true
      · subst c16
        have H1 : ((laws_markServer.f k t662 t665 t666 1).bind fun bt681 => (if bt681.1 < 0 then (none) else ((laws_eqServer.f k t668 t671 t672 t656 t659 t660).bind fun t683 => (if t683 = true then ((laws_markServer.f k t668 t671 t672 1).bind fun bt684 => ((laws_heldServer.f k bt684.2 t671 t672 1).bind fun t686 => (if t686 < 0 then (none) else (if t686 = bt684.1 then ((laws_toServer.f k l0_0 a0_1 a0_2).bind fun bt687 => ((impl_ServerFall.f k bt687.1 bt687.2.1 bt687.2.2 a1).bind fun bt692 => ((laws_eqServer.f k bt692.1 bt692.2.1 bt692.2.2 t656 t659 t660).bind fun t698 => (if t698 = true then ((laws_heldServer.f k bt684.2 t671 t672 1).bind fun t699 => (if t699 < 0 then (none) else (if t699 = bt684.1 then (some true) else (none)))) else (none))))) else (none))))) else (none))))) = some r := by rw [if_pos rfl] at H; exact H
        clear H
        have H := H1
        clear H1
        replace H := Option.bind_eq_some_iff.mp H
        obtain ⟨⟨t681, t682⟩, A170, H⟩ := H
        replace H : (if t681 < 0 then (none) else ((laws_eqServer.f k t668 t671 t672 t656 t659 t660).bind fun t683 => (if t683 = true then ((laws_markServer.f k t668 t671 t672 1).bind fun bt684 => ((laws_heldServer.f k bt684.2 t671 t672 1).bind fun t686 => (if t686 < 0 then (none) else (if t686 = bt684.1 then ((laws_toServer.f k l0_0 a0_1 a0_2).bind fun bt687 => ((impl_ServerFall.f k bt687.1 bt687.2.1 bt687.2.2 a1).bind fun bt692 => ((laws_eqServer.f k bt692.1 bt692.2.1 bt692.2.2 t656 t659 t660).bind fun t698 => (if t698 = true then ((laws_heldServer.f k bt684.2 t671 t672 1).bind fun t699 => (if t699 < 0 then (none) else (if t699 = bt684.1 then (some true) else (none)))) else (none))))) else (none))))) else (none)))) = some r := H
        have A17 := Aside0.mk A170
        clear A170
        by_cases c18 : t681 < 0
        · rw [if_pos c18] at H
          exact absurd H (by simp)
        · rw [if_neg c18] at H
          have c18b0 : decide (t681 < 0) = false := decide_eq_false c18
          clear c18
          replace H := Option.bind_eq_some_iff.mp H
          obtain ⟨t683, A190, H⟩ := H
          replace H : (if t683 = true then ((laws_markServer.f k t668 t671 t672 1).bind fun bt684 => ((laws_heldServer.f k bt684.2 t671 t672 1).bind fun t686 => (if t686 < 0 then (none) else (if t686 = bt684.1 then ((laws_toServer.f k l0_0 a0_1 a0_2).bind fun bt687 => ((impl_ServerFall.f k bt687.1 bt687.2.1 bt687.2.2 a1).bind fun bt692 => ((laws_eqServer.f k bt692.1 bt692.2.1 bt692.2.2 t656 t659 t660).bind fun t698 => (if t698 = true then ((laws_heldServer.f k bt684.2 t671 t672 1).bind fun t699 => (if t699 < 0 then (none) else (if t699 = bt684.1 then (some true) else (none)))) else (none))))) else (none))))) else (none)) = some r := H
          have A19 := Aside0.mk A190
          clear A190
          by_cases c20 : t683 = true
          · subst c20
            have H1 : ((laws_markServer.f k t668 t671 t672 1).bind fun bt684 => ((laws_heldServer.f k bt684.2 t671 t672 1).bind fun t686 => (if t686 < 0 then (none) else (if t686 = bt684.1 then ((laws_toServer.f k l0_0 a0_1 a0_2).bind fun bt687 => ((impl_ServerFall.f k bt687.1 bt687.2.1 bt687.2.2 a1).bind fun bt692 => ((laws_eqServer.f k bt692.1 bt692.2.1 bt692.2.2 t656 t659 t660).bind fun t698 => (if t698 = true then ((laws_heldServer.f k bt684.2 t671 t672 1).bind fun t699 => (if t699 < 0 then (none) else (if t699 = bt684.1 then (some true) else (none)))) else (none))))) else (none))))) = some r := by rw [if_pos rfl] at H; exact H
            clear H
            have H := H1
            clear H1
            replace H := Option.bind_eq_some_iff.mp H
            obtain ⟨⟨t684, t685⟩, A210, H⟩ := H
            replace H : ((laws_heldServer.f k t685 t671 t672 1).bind fun t686 => (if t686 < 0 then (none) else (if t686 = t684 then ((laws_toServer.f k l0_0 a0_1 a0_2).bind fun bt687 => ((impl_ServerFall.f k bt687.1 bt687.2.1 bt687.2.2 a1).bind fun bt692 => ((laws_eqServer.f k bt692.1 bt692.2.1 bt692.2.2 t656 t659 t660).bind fun t698 => (if t698 = true then ((laws_heldServer.f k t685 t671 t672 1).bind fun t699 => (if t699 < 0 then (none) else (if t699 = t684 then (some true) else (none)))) else (none))))) else (none)))) = some r := H
            have A21 := Aside0.mk A210
            clear A210
            replace H := Option.bind_eq_some_iff.mp H
            obtain ⟨t686, A220, H⟩ := H
            replace H : (if t686 < 0 then (none) else (if t686 = t684 then ((laws_toServer.f k l0_0 a0_1 a0_2).bind fun bt687 => ((impl_ServerFall.f k bt687.1 bt687.2.1 bt687.2.2 a1).bind fun bt692 => ((laws_eqServer.f k bt692.1 bt692.2.1 bt692.2.2 t656 t659 t660).bind fun t698 => (if t698 = true then ((laws_heldServer.f k t685 t671 t672 1).bind fun t699 => (if t699 < 0 then (none) else (if t699 = t684 then (some true) else (none)))) else (none))))) else (none))) = some r := H
            have A22 := Aside0.mk A220
            clear A220
            by_cases c23 : t686 < 0
            · rw [if_pos c23] at H
              exact absurd H (by simp)
            · rw [if_neg c23] at H
              have c23b0 : decide (t686 < 0) = false := decide_eq_false c23
              clear c23
              by_cases c24 : t686 = t684
              · rw [if_pos c24] at H
                have c24b0 : (t686 == t684) = true := beq_iff_eq.mpr c24
                have c24b1 : (t686 != t684) = false := bne_eq_false_iff_eq.mpr c24
                clear c24
                replace H := Option.bind_eq_some_iff.mp H
                obtain ⟨⟨t687, t690, t691⟩, A250, H⟩ := H
                replace H : ((impl_ServerFall.f k t687 t690 t691 a1).bind fun bt692 => ((laws_eqServer.f k bt692.1 bt692.2.1 bt692.2.2 t656 t659 t660).bind fun t698 => (if t698 = true then ((laws_heldServer.f k t685 t671 t672 1).bind fun t699 => (if t699 < 0 then (none) else (if t699 = t684 then (some true) else (none)))) else (none)))) = some r := H
                have A25 := Aside0.mk A250
                clear A250
                replace H := Option.bind_eq_some_iff.mp H
                obtain ⟨⟨t692, t695, t696⟩, A260, H⟩ := H
                replace H : ((laws_eqServer.f k t692 t695 t696 t656 t659 t660).bind fun t698 => (if t698 = true then ((laws_heldServer.f k t685 t671 t672 1).bind fun t699 => (if t699 < 0 then (none) else (if t699 = t684 then (some true) else (none)))) else (none))) = some r := H
                have A26 := Aside0.mk A260
                clear A260
                replace H := Option.bind_eq_some_iff.mp H
                obtain ⟨t698, A270, H⟩ := H
                replace H : (if t698 = true then ((laws_heldServer.f k t685 t671 t672 1).bind fun t699 => (if t699 < 0 then (none) else (if t699 = t684 then (some true) else (none)))) else (none)) = some r := H
                have A27 := Aside0.mk A270
                clear A270
                by_cases c28 : t698 = true
                · subst c28
                  have H1 : ((laws_heldServer.f k t685 t671 t672 1).bind fun t699 => (if t699 < 0 then (none) else (if t699 = t684 then (some true) else (none)))) = some r := by rw [if_pos rfl] at H; exact H
                  clear H
                  have H := H1
                  clear H1
                  replace H := Option.bind_eq_some_iff.mp H
                  obtain ⟨t699, A290, H⟩ := H
                  replace H : (if t699 < 0 then (none) else (if t699 = t684 then (some true) else (none))) = some r := H
                  have A29 := Aside0.mk A290
                  clear A290
                  by_cases c30 : t699 < 0
                  · rw [if_pos c30] at H
                    exact absurd H (by simp)
                  · rw [if_neg c30] at H
                    have c30b0 : decide (t699 < 0) = false := decide_eq_false c30
                    clear c30
                    by_cases c31 : t699 = t684
                    · rw [if_pos c31] at H
                      have c31b0 : (t699 == t684) = true := beq_iff_eq.mpr c31
                      have c31b1 : (t699 != t684) = false := bne_eq_false_iff_eq.mpr c31
                      clear c31
                      obtain rfl := Option.some.inj H
                      go_enter Tryd.func5, Tryd.ntmps5
                      try go_wp2_with (first | ((with_reducible refine gate_dst (N := 2) rfl ?_); refine box_event ?hg (N := 2) ?hd (cs := #[.slice A0_0 l0_0.length c0_0, .int .i64 a0_1, .bool a0_2]) (t := 24) ?hr ?_; (case hd => rfl); (case hg => rfl); (case hr => first | (go_simp; done) | (go_simp; rfl)); intro gb649 hg w32 hbox hb; have n0_ := Aside0.mk (below_step (by repeat (first | (with_reducible first | exact HB.out | apply below_alloc | apply pw_below_drewN | apply below_drew1) | exact HB.out)) hb); have n1_ := Aside0.mk (hbox); have n2_ := Aside0.mk ((by rw [hg]; exact (below_size (by repeat (first | (with_reducible first | exact HB.out | apply below_alloc | apply pw_below_drewN | apply below_drew1) | exact HB.out))) : w.heap.size ≤ gb649)); have n3_ := Aside0.mk ((by rw [hg]; exact (below_size (by repeat (first | (with_reducible first | exact HB.out | apply below_alloc | apply pw_below_drewN | apply below_drew1) | exact HB.out))) : w.heap.size ≤ gb649)); clear HB; have HB := n0_; have BK649 := n1_; have GW649 := n2_; have GE649 := n3_; clear n0_ n1_ n2_ n3_; clear hb hbox hg; have hcz33_0 : w32.cell? ⟨gb649, 0, none⟩ = some (.slice A0_0 l0_0.length c0_0) := (blk_cell BK649.out 0).trans rfl; have hcz33_1 : w32.cell? ⟨gb649, 1, none⟩ = some (.int .i64 a0_1) := (blk_cell BK649.out 1).trans rfl; have hcz33_2 : w32.cell? ⟨gb649, 2, none⟩ = some (.bool a0_2) := (blk_cell BK649.out 2).trans rfl; have hfz33_0 := blk_frozen BK649.out 0; have hfz33_1 := blk_frozen BK649.out 1; have hfz33_2 := blk_frozen BK649.out 2) | ((with_reducible refine gate_callee (f := 16) rfl ?_); refine goesL_ (some 15) rfl rfl Tryd.func16 (by kernel_rfl) rfl #[.agg #[.slice A0_0 l0_0.length c0_0, .int .i64 a0_1, .bool a0_2], .int .i64 1048576] rfl (by (try simp only [List.map_toArray, List.map_cons, List.map_nil]); first | done | rfl | (simp only [List.length_drop, List.length_take]; rfl)) ?_; (with_reducible refine (laws_szServer.calls k _ _ l0_0 a0_1 a0_2 1048576 t650 _ ?side1 ?side2 A3.out).mono ?_); (case side1 => repeat (first | exact (Kd.C_below HR0_0.out HB.out) | (with_reducible refine Kd.C_alloc ?_ _) | (with_reducible refine Kd.C_drewN ?_ _) | (with_reducible refine Kd.C_drew ?_))); (case side2 => exact HC0_0.out); rintro e w34 ⟨rfl, hb⟩; refine ⟨_, rfl, ?_⟩; have n0_ := Aside0.mk (blk_below (g := gb649) (o := .cells #[.slice A0_0 l0_0.length c0_0, .int .i64 a0_1, .bool a0_2] 24 (0, 0)) (by (with_reducible repeat (first | refine blk_drewN ?_ _ | refine blk_drew ?_ | refine blk_alloc ?_ _)); exact BK649.out) hb); have n1_ := Aside0.mk (below_step (by repeat (first | (with_reducible first | exact HB.out | apply below_alloc | apply pw_below_drewN | apply below_drew1 | refine below_set ?_ GE649.out) | exact HB.out)) hb); clear BK649; clear HB; have BK649 := n0_; have HB := n1_; clear n0_ n1_; (try clear hb); (try clear hb2); (try clear hk); (try clear hi); have hcz35_0 : w34.cell? ⟨gb649, 0, none⟩ = some (.slice A0_0 l0_0.length c0_0) := (blk_cell BK649.out 0).trans rfl; have hcz35_1 : w34.cell? ⟨gb649, 1, none⟩ = some (.int .i64 a0_1) := (blk_cell BK649.out 1).trans rfl; have hcz35_2 : w34.cell? ⟨gb649, 2, none⟩ = some (.bool a0_2) := (blk_cell BK649.out 2).trans rfl; have hfz35_0 := blk_frozen BK649.out 0; have hfz35_1 := blk_frozen BK649.out 1; have hfz35_2 := blk_frozen BK649.out 2) | ((with_reducible refine gate_callee (f := 18) rfl ?_); refine goesL_ (some 19) rfl rfl Tryd.func18 (by kernel_rfl) rfl #[.agg #[.slice A0_0 l0_0.length c0_0, .int .i64 a0_1, .bool a0_2]] rfl (by (try simp only [List.map_toArray, List.map_cons, List.map_nil]); first | done | rfl | (simp only [List.length_drop, List.length_take]; rfl)) ?_; (with_reducible refine (laws_toServer.calls k _ _ l0_0 a0_1 a0_2 t651 t654 t655 _ ?side1 ?side2 A8.out).mono ?_); (case side1 => repeat (first | exact (Kd.C_below HR0_0.out HB.out) | (with_reducible refine Kd.C_alloc ?_ _) | (with_reducible refine Kd.C_drewN ?_ _) | (with_reducible refine Kd.C_drew ?_))); (case side2 => exact HC0_0.out); rintro e w36 ⟨v652, rfl, ho0, hb⟩; refine ⟨_, rfl, ?_⟩; have n0_ := Aside0.mk (Kd.R_lower ho0 (below_size (by repeat (first | (with_reducible first | exact HB.out | apply below_alloc | apply pw_below_drewN | apply below_drew1 | refine below_set ?_ GE649.out) | exact HB.out)))); have n1_ := Aside0.mk (blk_below (g := gb649) (o := .cells #[.slice A0_0 l0_0.length c0_0, .int .i64 a0_1, .bool a0_2] 24 (0, 0)) (by (with_reducible repeat (first | refine blk_drewN ?_ _ | refine blk_drew ?_ | refine blk_alloc ?_ _)); exact BK649.out) hb); have n2_ := Aside0.mk (below_step (by repeat (first | (with_reducible first | exact HB.out | apply below_alloc | apply pw_below_drewN | apply below_drew1 | refine below_set ?_ GE649.out) | exact HB.out)) hb); clear BK649; clear HB; have HO653 := n0_; have BK649 := n1_; have HB := n2_; clear n0_ n1_ n2_; (try clear hb); (try clear hb2); (try clear hk); (try clear hi); (try clear ho0); obtain ⟨Ao37, co37, eo37⟩ := Kd.R_slice HO653.out; subst eo37) | ((with_reducible refine gate_callee (f := 29) rfl ?_); refine goesL_ (some 21) rfl rfl Tryd.func29 (by kernel_rfl) rfl #[.agg #[.slice Ao37 t651.length co37, .int .i64 t654, .bool t655], .int .i64 a1] rfl (by (try simp only [List.map_toArray, List.map_cons, List.map_nil]); first | done | rfl | (simp only [List.length_drop, List.length_take]; rfl)) ?_; (with_reducible refine (spec_ServerFall.calls k _ _ t651 t654 t655 a1 t656 t659 t660 _ ?side1 ?side2 A9.out).mono ?_); (case side1 => repeat (first | exact (Kd.R_reads' HO653.out).2.2 | (with_reducible refine Kd.C_alloc ?_ _) | (with_reducible refine Kd.C_drewN ?_ _) | (with_reducible refine Kd.C_drew ?_))); (case side2 => exact (Kd.R_reads' HO653.out).2.1); rintro e w38 ⟨v657, rfl, ho0, hb⟩; refine ⟨_, rfl, ?_⟩; have n0_ := Aside0.mk (Kd.R_elder' (by (with_reducible repeat (first | apply Kd.R_alloc | apply Kd.R_drewN | apply Kd.R_drew)); exact HO653.out) (Kd.R_base ho0) hb); have n1_ := Aside0.mk (Kd.R_lower (Kd.R_new' ho0 (Kd.R_lt (by (with_reducible repeat (first | apply Kd.R_alloc | apply Kd.R_drewN | apply Kd.R_drew)); exact HO653.out))) (below_size (by repeat (first | (with_reducible first | exact HB.out | apply below_alloc | apply pw_below_drewN | apply below_drew1 | refine below_set ?_ GE649.out) | exact HB.out)))); have n2_ := Aside0.mk (blk_below (g := gb649) (o := .cells #[.slice A0_0 l0_0.length c0_0, .int .i64 a0_1, .bool a0_2] 24 (0, 0)) (by (with_reducible repeat (first | refine blk_drewN ?_ _ | refine blk_drew ?_ | refine blk_alloc ?_ _)); exact BK649.out) hb); have n3_ := Aside0.mk (below_step (by repeat (first | (with_reducible first | exact HB.out | apply below_alloc | apply pw_below_drewN | apply below_drew1 | refine below_set ?_ GE649.out) | exact HB.out)) hb); clear HO653; clear BK649; clear HB; have HO653 := n0_; have HO658 := n1_; have BK649 := n2_; have HB := n3_; clear n0_ n1_ n2_ n3_; (try clear hb); (try clear hb2); (try clear hk); (try clear hi); (try clear ho0)) | ((with_reducible refine gate_dst (N := 6) rfl ?_); refine box_event ?hg (N := 6) ?hd (cs := #[.slice none 0 0, .int .i64 0, .bool false]) (t := 29) ?hr ?_; (case hd => rfl); (case hg => rfl); (case hr => first | (go_simp; done) | (go_simp; rfl)); intro gb661 hg w39 hbox hb; have n0_ := Aside0.mk (Kd.R_below (by (with_reducible repeat (first | apply Kd.R_alloc | apply Kd.R_drewN | apply Kd.R_drew)); exact HO653.out) hb); have n1_ := Aside0.mk (Kd.R_below (by (with_reducible repeat (first | apply Kd.R_alloc | apply Kd.R_drewN | apply Kd.R_drew)); exact HO658.out) hb); have n2_ := Aside0.mk (blk_below (g := gb649) (o := .cells #[.slice A0_0 l0_0.length c0_0, .int .i64 a0_1, .bool a0_2] 24 (0, 0)) (by (with_reducible repeat (first | refine blk_drewN ?_ _ | refine blk_drew ?_ | refine blk_alloc ?_ _)); exact BK649.out) hb); have n3_ := Aside0.mk (below_step (by repeat (first | (with_reducible first | exact HB.out | apply below_alloc | apply pw_below_drewN | apply below_drew1 | refine below_set ?_ GE649.out) | exact HB.out)) hb); have n4_ := Aside0.mk (hbox); have n5_ := Aside0.mk ((by rw [hg]; exact (below_size (by repeat (first | (with_reducible first | exact HB.out | apply below_alloc | apply pw_below_drewN | apply below_drew1 | refine below_set ?_ GE649.out) | exact HB.out))) : w.heap.size ≤ gb661)); have n6_ := Aside0.mk ((by rw [hg]; exact (below_size (by repeat (first | (with_reducible first | exact HB.out | apply below_alloc | apply pw_below_drewN | apply below_drew1 | refine below_set ?_ GE649.out) | exact HB.out))) : w.heap.size ≤ gb661)); have n7_ := Aside0.mk ((by rw [hg]; exact Nat.ne_of_lt (blk_lt (g := gb649) (o := .cells #[.slice A0_0 l0_0.length c0_0, .int .i64 a0_1, .bool a0_2] 24 (0, 0)) (by (with_reducible repeat (first | refine blk_drewN ?_ _ | refine blk_drew ?_ | refine blk_alloc ?_ _)); exact BK649.out)) : gb649 ≠ gb661)); have n8_ := Aside0.mk ((by rw [hg]; exact Nat.ne_of_gt (blk_lt (g := gb649) (o := .cells #[.slice A0_0 l0_0.length c0_0, .int .i64 a0_1, .bool a0_2] 24 (0, 0)) (by (with_reducible repeat (first | refine blk_drewN ?_ _ | refine blk_drew ?_ | refine blk_alloc ?_ _)); exact BK649.out)) : gb661 ≠ gb649)); clear HO653; clear HO658; clear BK649; clear HB; have HO653 := n0_; have HO658 := n1_; have BK649 := n2_; have HB := n3_; have BK661 := n4_; have GW661 := n5_; have GE661 := n6_; have NB649_661 := n7_; have NB661_649 := n8_; clear n0_ n1_ n2_ n3_ n4_ n5_ n6_ n7_ n8_; clear hb hbox hg; obtain ⟨Ao40, co40, eo40⟩ := Kd.R_slice HO658.out; subst eo40; have hnb41 := NB661_649.out; have hnc41 := NB649_661.out; have hcz42_0 : w39.cell? ⟨gb661, 0, none⟩ = some (.slice none 0 0) := (blk_cell BK661.out 0).trans rfl; have hcz42_1 : w39.cell? ⟨gb661, 1, none⟩ = some (.int .i64 0) := (blk_cell BK661.out 1).trans rfl; have hcz42_2 : w39.cell? ⟨gb661, 2, none⟩ = some (.bool false) := (blk_cell BK661.out 2).trans rfl; have hfz42_0 := blk_frozen BK661.out 0; have hfz42_1 := blk_frozen BK661.out 1; have hfz42_2 := blk_frozen BK661.out 2; have hcz43_0 : w39.cell? ⟨gb649, 0, none⟩ = some (.slice A0_0 l0_0.length c0_0) := (blk_cell BK649.out 0).trans rfl; have hcz43_1 : w39.cell? ⟨gb649, 1, none⟩ = some (.int .i64 a0_1) := (blk_cell BK649.out 1).trans rfl; have hcz43_2 : w39.cell? ⟨gb649, 2, none⟩ = some (.bool a0_2) := (blk_cell BK649.out 2).trans rfl; have hfz43_0 := blk_frozen BK649.out 0; have hfz43_1 := blk_frozen BK649.out 1; have hfz43_2 := blk_frozen BK649.out 2) | ((with_reducible refine gate_callee (f := 18) rfl ?_); refine goesL_ (some 23) rfl rfl Tryd.func18 (by kernel_rfl) rfl #[.agg #[.slice A0_0 l0_0.length c0_0, .int .i64 a0_1, .bool a0_2]] rfl (by (try simp only [List.map_toArray, List.map_cons, List.map_nil]); first | done | rfl | (simp only [List.length_drop, List.length_take]; rfl)) ?_; (with_reducible refine (laws_toServer.calls k _ _ l0_0 a0_1 a0_2 t662 t665 t666 _ ?side1 ?side2 A10.out).mono ?_); (case side1 => exact Kd.C_below HR0_0.out (by repeat (first | (with_reducible first | exact HB.out | apply below_alloc | apply pw_below_drewN | apply below_drew1 | refine below_set ?_ GE649.out | refine below_set ?_ GE661.out) | exact HB.out))); (case side2 => exact HC0_0.out); rintro e w44 ⟨v663, rfl, ho0, hb⟩; refine ⟨_, rfl, ?_⟩; have n0_ := Aside0.mk (Kd.R_elder' (by (with_reducible repeat (first | apply Kd.R_alloc | apply Kd.R_drewN | apply Kd.R_drew)); exact (Kd.R_mono (Kd.R_far (p := ⟨gb661, 2, none⟩) (Kd.R_far (p := ⟨gb661, 1, none⟩) (Kd.R_far (p := ⟨gb661, 0, none⟩) (Kd.R_types HO653.out BK661.out (by decide)) (fun _ hk => hk.2) (.slice Ao40 t656.length co40)) (fun _ hk => hk.2) (.int .i64 t659)) (fun _ hk => hk.2) (.bool t660)) (fun _ h_ => h_.1))) (Kd.R_base ho0) hb); have n1_ := Aside0.mk (Kd.R_elder' (by (with_reducible repeat (first | apply Kd.R_alloc | apply Kd.R_drewN | apply Kd.R_drew)); exact (Kd.R_mono (Kd.R_far (p := ⟨gb661, 2, none⟩) (Kd.R_far (p := ⟨gb661, 1, none⟩) (Kd.R_far (p := ⟨gb661, 0, none⟩) (Kd.R_types HO658.out BK661.out (by decide)) (fun _ hk => hk.2) (.slice Ao40 t656.length co40)) (fun _ hk => hk.2) (.int .i64 t659)) (fun _ hk => hk.2) (.bool t660)) (fun _ h_ => h_.1))) (Kd.R_base ho0) hb); have n2_ := Aside0.mk (Kd.R_lower (Kd.R_new' (Kd.R_new' ho0 (Kd.R_lt (by (with_reducible repeat (first | apply Kd.R_alloc | apply Kd.R_drewN | apply Kd.R_drew)); exact (Kd.R_mono (Kd.R_far (p := ⟨gb661, 2, none⟩) (Kd.R_far (p := ⟨gb661, 1, none⟩) (Kd.R_far (p := ⟨gb661, 0, none⟩) (Kd.R_types HO653.out BK661.out (by decide)) (fun _ hk => hk.2) (.slice Ao40 t656.length co40)) (fun _ hk => hk.2) (.int .i64 t659)) (fun _ hk => hk.2) (.bool t660)) (fun _ h_ => h_.1))))) (Kd.R_lt (by (with_reducible repeat (first | apply Kd.R_alloc | apply Kd.R_drewN | apply Kd.R_drew)); exact (Kd.R_mono (Kd.R_far (p := ⟨gb661, 2, none⟩) (Kd.R_far (p := ⟨gb661, 1, none⟩) (Kd.R_far (p := ⟨gb661, 0, none⟩) (Kd.R_types HO658.out BK661.out (by decide)) (fun _ hk => hk.2) (.slice Ao40 t656.length co40)) (fun _ hk => hk.2) (.int .i64 t659)) (fun _ hk => hk.2) (.bool t660)) (fun _ h_ => h_.1))))) (below_size (by repeat (first | (with_reducible first | exact HB.out | apply below_alloc | apply pw_below_drewN | apply below_drew1 | refine below_set ?_ GE649.out | refine below_set ?_ GE661.out) | exact HB.out)))); have n3_ := Aside0.mk (blk_below (g := gb649) (o := .cells #[.slice A0_0 l0_0.length c0_0, .int .i64 a0_1, .bool a0_2] 24 (0, 0)) (by (with_reducible repeat (first | refine blk_drewN ?_ _ | refine blk_drew ?_ | refine blk_alloc ?_ _)); refine blk_far ?_ NB649_661.out _; (with_reducible repeat (first | refine blk_drewN ?_ _ | refine blk_drew ?_ | refine blk_alloc ?_ _)); refine blk_far ?_ NB649_661.out _; (with_reducible repeat (first | refine blk_drewN ?_ _ | refine blk_drew ?_ | refine blk_alloc ?_ _)); refine blk_far ?_ NB649_661.out _; (with_reducible repeat (first | refine blk_drewN ?_ _ | refine blk_drew ?_ | refine blk_alloc ?_ _)); exact BK649.out) hb); have n4_ := Aside0.mk (blk_below (g := gb661) (o := .cells #[.slice Ao40 t656.length co40, .int .i64 t659, .bool t660] 29 (0, 0)) (by (with_reducible repeat (first | refine blk_drewN ?_ _ | refine blk_drew ?_ | refine blk_alloc ?_ _)); refine blk_put (cs := #[.slice Ao40 t656.length co40, .int .i64 t659, .bool false]) ?_ 2 _ rfl; (with_reducible repeat (first | refine blk_drewN ?_ _ | refine blk_drew ?_ | refine blk_alloc ?_ _)); refine blk_put (cs := #[.slice Ao40 t656.length co40, .int .i64 0, .bool false]) ?_ 1 _ rfl; (with_reducible repeat (first | refine blk_drewN ?_ _ | refine blk_drew ?_ | refine blk_alloc ?_ _)); refine blk_put (cs := #[.slice none 0 0, .int .i64 0, .bool false]) ?_ 0 _ rfl; (with_reducible repeat (first | refine blk_drewN ?_ _ | refine blk_drew ?_ | refine blk_alloc ?_ _)); exact BK661.out) hb); have n5_ := Aside0.mk (below_step (by repeat (first | (with_reducible first | exact HB.out | apply below_alloc | apply pw_below_drewN | apply below_drew1 | refine below_set ?_ GE649.out | refine below_set ?_ GE661.out) | exact HB.out)) hb); clear HO653; clear HO658; clear BK649; clear BK661; clear HB; have HO653 := n0_; have HO658 := n1_; have HO664 := n2_; have BK649 := n3_; have BK661 := n4_; have HB := n5_; clear n0_ n1_ n2_ n3_ n4_ n5_; (try clear hb); (try clear hb2); (try clear hk); (try clear hi); (try clear ho0)) | ((with_reducible refine gate_dst (N := 7) rfl ?_); refine box_event ?hg (N := 7) ?hd (cs := #[.slice none 0 0, .int .i64 0, .bool false]) (t := 29) ?hr ?_; (case hd => rfl); (case hg => rfl); (case hr => first | (go_simp; done) | (go_simp; rfl)); intro gb667 hg w45 hbox hb; have n0_ := Aside0.mk (Kd.R_below (by (with_reducible repeat (first | apply Kd.R_alloc | apply Kd.R_drewN | apply Kd.R_drew)); exact HO653.out) hb); have n1_ := Aside0.mk (Kd.R_below (by (with_reducible repeat (first | apply Kd.R_alloc | apply Kd.R_drewN | apply Kd.R_drew)); exact HO658.out) hb); have n2_ := Aside0.mk (Kd.R_below (by (with_reducible repeat (first | apply Kd.R_alloc | apply Kd.R_drewN | apply Kd.R_drew)); exact HO664.out) hb); have n3_ := Aside0.mk (blk_below (g := gb649) (o := .cells #[.slice A0_0 l0_0.length c0_0, .int .i64 a0_1, .bool a0_2] 24 (0, 0)) (by (with_reducible repeat (first | refine blk_drewN ?_ _ | refine blk_drew ?_ | refine blk_alloc ?_ _)); exact BK649.out) hb); have n4_ := Aside0.mk (blk_below (g := gb661) (o := .cells #[.slice Ao40 t656.length co40, .int .i64 t659, .bool t660] 29 (0, 0)) (by (with_reducible repeat (first | refine blk_drewN ?_ _ | refine blk_drew ?_ | refine blk_alloc ?_ _)); exact BK661.out) hb); have n5_ := Aside0.mk (below_step (by repeat (first | (with_reducible first | exact HB.out | apply below_alloc | apply pw_below_drewN | apply below_drew1 | refine below_set ?_ GE649.out | refine below_set ?_ GE661.out) | exact HB.out)) hb); have n6_ := Aside0.mk (hbox); have n7_ := Aside0.mk ((by rw [hg]; exact (below_size (by repeat (first | (with_reducible first | exact HB.out | apply below_alloc | apply pw_below_drewN | apply below_drew1 | refine below_set ?_ GE649.out | refine below_set ?_ GE661.out) | exact HB.out))) : w.heap.size ≤ gb667)); have n8_ := Aside0.mk ((by rw [hg]; exact (below_size (by repeat (first | (with_reducible first | exact HB.out | apply below_alloc | apply pw_below_drewN | apply below_drew1 | refine below_set ?_ GE649.out | refine below_set ?_ GE661.out) | exact HB.out))) : w.heap.size ≤ gb667)); have n9_ := Aside0.mk ((by rw [hg]; exact Nat.ne_of_lt (blk_lt (g := gb649) (o := .cells #[.slice A0_0 l0_0.length c0_0, .int .i64 a0_1, .bool a0_2] 24 (0, 0)) (by (with_reducible repeat (first | refine blk_drewN ?_ _ | refine blk_drew ?_ | refine blk_alloc ?_ _)); exact BK649.out)) : gb649 ≠ gb667)); have n10_ := Aside0.mk ((by rw [hg]; exact Nat.ne_of_gt (blk_lt (g := gb649) (o := .cells #[.slice A0_0 l0_0.length c0_0, .int .i64 a0_1, .bool a0_2] 24 (0, 0)) (by (with_reducible repeat (first | refine blk_drewN ?_ _ | refine blk_drew ?_ | refine blk_alloc ?_ _)); exact BK649.out)) : gb667 ≠ gb649)); have n11_ := Aside0.mk ((by rw [hg]; exact Nat.ne_of_lt (blk_lt (g := gb661) (o := .cells #[.slice Ao40 t656.length co40, .int .i64 t659, .bool t660] 29 (0, 0)) (by (with_reducible repeat (first | refine blk_drewN ?_ _ | refine blk_drew ?_ | refine blk_alloc ?_ _)); exact BK661.out)) : gb661 ≠ gb667)); have n12_ := Aside0.mk ((by rw [hg]; exact Nat.ne_of_gt (blk_lt (g := gb661) (o := .cells #[.slice Ao40 t656.length co40, .int .i64 t659, .bool t660] 29 (0, 0)) (by (with_reducible repeat (first | refine blk_drewN ?_ _ | refine blk_drew ?_ | refine blk_alloc ?_ _)); exact BK661.out)) : gb667 ≠ gb661)); clear HO653; clear HO658; clear HO664; clear BK649; clear BK661; clear HB; have HO653 := n0_; have HO658 := n1_; have HO664 := n2_; have BK649 := n3_; have BK661 := n4_; have HB := n5_; have BK667 := n6_; have GW667 := n7_; have GE667 := n8_; have NB649_667 := n9_; have NB667_649 := n10_; have NB661_667 := n11_; have NB667_661 := n12_; clear n0_ n1_ n2_ n3_ n4_ n5_ n6_ n7_ n8_ n9_ n10_ n11_ n12_; clear hb hbox hg; obtain ⟨Ao46, co46, eo46⟩ := Kd.R_slice HO664.out; subst eo46; have hnb47 := NB667_649.out; have hnc47 := NB649_667.out; have hnb48 := NB667_661.out; have hnc48 := NB661_667.out; have hcz49_0 : w45.cell? ⟨gb667, 0, none⟩ = some (.slice none 0 0) := (blk_cell BK667.out 0).trans rfl; have hcz49_1 : w45.cell? ⟨gb667, 1, none⟩ = some (.int .i64 0) := (blk_cell BK667.out 1).trans rfl; have hcz49_2 : w45.cell? ⟨gb667, 2, none⟩ = some (.bool false) := (blk_cell BK667.out 2).trans rfl; have hfz49_0 := blk_frozen BK667.out 0; have hfz49_1 := blk_frozen BK667.out 1; have hfz49_2 := blk_frozen BK667.out 2) | ((with_reducible refine gate_callee (f := 30) rfl ?_); refine goesL_ (some 26) rfl rfl Tryd.func30 (by kernel_rfl) rfl #[.agg #[.slice Ao46 t662.length co46, .int .i64 t665, .bool t666], .int .i64 a1] rfl (by (try simp only [List.map_toArray, List.map_cons, List.map_nil]); first | done | rfl | (simp only [List.length_drop, List.length_take]; rfl)) ?_; (with_reducible refine (impl_ServerFall.calls k _ _ t662 t665 t666 a1 t668 t671 t672 _ ?side1 ?side2 A11.out ?side3).mono ?_); (case side1 => refine (Kd.R_reads' (e := 56) (base := w.heap.size) (ok := fun k_ => ((True ∧ some k_ ≠ (.slice Ao37 t651.length co37 : Value).ownBlock) ∧ some k_ ≠ (.slice Ao40 t656.length co40 : Value).ownBlock)) (n := t662.length) (c := co46) ?_).2.2; exact (by (with_reducible repeat (first | apply Kd.R_alloc | apply Kd.R_drewN | apply Kd.R_drew)); exact (Kd.R_mono (Kd.R_far (p := ⟨gb667, 2, none⟩) (Kd.R_far (p := ⟨gb667, 1, none⟩) (Kd.R_far (p := ⟨gb667, 0, none⟩) (Kd.R_types HO664.out BK667.out (by decide)) (fun _ hk => hk.2) (.slice Ao46 t662.length co46)) (fun _ hk => hk.2) (.int .i64 t665)) (fun _ hk => hk.2) (.bool t666)) (fun _ h_ => h_.1)))); (case side2 => exact (Kd.R_reads' HO664.out).2.1); (case side3 => exact Glob.below HG.out (by repeat (first | (with_reducible first | exact HB.out | apply below_alloc | apply pw_below_drewN | apply below_drew1 | refine below_set ?_ GE649.out | refine below_set ?_ GE661.out | refine below_set ?_ GE667.out) | exact HB.out))); rintro e w50 ⟨v669, rfl, ho0, hb⟩; refine ⟨_, rfl, ?_⟩; have n0_ := Aside0.mk (Kd.R_elder' (by (with_reducible repeat (first | apply Kd.R_alloc | apply Kd.R_drewN | apply Kd.R_drew)); exact (Kd.R_mono (Kd.R_far (p := ⟨gb667, 2, none⟩) (Kd.R_far (p := ⟨gb667, 1, none⟩) (Kd.R_far (p := ⟨gb667, 0, none⟩) (Kd.R_types HO653.out BK667.out (by decide)) (fun _ hk => hk.2) (.slice Ao46 t662.length co46)) (fun _ hk => hk.2) (.int .i64 t665)) (fun _ hk => hk.2) (.bool t666)) (fun _ h_ => h_.1))) (Kd.R_base ho0) hb); have n1_ := Aside0.mk (Kd.R_elder' (by (with_reducible repeat (first | apply Kd.R_alloc | apply Kd.R_drewN | apply Kd.R_drew)); exact (Kd.R_mono (Kd.R_far (p := ⟨gb667, 2, none⟩) (Kd.R_far (p := ⟨gb667, 1, none⟩) (Kd.R_far (p := ⟨gb667, 0, none⟩) (Kd.R_types HO658.out BK667.out (by decide)) (fun _ hk => hk.2) (.slice Ao46 t662.length co46)) (fun _ hk => hk.2) (.int .i64 t665)) (fun _ hk => hk.2) (.bool t666)) (fun _ h_ => h_.1))) (Kd.R_base ho0) hb); have n2_ := Aside0.mk (Kd.R_elder' (by (with_reducible repeat (first | apply Kd.R_alloc | apply Kd.R_drewN | apply Kd.R_drew)); exact (Kd.R_mono (Kd.R_far (p := ⟨gb667, 2, none⟩) (Kd.R_far (p := ⟨gb667, 1, none⟩) (Kd.R_far (p := ⟨gb667, 0, none⟩) (Kd.R_types HO664.out BK667.out (by decide)) (fun _ hk => hk.2) (.slice Ao46 t662.length co46)) (fun _ hk => hk.2) (.int .i64 t665)) (fun _ hk => hk.2) (.bool t666)) (fun _ h_ => h_.1))) (Kd.R_base ho0) hb); have n3_ := Aside0.mk (Kd.R_lower (Kd.R_new' (Kd.R_new' (Kd.R_new' ho0 (Kd.R_lt (by (with_reducible repeat (first | apply Kd.R_alloc | apply Kd.R_drewN | apply Kd.R_drew)); exact (Kd.R_mono (Kd.R_far (p := ⟨gb667, 2, none⟩) (Kd.R_far (p := ⟨gb667, 1, none⟩) (Kd.R_far (p := ⟨gb667, 0, none⟩) (Kd.R_types HO653.out BK667.out (by decide)) (fun _ hk => hk.2) (.slice Ao46 t662.length co46)) (fun _ hk => hk.2) (.int .i64 t665)) (fun _ hk => hk.2) (.bool t666)) (fun _ h_ => h_.1))))) (Kd.R_lt (by (with_reducible repeat (first | apply Kd.R_alloc | apply Kd.R_drewN | apply Kd.R_drew)); exact (Kd.R_mono (Kd.R_far (p := ⟨gb667, 2, none⟩) (Kd.R_far (p := ⟨gb667, 1, none⟩) (Kd.R_far (p := ⟨gb667, 0, none⟩) (Kd.R_types HO658.out BK667.out (by decide)) (fun _ hk => hk.2) (.slice Ao46 t662.length co46)) (fun _ hk => hk.2) (.int .i64 t665)) (fun _ hk => hk.2) (.bool t666)) (fun _ h_ => h_.1))))) (Kd.R_lt (by (with_reducible repeat (first | apply Kd.R_alloc | apply Kd.R_drewN | apply Kd.R_drew)); exact (Kd.R_mono (Kd.R_far (p := ⟨gb667, 2, none⟩) (Kd.R_far (p := ⟨gb667, 1, none⟩) (Kd.R_far (p := ⟨gb667, 0, none⟩) (Kd.R_types HO664.out BK667.out (by decide)) (fun _ hk => hk.2) (.slice Ao46 t662.length co46)) (fun _ hk => hk.2) (.int .i64 t665)) (fun _ hk => hk.2) (.bool t666)) (fun _ h_ => h_.1))))) (below_size (by repeat (first | (with_reducible first | exact HB.out | apply below_alloc | apply pw_below_drewN | apply below_drew1 | refine below_set ?_ GE649.out | refine below_set ?_ GE661.out | refine below_set ?_ GE667.out) | exact HB.out)))); have n4_ := Aside0.mk (blk_below (g := gb649) (o := .cells #[.slice A0_0 l0_0.length c0_0, .int .i64 a0_1, .bool a0_2] 24 (0, 0)) (by (with_reducible repeat (first | refine blk_drewN ?_ _ | refine blk_drew ?_ | refine blk_alloc ?_ _)); refine blk_far ?_ NB649_667.out _; (with_reducible repeat (first | refine blk_drewN ?_ _ | refine blk_drew ?_ | refine blk_alloc ?_ _)); refine blk_far ?_ NB649_667.out _; (with_reducible repeat (first | refine blk_drewN ?_ _ | refine blk_drew ?_ | refine blk_alloc ?_ _)); refine blk_far ?_ NB649_667.out _; (with_reducible repeat (first | refine blk_drewN ?_ _ | refine blk_drew ?_ | refine blk_alloc ?_ _)); exact BK649.out) hb); have n5_ := Aside0.mk (blk_below (g := gb661) (o := .cells #[.slice Ao40 t656.length co40, .int .i64 t659, .bool t660] 29 (0, 0)) (by (with_reducible repeat (first | refine blk_drewN ?_ _ | refine blk_drew ?_ | refine blk_alloc ?_ _)); refine blk_far ?_ NB661_667.out _; (with_reducible repeat (first | refine blk_drewN ?_ _ | refine blk_drew ?_ | refine blk_alloc ?_ _)); refine blk_far ?_ NB661_667.out _; (with_reducible repeat (first | refine blk_drewN ?_ _ | refine blk_drew ?_ | refine blk_alloc ?_ _)); refine blk_far ?_ NB661_667.out _; (with_reducible repeat (first | refine blk_drewN ?_ _ | refine blk_drew ?_ | refine blk_alloc ?_ _)); exact BK661.out) hb); have n6_ := Aside0.mk (blk_below (g := gb667) (o := .cells #[.slice Ao46 t662.length co46, .int .i64 t665, .bool t666] 29 (0, 0)) (by (with_reducible repeat (first | refine blk_drewN ?_ _ | refine blk_drew ?_ | refine blk_alloc ?_ _)); refine blk_put (cs := #[.slice Ao46 t662.length co46, .int .i64 t665, .bool false]) ?_ 2 _ rfl; (with_reducible repeat (first | refine blk_drewN ?_ _ | refine blk_drew ?_ | refine blk_alloc ?_ _)); refine blk_put (cs := #[.slice Ao46 t662.length co46, .int .i64 0, .bool false]) ?_ 1 _ rfl; (with_reducible repeat (first | refine blk_drewN ?_ _ | refine blk_drew ?_ | refine blk_alloc ?_ _)); refine blk_put (cs := #[.slice none 0 0, .int .i64 0, .bool false]) ?_ 0 _ rfl; (with_reducible repeat (first | refine blk_drewN ?_ _ | refine blk_drew ?_ | refine blk_alloc ?_ _)); exact BK667.out) hb); have n7_ := Aside0.mk (below_step (by repeat (first | (with_reducible first | exact HB.out | apply below_alloc | apply pw_below_drewN | apply below_drew1 | refine below_set ?_ GE649.out | refine below_set ?_ GE661.out | refine below_set ?_ GE667.out) | exact HB.out)) hb); clear HO653; clear HO658; clear HO664; clear BK649; clear BK661; clear BK667; clear HB; have HO653 := n0_; have HO658 := n1_; have HO664 := n2_; have HO670 := n3_; have BK649 := n4_; have BK661 := n5_; have BK667 := n6_; have HB := n7_; clear n0_ n1_ n2_ n3_ n4_ n5_ n6_ n7_; (try clear hb); (try clear hb2); (try clear hk); (try clear hi); (try clear ho0)) | ((with_reducible refine gate_dst (N := 8) rfl ?_); refine box_event ?hg (N := 8) ?hd (cs := #[.slice none 0 0, .int .i64 0, .bool false]) (t := 29) ?hr ?_; (case hd => rfl); (case hg => rfl); (case hr => first | (go_simp; done) | (go_simp; rfl)); intro gb673 hg w51 hbox hb; have n0_ := Aside0.mk (Kd.R_below (by (with_reducible repeat (first | apply Kd.R_alloc | apply Kd.R_drewN | apply Kd.R_drew)); exact HO653.out) hb); have n1_ := Aside0.mk (Kd.R_below (by (with_reducible repeat (first | apply Kd.R_alloc | apply Kd.R_drewN | apply Kd.R_drew)); exact HO658.out) hb); have n2_ := Aside0.mk (Kd.R_below (by (with_reducible repeat (first | apply Kd.R_alloc | apply Kd.R_drewN | apply Kd.R_drew)); exact HO664.out) hb); have n3_ := Aside0.mk (Kd.R_below (by (with_reducible repeat (first | apply Kd.R_alloc | apply Kd.R_drewN | apply Kd.R_drew)); exact HO670.out) hb); have n4_ := Aside0.mk (blk_below (g := gb649) (o := .cells #[.slice A0_0 l0_0.length c0_0, .int .i64 a0_1, .bool a0_2] 24 (0, 0)) (by (with_reducible repeat (first | refine blk_drewN ?_ _ | refine blk_drew ?_ | refine blk_alloc ?_ _)); exact BK649.out) hb); have n5_ := Aside0.mk (blk_below (g := gb661) (o := .cells #[.slice Ao40 t656.length co40, .int .i64 t659, .bool t660] 29 (0, 0)) (by (with_reducible repeat (first | refine blk_drewN ?_ _ | refine blk_drew ?_ | refine blk_alloc ?_ _)); exact BK661.out) hb); have n6_ := Aside0.mk (blk_below (g := gb667) (o := .cells #[.slice Ao46 t662.length co46, .int .i64 t665, .bool t666] 29 (0, 0)) (by (with_reducible repeat (first | refine blk_drewN ?_ _ | refine blk_drew ?_ | refine blk_alloc ?_ _)); exact BK667.out) hb); have n7_ := Aside0.mk (below_step (by repeat (first | (with_reducible first | exact HB.out | apply below_alloc | apply pw_below_drewN | apply below_drew1 | refine below_set ?_ GE649.out | refine below_set ?_ GE661.out | refine below_set ?_ GE667.out) | exact HB.out)) hb); have n8_ := Aside0.mk (hbox); have n9_ := Aside0.mk ((by rw [hg]; exact (below_size (by repeat (first | (with_reducible first | exact HB.out | apply below_alloc | apply pw_below_drewN | apply below_drew1 | refine below_set ?_ GE649.out | refine below_set ?_ GE661.out | refine below_set ?_ GE667.out) | exact HB.out))) : w.heap.size ≤ gb673)); have n10_ := Aside0.mk ((by rw [hg]; exact (below_size (by repeat (first | (with_reducible first | exact HB.out | apply below_alloc | apply pw_below_drewN | apply below_drew1 | refine below_set ?_ GE649.out | refine below_set ?_ GE661.out | refine below_set ?_ GE667.out) | exact HB.out))) : w.heap.size ≤ gb673)); have n11_ := Aside0.mk ((by rw [hg]; exact Nat.ne_of_lt (blk_lt (g := gb649) (o := .cells #[.slice A0_0 l0_0.length c0_0, .int .i64 a0_1, .bool a0_2] 24 (0, 0)) (by (with_reducible repeat (first | refine blk_drewN ?_ _ | refine blk_drew ?_ | refine blk_alloc ?_ _)); exact BK649.out)) : gb649 ≠ gb673)); have n12_ := Aside0.mk ((by rw [hg]; exact Nat.ne_of_gt (blk_lt (g := gb649) (o := .cells #[.slice A0_0 l0_0.length c0_0, .int .i64 a0_1, .bool a0_2] 24 (0, 0)) (by (with_reducible repeat (first | refine blk_drewN ?_ _ | refine blk_drew ?_ | refine blk_alloc ?_ _)); exact BK649.out)) : gb673 ≠ gb649)); have n13_ := Aside0.mk ((by rw [hg]; exact Nat.ne_of_lt (blk_lt (g := gb661) (o := .cells #[.slice Ao40 t656.length co40, .int .i64 t659, .bool t660] 29 (0, 0)) (by (with_reducible repeat (first | refine blk_drewN ?_ _ | refine blk_drew ?_ | refine blk_alloc ?_ _)); exact BK661.out)) : gb661 ≠ gb673)); have n14_ := Aside0.mk ((by rw [hg]; exact Nat.ne_of_gt (blk_lt (g := gb661) (o := .cells #[.slice Ao40 t656.length co40, .int .i64 t659, .bool t660] 29 (0, 0)) (by (with_reducible repeat (first | refine blk_drewN ?_ _ | refine blk_drew ?_ | refine blk_alloc ?_ _)); exact BK661.out)) : gb673 ≠ gb661)); have n15_ := Aside0.mk ((by rw [hg]; exact Nat.ne_of_lt (blk_lt (g := gb667) (o := .cells #[.slice Ao46 t662.length co46, .int .i64 t665, .bool t666] 29 (0, 0)) (by (with_reducible repeat (first | refine blk_drewN ?_ _ | refine blk_drew ?_ | refine blk_alloc ?_ _)); exact BK667.out)) : gb667 ≠ gb673)); have n16_ := Aside0.mk ((by rw [hg]; exact Nat.ne_of_gt (blk_lt (g := gb667) (o := .cells #[.slice Ao46 t662.length co46, .int .i64 t665, .bool t666] 29 (0, 0)) (by (with_reducible repeat (first | refine blk_drewN ?_ _ | refine blk_drew ?_ | refine blk_alloc ?_ _)); exact BK667.out)) : gb673 ≠ gb667)); clear HO653; clear HO658; clear HO664; clear HO670; clear BK649; clear BK661; clear BK667; clear HB; have HO653 := n0_; have HO658 := n1_; have HO664 := n2_; have HO670 := n3_; have BK649 := n4_; have BK661 := n5_; have BK667 := n6_; have HB := n7_; have BK673 := n8_; have GW673 := n9_; have GE673 := n10_; have NB649_673 := n11_; have NB673_649 := n12_; have NB661_673 := n13_; have NB673_661 := n14_; have NB667_673 := n15_; have NB673_667 := n16_; clear n0_ n1_ n2_ n3_ n4_ n5_ n6_ n7_ n8_ n9_ n10_ n11_ n12_ n13_ n14_ n15_ n16_; clear hb hbox hg; obtain ⟨Ao52, co52, eo52⟩ := Kd.R_slice HO670.out; subst eo52; have hnb53 := NB673_649.out; have hnc53 := NB649_673.out; have hnb54 := NB673_661.out; have hnc54 := NB661_673.out; have hnb55 := NB673_667.out; have hnc55 := NB667_673.out; have hcz56_0 : w51.cell? ⟨gb673, 0, none⟩ = some (.slice none 0 0) := (blk_cell BK673.out 0).trans rfl; have hcz56_1 : w51.cell? ⟨gb673, 1, none⟩ = some (.int .i64 0) := (blk_cell BK673.out 1).trans rfl; have hcz56_2 : w51.cell? ⟨gb673, 2, none⟩ = some (.bool false) := (blk_cell BK673.out 2).trans rfl; have hfz56_0 := blk_frozen BK673.out 0; have hfz56_1 := blk_frozen BK673.out 1; have hfz56_2 := blk_frozen BK673.out 2; have hcz57_0 : w51.cell? ⟨gb661, 0, none⟩ = some (.slice Ao40 t656.length co40) := (blk_cell BK661.out 0).trans rfl; have hcz57_1 : w51.cell? ⟨gb661, 1, none⟩ = some (.int .i64 t659) := (blk_cell BK661.out 1).trans rfl; have hcz57_2 : w51.cell? ⟨gb661, 2, none⟩ = some (.bool t660) := (blk_cell BK661.out 2).trans rfl; have hfz57_0 := blk_frozen BK661.out 0; have hfz57_1 := blk_frozen BK661.out 1; have hfz57_2 := blk_frozen BK661.out 2) | ((with_reducible refine gate_callee (f := 21) rfl ?_); refine goesL_ (some 29) rfl rfl Tryd.func21 (by kernel_rfl) rfl #[.agg #[.slice Ao52 t668.length co52, .int .i64 t671, .bool t672], .agg #[.slice Ao40 t656.length co40, .int .i64 t659, .bool t660]] rfl (by (try simp only [List.map_toArray, List.map_cons, List.map_nil]); first | done | rfl | (simp only [List.length_drop, List.length_take]; rfl)) ?_; (with_reducible refine (laws_eqServer.calls k _ _ t668 t671 t672 _ _ t656 t659 t660 true _ ?side1 ?side2 ?side3 ?side4 A12.out).mono ?_); (case side1 => refine (Kd.R_reads' (e := 56) (base := w.heap.size) (ok := fun k_ => (((True ∧ some k_ ≠ (.slice Ao37 t651.length co37 : Value).ownBlock) ∧ some k_ ≠ (.slice Ao40 t656.length co40 : Value).ownBlock) ∧ some k_ ≠ (.slice Ao46 t662.length co46 : Value).ownBlock)) (n := t668.length) (c := co52) ?_).2.2; exact (by (with_reducible repeat (first | apply Kd.R_alloc | apply Kd.R_drewN | apply Kd.R_drew)); exact (Kd.R_mono (Kd.R_far (p := ⟨gb673, 2, none⟩) (Kd.R_far (p := ⟨gb673, 1, none⟩) (Kd.R_far (p := ⟨gb673, 0, none⟩) (Kd.R_types HO670.out BK673.out (by decide)) (fun _ hk => hk.2) (.slice Ao52 t668.length co52)) (fun _ hk => hk.2) (.int .i64 t671)) (fun _ hk => hk.2) (.bool t672)) (fun _ h_ => h_.1)))); (case side2 => exact (Kd.R_reads' HO670.out).2.1); (case side3 => refine (Kd.R_reads' (e := 56) (base := w.heap.size) (ok := fun k_ => (((True ∧ some k_ ≠ (.slice Ao37 t651.length co37 : Value).ownBlock) ∧ some k_ ≠ (.slice Ao46 t662.length co46 : Value).ownBlock) ∧ some k_ ≠ (.slice Ao52 t668.length co52 : Value).ownBlock)) (n := t656.length) (c := co40) ?_).2.2; exact (by (with_reducible repeat (first | apply Kd.R_alloc | apply Kd.R_drewN | apply Kd.R_drew)); exact (Kd.R_mono (Kd.R_far (p := ⟨gb673, 2, none⟩) (Kd.R_far (p := ⟨gb673, 1, none⟩) (Kd.R_far (p := ⟨gb673, 0, none⟩) (Kd.R_types HO658.out BK673.out (by decide)) (fun _ hk => hk.2) (.slice Ao52 t668.length co52)) (fun _ hk => hk.2) (.int .i64 t671)) (fun _ hk => hk.2) (.bool t672)) (fun _ h_ => h_.1)))); (case side4 => exact (Kd.R_reads' HO658.out).2.1); rintro e w58 ⟨rfl, hb⟩; refine ⟨_, rfl, ?_⟩; have n0_ := Aside0.mk (Kd.R_below (by (with_reducible repeat (first | apply Kd.R_alloc | apply Kd.R_drewN | apply Kd.R_drew)); exact (Kd.R_mono (Kd.R_far (p := ⟨gb673, 2, none⟩) (Kd.R_far (p := ⟨gb673, 1, none⟩) (Kd.R_far (p := ⟨gb673, 0, none⟩) (Kd.R_types HO653.out BK673.out (by decide)) (fun _ hk => hk.2) (.slice Ao52 t668.length co52)) (fun _ hk => hk.2) (.int .i64 t671)) (fun _ hk => hk.2) (.bool t672)) (fun _ h_ => h_.1))) hb); have n1_ := Aside0.mk (Kd.R_below (by (with_reducible repeat (first | apply Kd.R_alloc | apply Kd.R_drewN | apply Kd.R_drew)); exact (Kd.R_mono (Kd.R_far (p := ⟨gb673, 2, none⟩) (Kd.R_far (p := ⟨gb673, 1, none⟩) (Kd.R_far (p := ⟨gb673, 0, none⟩) (Kd.R_types HO658.out BK673.out (by decide)) (fun _ hk => hk.2) (.slice Ao52 t668.length co52)) (fun _ hk => hk.2) (.int .i64 t671)) (fun _ hk => hk.2) (.bool t672)) (fun _ h_ => h_.1))) hb); have n2_ := Aside0.mk (Kd.R_below (by (with_reducible repeat (first | apply Kd.R_alloc | apply Kd.R_drewN | apply Kd.R_drew)); exact (Kd.R_mono (Kd.R_far (p := ⟨gb673, 2, none⟩) (Kd.R_far (p := ⟨gb673, 1, none⟩) (Kd.R_far (p := ⟨gb673, 0, none⟩) (Kd.R_types HO664.out BK673.out (by decide)) (fun _ hk => hk.2) (.slice Ao52 t668.length co52)) (fun _ hk => hk.2) (.int .i64 t671)) (fun _ hk => hk.2) (.bool t672)) (fun _ h_ => h_.1))) hb); have n3_ := Aside0.mk (Kd.R_below (by (with_reducible repeat (first | apply Kd.R_alloc | apply Kd.R_drewN | apply Kd.R_drew)); exact (Kd.R_mono (Kd.R_far (p := ⟨gb673, 2, none⟩) (Kd.R_far (p := ⟨gb673, 1, none⟩) (Kd.R_far (p := ⟨gb673, 0, none⟩) (Kd.R_types HO670.out BK673.out (by decide)) (fun _ hk => hk.2) (.slice Ao52 t668.length co52)) (fun _ hk => hk.2) (.int .i64 t671)) (fun _ hk => hk.2) (.bool t672)) (fun _ h_ => h_.1))) hb); have n4_ := Aside0.mk (blk_below (g := gb649) (o := .cells #[.slice A0_0 l0_0.length c0_0, .int .i64 a0_1, .bool a0_2] 24 (0, 0)) (by (with_reducible repeat (first | refine blk_drewN ?_ _ | refine blk_drew ?_ | refine blk_alloc ?_ _)); refine blk_far ?_ NB649_673.out _; (with_reducible repeat (first | refine blk_drewN ?_ _ | refine blk_drew ?_ | refine blk_alloc ?_ _)); refine blk_far ?_ NB649_673.out _; (with_reducible repeat (first | refine blk_drewN ?_ _ | refine blk_drew ?_ | refine blk_alloc ?_ _)); refine blk_far ?_ NB649_673.out _; (with_reducible repeat (first | refine blk_drewN ?_ _ | refine blk_drew ?_ | refine blk_alloc ?_ _)); exact BK649.out) hb); have n5_ := Aside0.mk (blk_below (g := gb661) (o := .cells #[.slice Ao40 t656.length co40, .int .i64 t659, .bool t660] 29 (0, 0)) (by (with_reducible repeat (first | refine blk_drewN ?_ _ | refine blk_drew ?_ | refine blk_alloc ?_ _)); refine blk_far ?_ NB661_673.out _; (with_reducible repeat (first | refine blk_drewN ?_ _ | refine blk_drew ?_ | refine blk_alloc ?_ _)); refine blk_far ?_ NB661_673.out _; (with_reducible repeat (first | refine blk_drewN ?_ _ | refine blk_drew ?_ | refine blk_alloc ?_ _)); refine blk_far ?_ NB661_673.out _; (with_reducible repeat (first | refine blk_drewN ?_ _ | refine blk_drew ?_ | refine blk_alloc ?_ _)); exact BK661.out) hb); have n6_ := Aside0.mk (blk_below (g := gb667) (o := .cells #[.slice Ao46 t662.length co46, .int .i64 t665, .bool t666] 29 (0, 0)) (by (with_reducible repeat (first | refine blk_drewN ?_ _ | refine blk_drew ?_ | refine blk_alloc ?_ _)); refine blk_far ?_ NB667_673.out _; (with_reducible repeat (first | refine blk_drewN ?_ _ | refine blk_drew ?_ | refine blk_alloc ?_ _)); refine blk_far ?_ NB667_673.out _; (with_reducible repeat (first | refine blk_drewN ?_ _ | refine blk_drew ?_ | refine blk_alloc ?_ _)); refine blk_far ?_ NB667_673.out _; (with_reducible repeat (first | refine blk_drewN ?_ _ | refine blk_drew ?_ | refine blk_alloc ?_ _)); exact BK667.out) hb); have n7_ := Aside0.mk (blk_below (g := gb673) (o := .cells #[.slice Ao52 t668.length co52, .int .i64 t671, .bool t672] 29 (0, 0)) (by (with_reducible repeat (first | refine blk_drewN ?_ _ | refine blk_drew ?_ | refine blk_alloc ?_ _)); refine blk_put (cs := #[.slice Ao52 t668.length co52, .int .i64 t671, .bool false]) ?_ 2 _ rfl; (with_reducible repeat (first | refine blk_drewN ?_ _ | refine blk_drew ?_ | refine blk_alloc ?_ _)); refine blk_put (cs := #[.slice Ao52 t668.length co52, .int .i64 0, .bool false]) ?_ 1 _ rfl; (with_reducible repeat (first | refine blk_drewN ?_ _ | refine blk_drew ?_ | refine blk_alloc ?_ _)); refine blk_put (cs := #[.slice none 0 0, .int .i64 0, .bool false]) ?_ 0 _ rfl; (with_reducible repeat (first | refine blk_drewN ?_ _ | refine blk_drew ?_ | refine blk_alloc ?_ _)); exact BK673.out) hb); have n8_ := Aside0.mk (below_step (by repeat (first | (with_reducible first | exact HB.out | apply below_alloc | apply pw_below_drewN | apply below_drew1 | refine below_set ?_ GE649.out | refine below_set ?_ GE661.out | refine below_set ?_ GE667.out | refine below_set ?_ GE673.out) | exact HB.out)) hb); clear HO653; clear HO658; clear HO664; clear HO670; clear BK649; clear BK661; clear BK667; clear BK673; clear HB; have HO653 := n0_; have HO658 := n1_; have HO664 := n2_; have HO670 := n3_; have BK649 := n4_; have BK661 := n5_; have BK667 := n6_; have BK673 := n7_; have HB := n8_; clear n0_ n1_ n2_ n3_ n4_ n5_ n6_ n7_ n8_; (try clear hb); (try clear hb2); (try clear hk); (try clear hi)))
                      have n0_ := Aside0.mk (Kd.R_drew HO653.out)
                      have n1_ := Aside0.mk (Kd.R_drew HO658.out)
                      have n2_ := Aside0.mk (Kd.R_drew HO664.out)
                      have n3_ := Aside0.mk (Kd.R_drew HO670.out)
                      have n4_ := Aside0.mk (blk_drew BK649.out)
                      have n5_ := Aside0.mk (blk_drew BK661.out)
                      have n6_ := Aside0.mk (blk_drew BK667.out)
                      have n7_ := Aside0.mk (blk_drew BK673.out)
                      have n8_ := Aside0.mk (below_drew1 HB.out)
                      clear HO653
                      clear HO658
                      clear HO664
                      clear HO670
                      clear BK649
                      clear BK661
                      clear BK667
                      clear BK673
                      clear HB
                      have HO653 := n0_
                      have HO658 := n1_
                      have HO664 := n2_
                      have HO670 := n3_
                      have BK649 := n4_
                      have BK661 := n5_
                      have BK667 := n6_
                      have BK673 := n7_
                      have HB := n8_
                      clear n0_ n1_ n2_ n3_ n4_ n5_ n6_ n7_ n8_
                      refine start_ (n := 5) (S := fun w' => w'.cell? ⟨gb667, 0, none⟩ = some (.slice Ao46 t662.length co46) ∧ w'.cell? ⟨gb667, 1, none⟩ = some (.int .i64 t665) ∧ w'.cell? ⟨gb667, 2, none⟩ = some (.bool t666) ∧ w'.cell? ⟨gb649, 0, none⟩ = some (.slice A0_0 l0_0.length c0_0) ∧ w'.cell? ⟨gb649, 1, none⟩ = some (.int .i64 a0_1) ∧ w'.cell? ⟨gb649, 2, none⟩ = some (.bool a0_2)) (ds := []) #[false, false, false, false, false] (by kernel_rfl) rfl rfl ⟨(blk_cell BK667.out 0).trans rfl, (blk_cell BK667.out 1).trans rfl, (blk_cell BK667.out 2).trans rfl, (blk_cell BK649.out 0).trans rfl, (blk_cell BK649.out 1).trans rfl, (blk_cell BK649.out 2).trans rfl⟩ (fun hHeld => ?_)
                      generalize w58.drew = w59 at HO653 HO658 HO664 HO670 BK649 BK661 BK667 BK673 HB hHeld ⊢
                      refine take_ (i := 0) (N := some 31) (v := ?_) (a' := ?_) #[true, false, false, false, false] rfl rfl (by kernel_rfl) (fun _ _ _ h => h) (Or.inl ⟨by rfl, ?_⟩) hHeld ?_ ?_
                      rotate_left
                      · rintro w' ⟨s0, s1, s2, s3, s4, s5⟩
                        go_simp
                        with_reducible rfl
                      rotate_left
                      · simp only [Act.put, List.setIfInBounds_toArray, List.set_cons_zero, List.set_cons_succ, i64_w, i32_w]
                        rfl
                      refine take_ (i := 1) (N := some 32) (v := ?_) (a' := ?_) #[true, true, false, false, false] rfl rfl (by kernel_rfl) (fun _ _ _ h => h) (Or.inl ⟨by rfl, ?_⟩) hHeld ?_ ?_
                      rotate_left
                      · rintro w' ⟨s0, s1, s2, s3, s4, s5⟩
                        go_simp
                        with_reducible rfl
                      rotate_left
                      · simp only [Act.put, List.setIfInBounds_toArray, List.set_cons_zero, List.set_cons_succ, i64_w, i32_w]
                        rfl
                      refine one_ (i := 2) (N := some 33) #[true, true, true, false, false] rfl rfl (by kernel_rfl) (by decide) (fun K hK => ?_)
                      refine goes_ Tryd.func18 (by kernel_rfl) rfl #[.agg #[.slice A0_0 l0_0.length c0_0, .int .i64 a0_1, .bool a0_2]] (by rfl) rfl rfl (by (try simp only [List.map_toArray, List.map_cons, List.map_nil]); first | done | rfl | (simp only [List.length_drop, List.length_take]; rfl)) ?_
                      with_reducible refine (laws_toServer.calls k _ _ l0_0 a0_1 a0_2 t675 t678 t679 _ ?side1 ?side2 A14.out).mono ?_
                      (case side1 => repeat (first | exact (Kd.C_below HR0_0.out HB.out) | (with_reducible refine Kd.C_alloc ?_ _) | (with_reducible refine Kd.C_drewN ?_ _) | (with_reducible refine Kd.C_drew ?_)))
                      (case side2 => exact HC0_0.out)
                      rintro e w60 ⟨v676, rfl, ho0, hb⟩
                      refine ⟨_, rfl, ?_⟩
                      have n0_ := Aside0.mk (Kd.R_elder' (by (with_reducible repeat (first | apply Kd.R_alloc | apply Kd.R_drewN | apply Kd.R_drew)); exact HO653.out) (Kd.R_base ho0) hb)
                      have n1_ := Aside0.mk (Kd.R_elder' (by (with_reducible repeat (first | apply Kd.R_alloc | apply Kd.R_drewN | apply Kd.R_drew)); exact HO658.out) (Kd.R_base ho0) hb)
                      have n2_ := Aside0.mk (Kd.R_elder' (by (with_reducible repeat (first | apply Kd.R_alloc | apply Kd.R_drewN | apply Kd.R_drew)); exact HO664.out) (Kd.R_base ho0) hb)
                      have n3_ := Aside0.mk (Kd.R_elder' (by (with_reducible repeat (first | apply Kd.R_alloc | apply Kd.R_drewN | apply Kd.R_drew)); exact HO670.out) (Kd.R_base ho0) hb)
                      have n4_ := Aside0.mk (Kd.R_lower (Kd.R_new' (Kd.R_new' (Kd.R_new' (Kd.R_new' ho0 (Kd.R_lt (by (with_reducible repeat (first | apply Kd.R_alloc | apply Kd.R_drewN | apply Kd.R_drew)); exact HO653.out))) (Kd.R_lt (by (with_reducible repeat (first | apply Kd.R_alloc | apply Kd.R_drewN | apply Kd.R_drew)); exact HO658.out))) (Kd.R_lt (by (with_reducible repeat (first | apply Kd.R_alloc | apply Kd.R_drewN | apply Kd.R_drew)); exact HO664.out))) (Kd.R_lt (by (with_reducible repeat (first | apply Kd.R_alloc | apply Kd.R_drewN | apply Kd.R_drew)); exact HO670.out))) (below_size (by repeat (first | (with_reducible first | exact HB.out | apply below_alloc | apply pw_below_drewN | apply below_drew1 | refine below_set ?_ GE649.out | refine below_set ?_ GE661.out | refine below_set ?_ GE667.out | refine below_set ?_ GE673.out) | exact HB.out))))
                      have n5_ := Aside0.mk (blk_below (g := gb649) (o := .cells #[.slice A0_0 l0_0.length c0_0, .int .i64 a0_1, .bool a0_2] 24 (0, 0)) (by (with_reducible repeat (first | refine blk_drewN ?_ _ | refine blk_drew ?_ | refine blk_alloc ?_ _)); exact BK649.out) hb)
                      have n6_ := Aside0.mk (blk_below (g := gb661) (o := .cells #[.slice Ao40 t656.length co40, .int .i64 t659, .bool t660] 29 (0, 0)) (by (with_reducible repeat (first | refine blk_drewN ?_ _ | refine blk_drew ?_ | refine blk_alloc ?_ _)); exact BK661.out) hb)
                      have n7_ := Aside0.mk (blk_below (g := gb667) (o := .cells #[.slice Ao46 t662.length co46, .int .i64 t665, .bool t666] 29 (0, 0)) (by (with_reducible repeat (first | refine blk_drewN ?_ _ | refine blk_drew ?_ | refine blk_alloc ?_ _)); exact BK667.out) hb)
                      have n8_ := Aside0.mk (blk_below (g := gb673) (o := .cells #[.slice Ao52 t668.length co52, .int .i64 t671, .bool t672] 29 (0, 0)) (by (with_reducible repeat (first | refine blk_drewN ?_ _ | refine blk_drew ?_ | refine blk_alloc ?_ _)); exact BK673.out) hb)
                      have n9_ := Aside0.mk (below_step (by repeat (first | (with_reducible first | exact HB.out | apply below_alloc | apply pw_below_drewN | apply below_drew1 | refine below_set ?_ GE649.out | refine below_set ?_ GE661.out | refine below_set ?_ GE667.out | refine below_set ?_ GE673.out) | exact HB.out)) hb)
                      clear HO653
                      clear HO658
                      clear HO664
                      clear HO670
                      clear BK649
                      clear BK661
                      clear BK667
                      clear BK673
                      clear HB
                      have HO653 := n0_
                      have HO658 := n1_
                      have HO664 := n2_
                      have HO670 := n3_
                      have HO677 := n4_
                      have BK649 := n5_
                      have BK661 := n6_
                      have BK667 := n7_
                      have BK673 := n8_
                      have HB := n9_
                      clear n0_ n1_ n2_ n3_ n4_ n5_ n6_ n7_ n8_ n9_
                      (try clear hb)
                      (try clear hb2)
                      (try clear hk)
                      (try clear hi)
                      (try clear ho0)
                      obtain ⟨Ao61, co61, eo61⟩ := Kd.R_slice HO677.out
                      (first | subst eo61 | (injection eo61 with f1_ f2_ f3_; have f4_ := f1_.symm; have f5_ := f3_.symm; clear f1_ f2_ f3_; subst f4_; subst f5_))
                      refine hK.out _ _ ⟨(blk_cell BK667.out 0).trans rfl, (blk_cell BK667.out 1).trans rfl, (blk_cell BK667.out 2).trans rfl, (blk_cell BK649.out 0).trans rfl, (blk_cell BK649.out 1).trans rfl, (blk_cell BK649.out 2).trans rfl⟩ (fun hHeld => ?_)
                      clear hK K
                      refine norm_ (a' := ?_) ?_ ?_
                      rotate_left
                      · show Act.put _ (some 33) _ = _
                        simp only [Act.put, List.setIfInBounds_toArray, List.set_cons_zero, List.set_cons_succ, i64_w, i32_w]
                        rfl
                      refine one_ (i := 3) (N := some 34) #[true, true, true, true, false] rfl rfl (by kernel_rfl) (by decide) (fun K hK => ?_)
                      refine goes_ Tryd.func21 (by kernel_rfl) rfl #[.agg #[.slice Ao46 t662.length co46, .int .i64 t665, .bool t666], .agg #[.slice Ao61 t675.length co61, .int .i64 t678, .bool t679]] (by rfl) rfl rfl (by (try simp only [List.map_toArray, List.map_cons, List.map_nil]); first | done | rfl | (simp only [List.length_drop, List.length_take]; rfl)) ?_
                      with_reducible refine (laws_eqServer.calls k _ _ t662 t665 t666 _ _ t675 t678 t679 true _ ?side1 ?side2 ?side3 ?side4 A15.out).mono ?_
                      (case side1 => repeat (first | exact (Kd.R_reads' HO664.out).2.2 | (with_reducible refine Kd.C_alloc ?_ _) | (with_reducible refine Kd.C_drewN ?_ _) | (with_reducible refine Kd.C_drew ?_)))
                      (case side2 => exact (Kd.R_reads' HO664.out).2.1)
                      (case side3 => repeat (first | exact (Kd.R_reads' HO677.out).2.2 | (with_reducible refine Kd.C_alloc ?_ _) | (with_reducible refine Kd.C_drewN ?_ _) | (with_reducible refine Kd.C_drew ?_)))
                      (case side4 => exact (Kd.R_reads' HO677.out).2.1)
                      rintro e w62 ⟨rfl, hb⟩
                      refine ⟨_, rfl, ?_⟩
                      have n0_ := Aside0.mk (Kd.R_below (by (with_reducible repeat (first | apply Kd.R_alloc | apply Kd.R_drewN | apply Kd.R_drew)); exact HO653.out) hb)
                      have n1_ := Aside0.mk (Kd.R_below (by (with_reducible repeat (first | apply Kd.R_alloc | apply Kd.R_drewN | apply Kd.R_drew)); exact HO658.out) hb)
                      have n2_ := Aside0.mk (Kd.R_below (by (with_reducible repeat (first | apply Kd.R_alloc | apply Kd.R_drewN | apply Kd.R_drew)); exact HO664.out) hb)
                      have n3_ := Aside0.mk (Kd.R_below (by (with_reducible repeat (first | apply Kd.R_alloc | apply Kd.R_drewN | apply Kd.R_drew)); exact HO670.out) hb)
                      have n4_ := Aside0.mk (Kd.R_below (by (with_reducible repeat (first | apply Kd.R_alloc | apply Kd.R_drewN | apply Kd.R_drew)); exact HO677.out) hb)
                      have n5_ := Aside0.mk (blk_below (g := gb649) (o := .cells #[.slice A0_0 l0_0.length c0_0, .int .i64 a0_1, .bool a0_2] 24 (0, 0)) (by (with_reducible repeat (first | refine blk_drewN ?_ _ | refine blk_drew ?_ | refine blk_alloc ?_ _)); exact BK649.out) hb)
                      have n6_ := Aside0.mk (blk_below (g := gb661) (o := .cells #[.slice Ao40 t656.length co40, .int .i64 t659, .bool t660] 29 (0, 0)) (by (with_reducible repeat (first | refine blk_drewN ?_ _ | refine blk_drew ?_ | refine blk_alloc ?_ _)); exact BK661.out) hb)
                      have n7_ := Aside0.mk (blk_below (g := gb667) (o := .cells #[.slice Ao46 t662.length co46, .int .i64 t665, .bool t666] 29 (0, 0)) (by (with_reducible repeat (first | refine blk_drewN ?_ _ | refine blk_drew ?_ | refine blk_alloc ?_ _)); exact BK667.out) hb)
                      have n8_ := Aside0.mk (blk_below (g := gb673) (o := .cells #[.slice Ao52 t668.length co52, .int .i64 t671, .bool t672] 29 (0, 0)) (by (with_reducible repeat (first | refine blk_drewN ?_ _ | refine blk_drew ?_ | refine blk_alloc ?_ _)); exact BK673.out) hb)
                      have n9_ := Aside0.mk (below_step (by repeat (first | (with_reducible first | exact HB.out | apply below_alloc | apply pw_below_drewN | apply below_drew1 | refine below_set ?_ GE649.out | refine below_set ?_ GE661.out | refine below_set ?_ GE667.out | refine below_set ?_ GE673.out) | exact HB.out)) hb)
                      clear HO653
                      clear HO658
                      clear HO664
                      clear HO670
                      clear HO677
                      clear BK649
                      clear BK661
                      clear BK667
                      clear BK673
                      clear HB
                      have HO653 := n0_
                      have HO658 := n1_
                      have HO664 := n2_
                      have HO670 := n3_
                      have HO677 := n4_
                      have BK649 := n5_
                      have BK661 := n6_
                      have BK667 := n7_
                      have BK673 := n8_
                      have HB := n9_
                      clear n0_ n1_ n2_ n3_ n4_ n5_ n6_ n7_ n8_ n9_
                      (try clear hb)
                      (try clear hb2)
                      (try clear hk)
                      (try clear hi)
                      refine hK.out _ _ ⟨(blk_cell BK667.out 0).trans rfl, (blk_cell BK667.out 1).trans rfl, (blk_cell BK667.out 2).trans rfl, (blk_cell BK649.out 0).trans rfl, (blk_cell BK649.out 1).trans rfl, (blk_cell BK649.out 2).trans rfl⟩ (fun hHeld => ?_)
                      clear hK K
                      refine norm_ (a' := ?_) ?_ ?_
                      rotate_left
                      · show Act.put _ (some 34) _ = _
                        simp only [Act.put, List.setIfInBounds_toArray, List.set_cons_zero, List.set_cons_succ, i64_w, i32_w]
                        rfl
                      refine pure_ (i := 4) (N := some 35) (v := ?_) (a' := ?_) #[true, true, true, true, true] rfl rfl (by kernel_rfl) (fun _ _ _ h => h) (Or.inl ⟨by rfl, ?_⟩) ?_ ?_
                      rotate_left
                      · intro w'
                        go_simp
                        with_reducible rfl
                      rotate_left
                      · simp only [Act.put, List.setIfInBounds_toArray, List.set_cons_zero, List.set_cons_succ, i64_w, i32_w]
                        rfl
                      refine done_ (by kernel_rfl) ?_
                      have hcz63_0 : w62.cell? ⟨gb667, 0, none⟩ = some (.slice Ao46 t662.length co46) := (blk_cell BK667.out 0).trans rfl
                      have hcz63_1 : w62.cell? ⟨gb667, 1, none⟩ = some (.int .i64 t665) := (blk_cell BK667.out 1).trans rfl
                      have hcz63_2 : w62.cell? ⟨gb667, 2, none⟩ = some (.bool t666) := (blk_cell BK667.out 2).trans rfl
                      have hfz63_0 := blk_frozen BK667.out 0
                      have hfz63_1 := blk_frozen BK667.out 1
                      have hfz63_2 := blk_frozen BK667.out 2
                      try go_wp2_with (first | ((with_reducible refine gate_callee (f := 22) rfl ?_); refine goesL_ (some 38) rfl rfl Tryd.func22 (by kernel_rfl) rfl #[.agg #[.slice Ao46 t662.length co46, .int .i64 t665, .bool t666], .int .i64 1] rfl (by (try simp only [List.map_toArray, List.map_cons, List.map_nil]); first | done | rfl | (simp only [List.length_drop, List.length_take]; rfl)) ?_; (with_reducible refine (laws_markServer.calls k (fun k_ => some k_ = (.slice Ao46 t662.length co46 : Value).ownBlock) (.slice Ao46 t662.length co46) t662 t665 t666 1 t681 t682 w _ ?side1 ?side2 A17.out).mono ?_); (case side1 => repeat (first | (with_reducible first | exact HB.out | apply below_alloc | apply pw_below_drewN | apply below_drew1 | refine below_set ?_ GE649.out | refine below_set ?_ GE661.out | refine below_set ?_ GE667.out | refine below_set ?_ GE673.out) | exact HB.out)); (case side2 => exact Kd.R_tight rfl HO664.out); rintro e w64 ⟨rfl, hy0, hb, hkp⟩; refine ⟨_, rfl, ?_⟩; have n0_ := Aside0.mk (blk_kept (by (with_reducible repeat (first | refine blk_drewN ?_ _ | refine blk_drew ?_ | refine blk_alloc ?_ _)); exact BK649.out) hkp (fun hs_ => (fun e_ => (Kd.R_ne HO664.out BK649.out (by decide)) e_) hs_)); have n1_ := Aside0.mk (Kd.R_mono (ok' := fun k_ => some k_ ≠ (.slice Ao40 t656.length co40 : Value).ownBlock ∧ some k_ ≠ (.slice Ao46 t662.length co46 : Value).ownBlock ∧ some k_ ≠ (.slice Ao52 t668.length co52 : Value).ownBlock ∧ some k_ ≠ (.slice Ao61 t675.length co61 : Value).ownBlock) (Kd.R_keptB (HO653.out) hkp (fun k_ hk_ hs_ => (hk_.1.1.2) hs_)) (fun k_ hk_ => ⟨hk_.1.1.1.1.2, hk_.1.1.1.2, hk_.1.1.2, hk_.1.2⟩)); have n2_ := Aside0.mk (Kd.R_mono (ok' := fun k_ => some k_ ≠ (.slice Ao37 t651.length co37 : Value).ownBlock ∧ some k_ ≠ (.slice Ao46 t662.length co46 : Value).ownBlock ∧ some k_ ≠ (.slice Ao52 t668.length co52 : Value).ownBlock ∧ some k_ ≠ (.slice Ao61 t675.length co61 : Value).ownBlock) (Kd.R_keptB (HO658.out) hkp (fun k_ hk_ hs_ => (hk_.1.1.2) hs_)) (fun k_ hk_ => ⟨hk_.1.1.1.1.2, hk_.1.1.1.2, hk_.1.1.2, hk_.1.2⟩)); have n3_ := Aside0.mk (blk_kept (by (with_reducible repeat (first | refine blk_drewN ?_ _ | refine blk_drew ?_ | refine blk_alloc ?_ _)); exact BK661.out) hkp (fun hs_ => (fun e_ => (Kd.R_ne HO664.out BK661.out (by decide)) e_) hs_)); have n4_ := Aside0.mk (Kd.R_reok rfl hy0 (fun k_ e_ => HO664.out.1 k_ e_)); have n5_ := Aside0.mk (blk_kept (by (with_reducible repeat (first | refine blk_drewN ?_ _ | refine blk_drew ?_ | refine blk_alloc ?_ _)); exact BK667.out) hkp (fun hs_ => (fun e_ => (Kd.R_ne HO664.out BK667.out (by decide)) e_) hs_)); have n6_ := Aside0.mk (Kd.R_mono (ok' := fun k_ => some k_ ≠ (.slice Ao37 t651.length co37 : Value).ownBlock ∧ some k_ ≠ (.slice Ao40 t656.length co40 : Value).ownBlock ∧ some k_ ≠ (.slice Ao46 t662.length co46 : Value).ownBlock ∧ some k_ ≠ (.slice Ao61 t675.length co61 : Value).ownBlock) (Kd.R_keptB (HO670.out) hkp (fun k_ hk_ hs_ => (hk_.1.2) hs_)) (fun k_ hk_ => ⟨hk_.1.1.1.1.2, hk_.1.1.1.2, hk_.1.1.2, hk_.1.2⟩)); have n7_ := Aside0.mk (blk_kept (by (with_reducible repeat (first | refine blk_drewN ?_ _ | refine blk_drew ?_ | refine blk_alloc ?_ _)); exact BK673.out) hkp (fun hs_ => (fun e_ => (Kd.R_ne HO664.out BK673.out (by decide)) e_) hs_)); have n8_ := Aside0.mk (Kd.R_mono (ok' := fun k_ => some k_ ≠ (.slice Ao37 t651.length co37 : Value).ownBlock ∧ some k_ ≠ (.slice Ao40 t656.length co40 : Value).ownBlock ∧ some k_ ≠ (.slice Ao46 t662.length co46 : Value).ownBlock ∧ some k_ ≠ (.slice Ao52 t668.length co52 : Value).ownBlock) (Kd.R_keptB (HO677.out) hkp (fun k_ hk_ hs_ => (hk_.1.2) hs_)) (fun k_ hk_ => ⟨hk_.1.1.1.1.2, hk_.1.1.1.2, hk_.1.1.2, hk_.1.2⟩)); have n9_ := Aside0.mk (hb); clear BK649; clear HO653; clear HO658; clear BK661; clear HO664; clear BK667; clear HO670; clear BK673; clear HO677; clear HB; have BK649 := n0_; have HO653 := n1_; have HO658 := n2_; have BK661 := n3_; have HO664 := n4_; have BK667 := n5_; have HO670 := n6_; have BK673 := n7_; have HO677 := n8_; have HB := n9_; clear n0_ n1_ n2_ n3_ n4_ n5_ n6_ n7_ n8_ n9_; (try clear hb); (try clear hkp); (try clear hy0); have hcz65_0 : w64.cell? ⟨gb673, 0, none⟩ = some (.slice Ao52 t668.length co52) := (blk_cell BK673.out 0).trans rfl; have hcz65_1 : w64.cell? ⟨gb673, 1, none⟩ = some (.int .i64 t671) := (blk_cell BK673.out 1).trans rfl; have hcz65_2 : w64.cell? ⟨gb673, 2, none⟩ = some (.bool t672) := (blk_cell BK673.out 2).trans rfl; have hfz65_0 := blk_frozen BK673.out 0; have hfz65_1 := blk_frozen BK673.out 1; have hfz65_2 := blk_frozen BK673.out 2; have hcz66_0 : w64.cell? ⟨gb661, 0, none⟩ = some (.slice Ao40 t656.length co40) := (blk_cell BK661.out 0).trans rfl; have hcz66_1 : w64.cell? ⟨gb661, 1, none⟩ = some (.int .i64 t659) := (blk_cell BK661.out 1).trans rfl; have hcz66_2 : w64.cell? ⟨gb661, 2, none⟩ = some (.bool t660) := (blk_cell BK661.out 2).trans rfl; have hfz66_0 := blk_frozen BK661.out 0; have hfz66_1 := blk_frozen BK661.out 1; have hfz66_2 := blk_frozen BK661.out 2) | (go_at_call 21; (with_reducible refine (laws_eqServer.calls k _ _ t668 t671 t672 _ _ t656 t659 t660 true _ ?side1 ?side2 ?side3 ?side4 A19.out).mono ?_); (case side1 => repeat (first | exact (Kd.R_reads' HO670.out).2.2 | (with_reducible refine Kd.C_alloc ?_ _) | (with_reducible refine Kd.C_drewN ?_ _) | (with_reducible refine Kd.C_drew ?_))); (case side2 => exact (Kd.R_reads' HO670.out).2.1); (case side3 => repeat (first | exact (Kd.R_reads' HO658.out).2.2 | (with_reducible refine Kd.C_alloc ?_ _) | (with_reducible refine Kd.C_drewN ?_ _) | (with_reducible refine Kd.C_drew ?_))); (case side4 => exact (Kd.R_reads' HO658.out).2.1); rintro e w67 ⟨rfl, hb⟩; have n0_ := Aside0.mk (Kd.R_below (by (with_reducible repeat (first | apply Kd.R_alloc | apply Kd.R_drewN | apply Kd.R_drew)); exact HO653.out) hb); have n1_ := Aside0.mk (Kd.R_below (by (with_reducible repeat (first | apply Kd.R_alloc | apply Kd.R_drewN | apply Kd.R_drew)); exact HO658.out) hb); have n2_ := Aside0.mk (Kd.R_below (by (with_reducible repeat (first | apply Kd.R_alloc | apply Kd.R_drewN | apply Kd.R_drew)); exact HO664.out) hb); have n3_ := Aside0.mk (Kd.R_below (by (with_reducible repeat (first | apply Kd.R_alloc | apply Kd.R_drewN | apply Kd.R_drew)); exact HO670.out) hb); have n4_ := Aside0.mk (Kd.R_below (by (with_reducible repeat (first | apply Kd.R_alloc | apply Kd.R_drewN | apply Kd.R_drew)); exact HO677.out) hb); have n5_ := Aside0.mk (blk_below (g := gb649) (o := .cells #[.slice A0_0 l0_0.length c0_0, .int .i64 a0_1, .bool a0_2] 24 (0, 0)) (by (with_reducible repeat (first | refine blk_drewN ?_ _ | refine blk_drew ?_ | refine blk_alloc ?_ _)); exact BK649.out) hb); have n6_ := Aside0.mk (blk_below (g := gb661) (o := .cells #[.slice Ao40 t656.length co40, .int .i64 t659, .bool t660] 29 (0, 0)) (by (with_reducible repeat (first | refine blk_drewN ?_ _ | refine blk_drew ?_ | refine blk_alloc ?_ _)); exact BK661.out) hb); have n7_ := Aside0.mk (blk_below (g := gb667) (o := .cells #[.slice Ao46 t662.length co46, .int .i64 t665, .bool t666] 29 (0, 0)) (by (with_reducible repeat (first | refine blk_drewN ?_ _ | refine blk_drew ?_ | refine blk_alloc ?_ _)); exact BK667.out) hb); have n8_ := Aside0.mk (blk_below (g := gb673) (o := .cells #[.slice Ao52 t668.length co52, .int .i64 t671, .bool t672] 29 (0, 0)) (by (with_reducible repeat (first | refine blk_drewN ?_ _ | refine blk_drew ?_ | refine blk_alloc ?_ _)); exact BK673.out) hb); have n9_ := Aside0.mk (below_step (by repeat (first | (with_reducible first | exact HB.out | apply below_alloc | apply pw_below_drewN | apply below_drew1 | refine below_set ?_ GE649.out | refine below_set ?_ GE661.out | refine below_set ?_ GE667.out | refine below_set ?_ GE673.out) | exact HB.out)) hb); clear HO653; clear HO658; clear HO664; clear HO670; clear HO677; clear BK649; clear BK661; clear BK667; clear BK673; clear HB; have HO653 := n0_; have HO658 := n1_; have HO664 := n2_; have HO670 := n3_; have HO677 := n4_; have BK649 := n5_; have BK661 := n6_; have BK667 := n7_; have BK673 := n8_; have HB := n9_; clear n0_ n1_ n2_ n3_ n4_ n5_ n6_ n7_ n8_ n9_; (try clear hb); (try clear hb2); (try clear hk); (try clear hi); have hcz68_0 : w67.cell? ⟨gb673, 0, none⟩ = some (.slice Ao52 t668.length co52) := (blk_cell BK673.out 0).trans rfl; have hcz68_1 : w67.cell? ⟨gb673, 1, none⟩ = some (.int .i64 t671) := (blk_cell BK673.out 1).trans rfl; have hcz68_2 : w67.cell? ⟨gb673, 2, none⟩ = some (.bool t672) := (blk_cell BK673.out 2).trans rfl; have hfz68_0 := blk_frozen BK673.out 0; have hfz68_1 := blk_frozen BK673.out 1; have hfz68_2 := blk_frozen BK673.out 2) | ((with_reducible refine gate_callee (f := 22) rfl ?_); refine goesL_ (some 49) rfl rfl Tryd.func22 (by kernel_rfl) rfl #[.agg #[.slice Ao52 t668.length co52, .int .i64 t671, .bool t672], .int .i64 1] rfl (by (try simp only [List.map_toArray, List.map_cons, List.map_nil]); first | done | rfl | (simp only [List.length_drop, List.length_take]; rfl)) ?_; (with_reducible refine (laws_markServer.calls k (fun k_ => some k_ = (.slice Ao52 t668.length co52 : Value).ownBlock) (.slice Ao52 t668.length co52) t668 t671 t672 1 t684 t685 w _ ?side1 ?side2 A21.out).mono ?_); (case side1 => repeat (first | (with_reducible first | exact HB.out | apply below_alloc | apply pw_below_drewN | apply below_drew1 | refine below_set ?_ GE649.out | refine below_set ?_ GE661.out | refine below_set ?_ GE667.out | refine below_set ?_ GE673.out) | exact HB.out)); (case side2 => exact Kd.R_tight rfl HO670.out); rintro e w69 ⟨rfl, hy0, hb, hkp⟩; refine ⟨_, rfl, ?_⟩; have n0_ := Aside0.mk (blk_kept (by (with_reducible repeat (first | refine blk_drewN ?_ _ | refine blk_drew ?_ | refine blk_alloc ?_ _)); exact BK649.out) hkp (fun hs_ => (fun e_ => (Kd.R_ne HO670.out BK649.out (by decide)) e_) hs_)); have n1_ := Aside0.mk (Kd.R_mono (ok' := fun k_ => some k_ ≠ (.slice Ao40 t656.length co40 : Value).ownBlock ∧ some k_ ≠ (.slice Ao46 t662.length co46 : Value).ownBlock ∧ some k_ ≠ (.slice Ao52 t668.length co52 : Value).ownBlock ∧ some k_ ≠ (.slice Ao61 t675.length co61 : Value).ownBlock) (Kd.R_keptB (HO653.out) hkp (fun k_ hk_ hs_ => (hk_.2.2.1) hs_)) (fun k_ hk_ => ⟨hk_.1.1, hk_.1.2.1, hk_.1.2.2.1, hk_.1.2.2.2⟩)); have n2_ := Aside0.mk (Kd.R_mono (ok' := fun k_ => some k_ ≠ (.slice Ao37 t651.length co37 : Value).ownBlock ∧ some k_ ≠ (.slice Ao46 t662.length co46 : Value).ownBlock ∧ some k_ ≠ (.slice Ao52 t668.length co52 : Value).ownBlock ∧ some k_ ≠ (.slice Ao61 t675.length co61 : Value).ownBlock) (Kd.R_keptB (HO658.out) hkp (fun k_ hk_ hs_ => (hk_.2.2.1) hs_)) (fun k_ hk_ => ⟨hk_.1.1, hk_.1.2.1, hk_.1.2.2.1, hk_.1.2.2.2⟩)); have n3_ := Aside0.mk (blk_kept (by (with_reducible repeat (first | refine blk_drewN ?_ _ | refine blk_drew ?_ | refine blk_alloc ?_ _)); exact BK661.out) hkp (fun hs_ => (fun e_ => (Kd.R_ne HO670.out BK661.out (by decide)) e_) hs_)); have n4_ := Aside0.mk (Kd.R_mono (ok' := fun k_ => some k_ ≠ (.slice Ao37 t651.length co37 : Value).ownBlock ∧ some k_ ≠ (.slice Ao40 t656.length co40 : Value).ownBlock ∧ some k_ ≠ (.slice Ao52 t668.length co52 : Value).ownBlock ∧ some k_ ≠ (.slice Ao61 t675.length co61 : Value).ownBlock) (Kd.R_keptB (HO664.out) hkp (fun k_ hk_ hs_ => (hk_.1.2) hs_)) (fun k_ hk_ => ⟨hk_.1.1.1.1.2, hk_.1.1.1.2, hk_.1.1.2, hk_.1.2⟩)); have n5_ := Aside0.mk (blk_kept (by (with_reducible repeat (first | refine blk_drewN ?_ _ | refine blk_drew ?_ | refine blk_alloc ?_ _)); exact BK667.out) hkp (fun hs_ => (fun e_ => (Kd.R_ne HO670.out BK667.out (by decide)) e_) hs_)); have n6_ := Aside0.mk (Kd.R_reok rfl hy0 (fun k_ e_ => HO670.out.1 k_ e_)); have n7_ := Aside0.mk (blk_kept (by (with_reducible repeat (first | refine blk_drewN ?_ _ | refine blk_drew ?_ | refine blk_alloc ?_ _)); exact BK673.out) hkp (fun hs_ => (fun e_ => (Kd.R_ne HO670.out BK673.out (by decide)) e_) hs_)); have n8_ := Aside0.mk (Kd.R_mono (ok' := fun k_ => some k_ ≠ (.slice Ao37 t651.length co37 : Value).ownBlock ∧ some k_ ≠ (.slice Ao40 t656.length co40 : Value).ownBlock ∧ some k_ ≠ (.slice Ao46 t662.length co46 : Value).ownBlock ∧ some k_ ≠ (.slice Ao52 t668.length co52 : Value).ownBlock) (Kd.R_keptB (HO677.out) hkp (fun k_ hk_ hs_ => (hk_.2.2.2) hs_)) (fun k_ hk_ => ⟨hk_.1.1, hk_.1.2.1, hk_.1.2.2.1, hk_.1.2.2.2⟩)); have n9_ := Aside0.mk (hb); clear BK649; clear HO653; clear HO658; clear BK661; clear HO664; clear BK667; clear HO670; clear BK673; clear HO677; clear HB; have BK649 := n0_; have HO653 := n1_; have HO658 := n2_; have BK661 := n3_; have HO664 := n4_; have BK667 := n5_; have HO670 := n6_; have BK673 := n7_; have HO677 := n8_; have HB := n9_; clear n0_ n1_ n2_ n3_ n4_ n5_ n6_ n7_ n8_ n9_; (try clear hb); (try clear hkp); (try clear hy0); have hcz70_0 : w69.cell? ⟨gb673, 0, none⟩ = some (.slice Ao52 t668.length co52) := (blk_cell BK673.out 0).trans rfl; have hcz70_1 : w69.cell? ⟨gb673, 1, none⟩ = some (.int .i64 t671) := (blk_cell BK673.out 1).trans rfl; have hcz70_2 : w69.cell? ⟨gb673, 2, none⟩ = some (.bool t672) := (blk_cell BK673.out 2).trans rfl; have hfz70_0 := blk_frozen BK673.out 0; have hfz70_1 := blk_frozen BK673.out 1; have hfz70_2 := blk_frozen BK673.out 2) | ((with_reducible refine gate_callee (f := 31) rfl ?_); refine goesL_ (some 52) rfl rfl Tryd.func31 (by kernel_rfl) rfl #[.agg #[.slice Ao52 t685.length co52, .int .i64 t671, .bool t672], .int .i64 1] rfl (by (try simp only [List.map_toArray, List.map_cons, List.map_nil]); first | done | (rw [show t685.length = t668.length from (Kd.R_reads' HO670.out).1.symm] <;> rfl) | rfl | (simp only [List.length_drop, List.length_take]; rfl)) ?_; (with_reducible refine (laws_heldServer.calls k _ _ t685 t671 t672 1 t686 _ ?side1 ?side2 A22.out).mono ?_); (case side1 => repeat (first | exact (Kd.R_reads' HO670.out).2.2 | (with_reducible refine Kd.C_alloc ?_ _) | (with_reducible refine Kd.C_drewN ?_ _) | (with_reducible refine Kd.C_drew ?_))); (case side2 => rw [show t685.length = t668.length from (Kd.R_reads' HO670.out).1.symm]; exact (Kd.R_reads' HO670.out).2.1); rintro e w71 ⟨rfl, hb⟩; refine ⟨_, rfl, ?_⟩; have n0_ := Aside0.mk (Kd.R_below (by (with_reducible repeat (first | apply Kd.R_alloc | apply Kd.R_drewN | apply Kd.R_drew)); exact HO653.out) hb); have n1_ := Aside0.mk (Kd.R_below (by (with_reducible repeat (first | apply Kd.R_alloc | apply Kd.R_drewN | apply Kd.R_drew)); exact HO658.out) hb); have n2_ := Aside0.mk (Kd.R_below (by (with_reducible repeat (first | apply Kd.R_alloc | apply Kd.R_drewN | apply Kd.R_drew)); exact HO664.out) hb); have n3_ := Aside0.mk (Kd.R_below (by (with_reducible repeat (first | apply Kd.R_alloc | apply Kd.R_drewN | apply Kd.R_drew)); exact HO670.out) hb); have n4_ := Aside0.mk (Kd.R_below (by (with_reducible repeat (first | apply Kd.R_alloc | apply Kd.R_drewN | apply Kd.R_drew)); exact HO677.out) hb); have n5_ := Aside0.mk (blk_below (g := gb649) (o := .cells #[.slice A0_0 l0_0.length c0_0, .int .i64 a0_1, .bool a0_2] 24 (0, 0)) (by (with_reducible repeat (first | refine blk_drewN ?_ _ | refine blk_drew ?_ | refine blk_alloc ?_ _)); exact BK649.out) hb); have n6_ := Aside0.mk (blk_below (g := gb661) (o := .cells #[.slice Ao40 t656.length co40, .int .i64 t659, .bool t660] 29 (0, 0)) (by (with_reducible repeat (first | refine blk_drewN ?_ _ | refine blk_drew ?_ | refine blk_alloc ?_ _)); exact BK661.out) hb); have n7_ := Aside0.mk (blk_below (g := gb667) (o := .cells #[.slice Ao46 t662.length co46, .int .i64 t665, .bool t666] 29 (0, 0)) (by (with_reducible repeat (first | refine blk_drewN ?_ _ | refine blk_drew ?_ | refine blk_alloc ?_ _)); exact BK667.out) hb); have n8_ := Aside0.mk (blk_below (g := gb673) (o := .cells #[.slice Ao52 t668.length co52, .int .i64 t671, .bool t672] 29 (0, 0)) (by (with_reducible repeat (first | refine blk_drewN ?_ _ | refine blk_drew ?_ | refine blk_alloc ?_ _)); exact BK673.out) hb); have n9_ := Aside0.mk (below_step (by repeat (first | (with_reducible first | exact HB.out | apply below_alloc | apply pw_below_drewN | apply below_drew1 | refine below_set ?_ GE649.out | refine below_set ?_ GE661.out | refine below_set ?_ GE667.out | refine below_set ?_ GE673.out) | exact HB.out)) hb); clear HO653; clear HO658; clear HO664; clear HO670; clear HO677; clear BK649; clear BK661; clear BK667; clear BK673; clear HB; have HO653 := n0_; have HO658 := n1_; have HO664 := n2_; have HO670 := n3_; have HO677 := n4_; have BK649 := n5_; have BK661 := n6_; have BK667 := n7_; have BK673 := n8_; have HB := n9_; clear n0_ n1_ n2_ n3_ n4_ n5_ n6_ n7_ n8_ n9_; (try clear hb); (try clear hb2); (try clear hk); (try clear hi); have hcz72_0 : w71.cell? ⟨gb649, 0, none⟩ = some (.slice A0_0 l0_0.length c0_0) := (blk_cell BK649.out 0).trans rfl; have hcz72_1 : w71.cell? ⟨gb649, 1, none⟩ = some (.int .i64 a0_1) := (blk_cell BK649.out 1).trans rfl; have hcz72_2 : w71.cell? ⟨gb649, 2, none⟩ = some (.bool a0_2) := (blk_cell BK649.out 2).trans rfl; have hfz72_0 := blk_frozen BK649.out 0; have hfz72_1 := blk_frozen BK649.out 1; have hfz72_2 := blk_frozen BK649.out 2) | ((with_reducible refine gate_callee (f := 18) rfl ?_); refine goesL_ (some 59) rfl rfl Tryd.func18 (by kernel_rfl) rfl #[.agg #[.slice A0_0 l0_0.length c0_0, .int .i64 a0_1, .bool a0_2]] rfl (by (try simp only [List.map_toArray, List.map_cons, List.map_nil]); first | done | rfl | (simp only [List.length_drop, List.length_take]; rfl)) ?_; (with_reducible refine (laws_toServer.calls k _ _ l0_0 a0_1 a0_2 t687 t690 t691 _ ?side1 ?side2 A25.out).mono ?_); (case side1 => repeat (first | exact (Kd.C_below HR0_0.out HB.out) | (with_reducible refine Kd.C_alloc ?_ _) | (with_reducible refine Kd.C_drewN ?_ _) | (with_reducible refine Kd.C_drew ?_))); (case side2 => exact HC0_0.out); rintro e w73 ⟨v688, rfl, ho0, hb⟩; refine ⟨_, rfl, ?_⟩; have n0_ := Aside0.mk (Kd.R_elder' (by (with_reducible repeat (first | apply Kd.R_alloc | apply Kd.R_drewN | apply Kd.R_drew)); exact HO653.out) (Kd.R_base ho0) hb); have n1_ := Aside0.mk (Kd.R_elder' (by (with_reducible repeat (first | apply Kd.R_alloc | apply Kd.R_drewN | apply Kd.R_drew)); exact HO658.out) (Kd.R_base ho0) hb); have n2_ := Aside0.mk (Kd.R_elder' (by (with_reducible repeat (first | apply Kd.R_alloc | apply Kd.R_drewN | apply Kd.R_drew)); exact HO664.out) (Kd.R_base ho0) hb); have n3_ := Aside0.mk (Kd.R_elder' (by (with_reducible repeat (first | apply Kd.R_alloc | apply Kd.R_drewN | apply Kd.R_drew)); exact HO670.out) (Kd.R_base ho0) hb); have n4_ := Aside0.mk (Kd.R_elder' (by (with_reducible repeat (first | apply Kd.R_alloc | apply Kd.R_drewN | apply Kd.R_drew)); exact HO677.out) (Kd.R_base ho0) hb); have n5_ := Aside0.mk (Kd.R_lower (Kd.R_new' (Kd.R_new' (Kd.R_new' (Kd.R_new' (Kd.R_new' ho0 (Kd.R_lt (by (with_reducible repeat (first | apply Kd.R_alloc | apply Kd.R_drewN | apply Kd.R_drew)); exact HO653.out))) (Kd.R_lt (by (with_reducible repeat (first | apply Kd.R_alloc | apply Kd.R_drewN | apply Kd.R_drew)); exact HO658.out))) (Kd.R_lt (by (with_reducible repeat (first | apply Kd.R_alloc | apply Kd.R_drewN | apply Kd.R_drew)); exact HO664.out))) (Kd.R_lt (by (with_reducible repeat (first | apply Kd.R_alloc | apply Kd.R_drewN | apply Kd.R_drew)); exact HO670.out))) (Kd.R_lt (by (with_reducible repeat (first | apply Kd.R_alloc | apply Kd.R_drewN | apply Kd.R_drew)); exact HO677.out))) (below_size (by repeat (first | (with_reducible first | exact HB.out | apply below_alloc | apply pw_below_drewN | apply below_drew1 | refine below_set ?_ GE649.out | refine below_set ?_ GE661.out | refine below_set ?_ GE667.out | refine below_set ?_ GE673.out) | exact HB.out)))); have n6_ := Aside0.mk (blk_below (g := gb649) (o := .cells #[.slice A0_0 l0_0.length c0_0, .int .i64 a0_1, .bool a0_2] 24 (0, 0)) (by (with_reducible repeat (first | refine blk_drewN ?_ _ | refine blk_drew ?_ | refine blk_alloc ?_ _)); exact BK649.out) hb); have n7_ := Aside0.mk (blk_below (g := gb661) (o := .cells #[.slice Ao40 t656.length co40, .int .i64 t659, .bool t660] 29 (0, 0)) (by (with_reducible repeat (first | refine blk_drewN ?_ _ | refine blk_drew ?_ | refine blk_alloc ?_ _)); exact BK661.out) hb); have n8_ := Aside0.mk (blk_below (g := gb667) (o := .cells #[.slice Ao46 t662.length co46, .int .i64 t665, .bool t666] 29 (0, 0)) (by (with_reducible repeat (first | refine blk_drewN ?_ _ | refine blk_drew ?_ | refine blk_alloc ?_ _)); exact BK667.out) hb); have n9_ := Aside0.mk (blk_below (g := gb673) (o := .cells #[.slice Ao52 t668.length co52, .int .i64 t671, .bool t672] 29 (0, 0)) (by (with_reducible repeat (first | refine blk_drewN ?_ _ | refine blk_drew ?_ | refine blk_alloc ?_ _)); exact BK673.out) hb); have n10_ := Aside0.mk (below_step (by repeat (first | (with_reducible first | exact HB.out | apply below_alloc | apply pw_below_drewN | apply below_drew1 | refine below_set ?_ GE649.out | refine below_set ?_ GE661.out | refine below_set ?_ GE667.out | refine below_set ?_ GE673.out) | exact HB.out)) hb); clear HO653; clear HO658; clear HO664; clear HO670; clear HO677; clear BK649; clear BK661; clear BK667; clear BK673; clear HB; have HO653 := n0_; have HO658 := n1_; have HO664 := n2_; have HO670 := n3_; have HO677 := n4_; have HO689 := n5_; have BK649 := n6_; have BK661 := n7_; have BK667 := n8_; have BK673 := n9_; have HB := n10_; clear n0_ n1_ n2_ n3_ n4_ n5_ n6_ n7_ n8_ n9_ n10_; (try clear hb); (try clear hb2); (try clear hk); (try clear hi); (try clear ho0); obtain ⟨Ao74, co74, eo74⟩ := Kd.R_slice HO689.out; subst eo74) | ((with_reducible refine gate_callee (f := 30) rfl ?_); refine goesL_ (some 61) rfl rfl Tryd.func30 (by kernel_rfl) rfl #[.agg #[.slice Ao74 t687.length co74, .int .i64 t690, .bool t691], .int .i64 a1] rfl (by (try simp only [List.map_toArray, List.map_cons, List.map_nil]); first | done | rfl | (simp only [List.length_drop, List.length_take]; rfl)) ?_; (with_reducible refine (impl_ServerFall.calls k _ _ t687 t690 t691 a1 t692 t695 t696 _ ?side1 ?side2 A26.out ?side3).mono ?_); (case side1 => repeat (first | exact (Kd.R_reads' HO689.out).2.2 | (with_reducible refine Kd.C_alloc ?_ _) | (with_reducible refine Kd.C_drewN ?_ _) | (with_reducible refine Kd.C_drew ?_))); (case side2 => exact (Kd.R_reads' HO689.out).2.1); (case side3 => exact Glob.below HG.out (by repeat (first | (with_reducible first | exact HB.out | apply below_alloc | apply pw_below_drewN | apply below_drew1 | refine below_set ?_ GE649.out | refine below_set ?_ GE661.out | refine below_set ?_ GE667.out | refine below_set ?_ GE673.out) | exact HB.out))); rintro e w75 ⟨v693, rfl, ho0, hb⟩; refine ⟨_, rfl, ?_⟩; have n0_ := Aside0.mk (Kd.R_elder' (by (with_reducible repeat (first | apply Kd.R_alloc | apply Kd.R_drewN | apply Kd.R_drew)); exact HO653.out) (Kd.R_base ho0) hb); have n1_ := Aside0.mk (Kd.R_elder' (by (with_reducible repeat (first | apply Kd.R_alloc | apply Kd.R_drewN | apply Kd.R_drew)); exact HO658.out) (Kd.R_base ho0) hb); have n2_ := Aside0.mk (Kd.R_elder' (by (with_reducible repeat (first | apply Kd.R_alloc | apply Kd.R_drewN | apply Kd.R_drew)); exact HO664.out) (Kd.R_base ho0) hb); have n3_ := Aside0.mk (Kd.R_elder' (by (with_reducible repeat (first | apply Kd.R_alloc | apply Kd.R_drewN | apply Kd.R_drew)); exact HO670.out) (Kd.R_base ho0) hb); have n4_ := Aside0.mk (Kd.R_elder' (by (with_reducible repeat (first | apply Kd.R_alloc | apply Kd.R_drewN | apply Kd.R_drew)); exact HO677.out) (Kd.R_base ho0) hb); have n5_ := Aside0.mk (Kd.R_elder' (by (with_reducible repeat (first | apply Kd.R_alloc | apply Kd.R_drewN | apply Kd.R_drew)); exact HO689.out) (Kd.R_base ho0) hb); have n6_ := Aside0.mk (Kd.R_lower (Kd.R_new' (Kd.R_new' (Kd.R_new' (Kd.R_new' (Kd.R_new' (Kd.R_new' ho0 (Kd.R_lt (by (with_reducible repeat (first | apply Kd.R_alloc | apply Kd.R_drewN | apply Kd.R_drew)); exact HO653.out))) (Kd.R_lt (by (with_reducible repeat (first | apply Kd.R_alloc | apply Kd.R_drewN | apply Kd.R_drew)); exact HO658.out))) (Kd.R_lt (by (with_reducible repeat (first | apply Kd.R_alloc | apply Kd.R_drewN | apply Kd.R_drew)); exact HO664.out))) (Kd.R_lt (by (with_reducible repeat (first | apply Kd.R_alloc | apply Kd.R_drewN | apply Kd.R_drew)); exact HO670.out))) (Kd.R_lt (by (with_reducible repeat (first | apply Kd.R_alloc | apply Kd.R_drewN | apply Kd.R_drew)); exact HO677.out))) (Kd.R_lt (by (with_reducible repeat (first | apply Kd.R_alloc | apply Kd.R_drewN | apply Kd.R_drew)); exact HO689.out))) (below_size (by repeat (first | (with_reducible first | exact HB.out | apply below_alloc | apply pw_below_drewN | apply below_drew1 | refine below_set ?_ GE649.out | refine below_set ?_ GE661.out | refine below_set ?_ GE667.out | refine below_set ?_ GE673.out) | exact HB.out)))); have n7_ := Aside0.mk (blk_below (g := gb649) (o := .cells #[.slice A0_0 l0_0.length c0_0, .int .i64 a0_1, .bool a0_2] 24 (0, 0)) (by (with_reducible repeat (first | refine blk_drewN ?_ _ | refine blk_drew ?_ | refine blk_alloc ?_ _)); exact BK649.out) hb); have n8_ := Aside0.mk (blk_below (g := gb661) (o := .cells #[.slice Ao40 t656.length co40, .int .i64 t659, .bool t660] 29 (0, 0)) (by (with_reducible repeat (first | refine blk_drewN ?_ _ | refine blk_drew ?_ | refine blk_alloc ?_ _)); exact BK661.out) hb); have n9_ := Aside0.mk (blk_below (g := gb667) (o := .cells #[.slice Ao46 t662.length co46, .int .i64 t665, .bool t666] 29 (0, 0)) (by (with_reducible repeat (first | refine blk_drewN ?_ _ | refine blk_drew ?_ | refine blk_alloc ?_ _)); exact BK667.out) hb); have n10_ := Aside0.mk (blk_below (g := gb673) (o := .cells #[.slice Ao52 t668.length co52, .int .i64 t671, .bool t672] 29 (0, 0)) (by (with_reducible repeat (first | refine blk_drewN ?_ _ | refine blk_drew ?_ | refine blk_alloc ?_ _)); exact BK673.out) hb); have n11_ := Aside0.mk (below_step (by repeat (first | (with_reducible first | exact HB.out | apply below_alloc | apply pw_below_drewN | apply below_drew1 | refine below_set ?_ GE649.out | refine below_set ?_ GE661.out | refine below_set ?_ GE667.out | refine below_set ?_ GE673.out) | exact HB.out)) hb); clear HO653; clear HO658; clear HO664; clear HO670; clear HO677; clear HO689; clear BK649; clear BK661; clear BK667; clear BK673; clear HB; have HO653 := n0_; have HO658 := n1_; have HO664 := n2_; have HO670 := n3_; have HO677 := n4_; have HO689 := n5_; have HO694 := n6_; have BK649 := n7_; have BK661 := n8_; have BK667 := n9_; have BK673 := n10_; have HB := n11_; clear n0_ n1_ n2_ n3_ n4_ n5_ n6_ n7_ n8_ n9_ n10_ n11_; (try clear hb); (try clear hb2); (try clear hk); (try clear hi); (try clear ho0)) | ((with_reducible refine gate_dst (N := 12) rfl ?_); refine box_event ?hg (N := 12) ?hd (cs := #[.slice none 0 0, .int .i64 0, .bool false]) (t := 29) ?hr ?_; (case hd => rfl); (case hg => rfl); (case hr => first | (go_simp; done) | (go_simp; rfl)); intro gb697 hg w76 hbox hb; have n0_ := Aside0.mk (Kd.R_below (by (with_reducible repeat (first | apply Kd.R_alloc | apply Kd.R_drewN | apply Kd.R_drew)); exact HO653.out) hb); have n1_ := Aside0.mk (Kd.R_below (by (with_reducible repeat (first | apply Kd.R_alloc | apply Kd.R_drewN | apply Kd.R_drew)); exact HO658.out) hb); have n2_ := Aside0.mk (Kd.R_below (by (with_reducible repeat (first | apply Kd.R_alloc | apply Kd.R_drewN | apply Kd.R_drew)); exact HO664.out) hb); have n3_ := Aside0.mk (Kd.R_below (by (with_reducible repeat (first | apply Kd.R_alloc | apply Kd.R_drewN | apply Kd.R_drew)); exact HO670.out) hb); have n4_ := Aside0.mk (Kd.R_below (by (with_reducible repeat (first | apply Kd.R_alloc | apply Kd.R_drewN | apply Kd.R_drew)); exact HO677.out) hb); have n5_ := Aside0.mk (Kd.R_below (by (with_reducible repeat (first | apply Kd.R_alloc | apply Kd.R_drewN | apply Kd.R_drew)); exact HO689.out) hb); have n6_ := Aside0.mk (Kd.R_below (by (with_reducible repeat (first | apply Kd.R_alloc | apply Kd.R_drewN | apply Kd.R_drew)); exact HO694.out) hb); have n7_ := Aside0.mk (blk_below (g := gb649) (o := .cells #[.slice A0_0 l0_0.length c0_0, .int .i64 a0_1, .bool a0_2] 24 (0, 0)) (by (with_reducible repeat (first | refine blk_drewN ?_ _ | refine blk_drew ?_ | refine blk_alloc ?_ _)); exact BK649.out) hb); have n8_ := Aside0.mk (blk_below (g := gb661) (o := .cells #[.slice Ao40 t656.length co40, .int .i64 t659, .bool t660] 29 (0, 0)) (by (with_reducible repeat (first | refine blk_drewN ?_ _ | refine blk_drew ?_ | refine blk_alloc ?_ _)); exact BK661.out) hb); have n9_ := Aside0.mk (blk_below (g := gb667) (o := .cells #[.slice Ao46 t662.length co46, .int .i64 t665, .bool t666] 29 (0, 0)) (by (with_reducible repeat (first | refine blk_drewN ?_ _ | refine blk_drew ?_ | refine blk_alloc ?_ _)); exact BK667.out) hb); have n10_ := Aside0.mk (blk_below (g := gb673) (o := .cells #[.slice Ao52 t668.length co52, .int .i64 t671, .bool t672] 29 (0, 0)) (by (with_reducible repeat (first | refine blk_drewN ?_ _ | refine blk_drew ?_ | refine blk_alloc ?_ _)); exact BK673.out) hb); have n11_ := Aside0.mk (below_step (by repeat (first | (with_reducible first | exact HB.out | apply below_alloc | apply pw_below_drewN | apply below_drew1 | refine below_set ?_ GE649.out | refine below_set ?_ GE661.out | refine below_set ?_ GE667.out | refine below_set ?_ GE673.out) | exact HB.out)) hb); have n12_ := Aside0.mk (hbox); have n13_ := Aside0.mk ((by rw [hg]; exact (below_size (by repeat (first | (with_reducible first | exact HB.out | apply below_alloc | apply pw_below_drewN | apply below_drew1 | refine below_set ?_ GE649.out | refine below_set ?_ GE661.out | refine below_set ?_ GE667.out | refine below_set ?_ GE673.out) | exact HB.out))) : w.heap.size ≤ gb697)); have n14_ := Aside0.mk ((by rw [hg]; exact (below_size (by repeat (first | (with_reducible first | exact HB.out | apply below_alloc | apply pw_below_drewN | apply below_drew1 | refine below_set ?_ GE649.out | refine below_set ?_ GE661.out | refine below_set ?_ GE667.out | refine below_set ?_ GE673.out) | exact HB.out))) : w.heap.size ≤ gb697)); have n15_ := Aside0.mk ((by rw [hg]; exact Nat.ne_of_lt (blk_lt (g := gb649) (o := .cells #[.slice A0_0 l0_0.length c0_0, .int .i64 a0_1, .bool a0_2] 24 (0, 0)) (by (with_reducible repeat (first | refine blk_drewN ?_ _ | refine blk_drew ?_ | refine blk_alloc ?_ _)); exact BK649.out)) : gb649 ≠ gb697)); have n16_ := Aside0.mk ((by rw [hg]; exact Nat.ne_of_gt (blk_lt (g := gb649) (o := .cells #[.slice A0_0 l0_0.length c0_0, .int .i64 a0_1, .bool a0_2] 24 (0, 0)) (by (with_reducible repeat (first | refine blk_drewN ?_ _ | refine blk_drew ?_ | refine blk_alloc ?_ _)); exact BK649.out)) : gb697 ≠ gb649)); have n17_ := Aside0.mk ((by rw [hg]; exact Nat.ne_of_lt (blk_lt (g := gb661) (o := .cells #[.slice Ao40 t656.length co40, .int .i64 t659, .bool t660] 29 (0, 0)) (by (with_reducible repeat (first | refine blk_drewN ?_ _ | refine blk_drew ?_ | refine blk_alloc ?_ _)); exact BK661.out)) : gb661 ≠ gb697)); have n18_ := Aside0.mk ((by rw [hg]; exact Nat.ne_of_gt (blk_lt (g := gb661) (o := .cells #[.slice Ao40 t656.length co40, .int .i64 t659, .bool t660] 29 (0, 0)) (by (with_reducible repeat (first | refine blk_drewN ?_ _ | refine blk_drew ?_ | refine blk_alloc ?_ _)); exact BK661.out)) : gb697 ≠ gb661)); have n19_ := Aside0.mk ((by rw [hg]; exact Nat.ne_of_lt (blk_lt (g := gb667) (o := .cells #[.slice Ao46 t662.length co46, .int .i64 t665, .bool t666] 29 (0, 0)) (by (with_reducible repeat (first | refine blk_drewN ?_ _ | refine blk_drew ?_ | refine blk_alloc ?_ _)); exact BK667.out)) : gb667 ≠ gb697)); have n20_ := Aside0.mk ((by rw [hg]; exact Nat.ne_of_gt (blk_lt (g := gb667) (o := .cells #[.slice Ao46 t662.length co46, .int .i64 t665, .bool t666] 29 (0, 0)) (by (with_reducible repeat (first | refine blk_drewN ?_ _ | refine blk_drew ?_ | refine blk_alloc ?_ _)); exact BK667.out)) : gb697 ≠ gb667)); have n21_ := Aside0.mk ((by rw [hg]; exact Nat.ne_of_lt (blk_lt (g := gb673) (o := .cells #[.slice Ao52 t668.length co52, .int .i64 t671, .bool t672] 29 (0, 0)) (by (with_reducible repeat (first | refine blk_drewN ?_ _ | refine blk_drew ?_ | refine blk_alloc ?_ _)); exact BK673.out)) : gb673 ≠ gb697)); have n22_ := Aside0.mk ((by rw [hg]; exact Nat.ne_of_gt (blk_lt (g := gb673) (o := .cells #[.slice Ao52 t668.length co52, .int .i64 t671, .bool t672] 29 (0, 0)) (by (with_reducible repeat (first | refine blk_drewN ?_ _ | refine blk_drew ?_ | refine blk_alloc ?_ _)); exact BK673.out)) : gb697 ≠ gb673)); clear HO653; clear HO658; clear HO664; clear HO670; clear HO677; clear HO689; clear HO694; clear BK649; clear BK661; clear BK667; clear BK673; clear HB; have HO653 := n0_; have HO658 := n1_; have HO664 := n2_; have HO670 := n3_; have HO677 := n4_; have HO689 := n5_; have HO694 := n6_; have BK649 := n7_; have BK661 := n8_; have BK667 := n9_; have BK673 := n10_; have HB := n11_; have BK697 := n12_; have GW697 := n13_; have GE697 := n14_; have NB649_697 := n15_; have NB697_649 := n16_; have NB661_697 := n17_; have NB697_661 := n18_; have NB667_697 := n19_; have NB697_667 := n20_; have NB673_697 := n21_; have NB697_673 := n22_; clear n0_ n1_ n2_ n3_ n4_ n5_ n6_ n7_ n8_ n9_ n10_ n11_ n12_ n13_ n14_ n15_ n16_ n17_ n18_ n19_ n20_ n21_ n22_; clear hb hbox hg; obtain ⟨Ao77, co77, eo77⟩ := Kd.R_slice HO694.out; subst eo77; have hnb78 := NB697_649.out; have hnc78 := NB649_697.out; have hnb79 := NB697_661.out; have hnc79 := NB661_697.out; have hnb80 := NB697_667.out; have hnc80 := NB667_697.out; have hnb81 := NB697_673.out; have hnc81 := NB673_697.out; have hcz82_0 : w76.cell? ⟨gb697, 0, none⟩ = some (.slice none 0 0) := (blk_cell BK697.out 0).trans rfl; have hcz82_1 : w76.cell? ⟨gb697, 1, none⟩ = some (.int .i64 0) := (blk_cell BK697.out 1).trans rfl; have hcz82_2 : w76.cell? ⟨gb697, 2, none⟩ = some (.bool false) := (blk_cell BK697.out 2).trans rfl; have hfz82_0 := blk_frozen BK697.out 0; have hfz82_1 := blk_frozen BK697.out 1; have hfz82_2 := blk_frozen BK697.out 2; have hcz83_0 : w76.cell? ⟨gb661, 0, none⟩ = some (.slice Ao40 t656.length co40) := (blk_cell BK661.out 0).trans rfl; have hcz83_1 : w76.cell? ⟨gb661, 1, none⟩ = some (.int .i64 t659) := (blk_cell BK661.out 1).trans rfl; have hcz83_2 : w76.cell? ⟨gb661, 2, none⟩ = some (.bool t660) := (blk_cell BK661.out 2).trans rfl; have hfz83_0 := blk_frozen BK661.out 0; have hfz83_1 := blk_frozen BK661.out 1; have hfz83_2 := blk_frozen BK661.out 2) | ((with_reducible refine gate_callee (f := 21) rfl ?_); refine goesL_ (some 64) rfl rfl Tryd.func21 (by kernel_rfl) rfl #[.agg #[.slice Ao77 t692.length co77, .int .i64 t695, .bool t696], .agg #[.slice Ao40 t656.length co40, .int .i64 t659, .bool t660]] rfl (by (try simp only [List.map_toArray, List.map_cons, List.map_nil]); first | done | rfl | (simp only [List.length_drop, List.length_take]; rfl)) ?_; (with_reducible refine (laws_eqServer.calls k _ _ t692 t695 t696 _ _ t656 t659 t660 true _ ?side1 ?side2 ?side3 ?side4 A27.out).mono ?_); (case side1 => refine (Kd.R_reads' (e := 56) (base := w.heap.size) (ok := fun k_ => ((((((True ∧ some k_ ≠ (.slice Ao37 t651.length co37 : Value).ownBlock) ∧ some k_ ≠ (.slice Ao40 t656.length co40 : Value).ownBlock) ∧ some k_ ≠ (.slice Ao46 t662.length co46 : Value).ownBlock) ∧ some k_ ≠ (.slice Ao52 t668.length co52 : Value).ownBlock) ∧ some k_ ≠ (.slice Ao61 t675.length co61 : Value).ownBlock) ∧ some k_ ≠ (.slice Ao74 t687.length co74 : Value).ownBlock)) (n := t692.length) (c := co77) ?_).2.2; exact (by (with_reducible repeat (first | apply Kd.R_alloc | apply Kd.R_drewN | apply Kd.R_drew)); exact (Kd.R_mono (Kd.R_far (p := ⟨gb697, 2, none⟩) (Kd.R_far (p := ⟨gb697, 1, none⟩) (Kd.R_far (p := ⟨gb697, 0, none⟩) (Kd.R_types HO694.out BK697.out (by decide)) (fun _ hk => hk.2) (.slice Ao77 t692.length co77)) (fun _ hk => hk.2) (.int .i64 t695)) (fun _ hk => hk.2) (.bool t696)) (fun _ h_ => h_.1)))); (case side2 => exact (Kd.R_reads' HO694.out).2.1); (case side3 => refine (Kd.R_reads' (e := 56) (base := w.heap.size) (ok := fun k_ => (((some k_ ≠ (.slice Ao37 t651.length co37 : Value).ownBlock ∧ (some k_ ≠ (.slice Ao46 t662.length co46 : Value).ownBlock ∧ (some k_ ≠ (.slice Ao52 t668.length co52 : Value).ownBlock ∧ some k_ ≠ (.slice Ao61 t675.length co61 : Value).ownBlock))) ∧ some k_ ≠ (.slice Ao74 t687.length co74 : Value).ownBlock) ∧ some k_ ≠ (.slice Ao77 t692.length co77 : Value).ownBlock)) (n := t656.length) (c := co40) ?_).2.2; exact (by (with_reducible repeat (first | apply Kd.R_alloc | apply Kd.R_drewN | apply Kd.R_drew)); exact (Kd.R_mono (Kd.R_far (p := ⟨gb697, 2, none⟩) (Kd.R_far (p := ⟨gb697, 1, none⟩) (Kd.R_far (p := ⟨gb697, 0, none⟩) (Kd.R_types HO658.out BK697.out (by decide)) (fun _ hk => hk.2) (.slice Ao77 t692.length co77)) (fun _ hk => hk.2) (.int .i64 t695)) (fun _ hk => hk.2) (.bool t696)) (fun _ h_ => h_.1)))); (case side4 => exact (Kd.R_reads' HO658.out).2.1); rintro e w84 ⟨rfl, hb⟩; refine ⟨_, rfl, ?_⟩; have n0_ := Aside0.mk (Kd.R_below (by (with_reducible repeat (first | apply Kd.R_alloc | apply Kd.R_drewN | apply Kd.R_drew)); exact (Kd.R_mono (Kd.R_far (p := ⟨gb697, 2, none⟩) (Kd.R_far (p := ⟨gb697, 1, none⟩) (Kd.R_far (p := ⟨gb697, 0, none⟩) (Kd.R_types HO653.out BK697.out (by decide)) (fun _ hk => hk.2) (.slice Ao77 t692.length co77)) (fun _ hk => hk.2) (.int .i64 t695)) (fun _ hk => hk.2) (.bool t696)) (fun _ h_ => h_.1))) hb); have n1_ := Aside0.mk (Kd.R_below (by (with_reducible repeat (first | apply Kd.R_alloc | apply Kd.R_drewN | apply Kd.R_drew)); exact (Kd.R_mono (Kd.R_far (p := ⟨gb697, 2, none⟩) (Kd.R_far (p := ⟨gb697, 1, none⟩) (Kd.R_far (p := ⟨gb697, 0, none⟩) (Kd.R_types HO658.out BK697.out (by decide)) (fun _ hk => hk.2) (.slice Ao77 t692.length co77)) (fun _ hk => hk.2) (.int .i64 t695)) (fun _ hk => hk.2) (.bool t696)) (fun _ h_ => h_.1))) hb); have n2_ := Aside0.mk (Kd.R_below (by (with_reducible repeat (first | apply Kd.R_alloc | apply Kd.R_drewN | apply Kd.R_drew)); exact (Kd.R_mono (Kd.R_far (p := ⟨gb697, 2, none⟩) (Kd.R_far (p := ⟨gb697, 1, none⟩) (Kd.R_far (p := ⟨gb697, 0, none⟩) (Kd.R_types HO664.out BK697.out (by decide)) (fun _ hk => hk.2) (.slice Ao77 t692.length co77)) (fun _ hk => hk.2) (.int .i64 t695)) (fun _ hk => hk.2) (.bool t696)) (fun _ h_ => h_.1))) hb); have n3_ := Aside0.mk (Kd.R_below (by (with_reducible repeat (first | apply Kd.R_alloc | apply Kd.R_drewN | apply Kd.R_drew)); exact (Kd.R_mono (Kd.R_far (p := ⟨gb697, 2, none⟩) (Kd.R_far (p := ⟨gb697, 1, none⟩) (Kd.R_far (p := ⟨gb697, 0, none⟩) (Kd.R_types HO670.out BK697.out (by decide)) (fun _ hk => hk.2) (.slice Ao77 t692.length co77)) (fun _ hk => hk.2) (.int .i64 t695)) (fun _ hk => hk.2) (.bool t696)) (fun _ h_ => h_.1))) hb); have n4_ := Aside0.mk (Kd.R_below (by (with_reducible repeat (first | apply Kd.R_alloc | apply Kd.R_drewN | apply Kd.R_drew)); exact (Kd.R_mono (Kd.R_far (p := ⟨gb697, 2, none⟩) (Kd.R_far (p := ⟨gb697, 1, none⟩) (Kd.R_far (p := ⟨gb697, 0, none⟩) (Kd.R_types HO677.out BK697.out (by decide)) (fun _ hk => hk.2) (.slice Ao77 t692.length co77)) (fun _ hk => hk.2) (.int .i64 t695)) (fun _ hk => hk.2) (.bool t696)) (fun _ h_ => h_.1))) hb); have n5_ := Aside0.mk (Kd.R_below (by (with_reducible repeat (first | apply Kd.R_alloc | apply Kd.R_drewN | apply Kd.R_drew)); exact (Kd.R_mono (Kd.R_far (p := ⟨gb697, 2, none⟩) (Kd.R_far (p := ⟨gb697, 1, none⟩) (Kd.R_far (p := ⟨gb697, 0, none⟩) (Kd.R_types HO689.out BK697.out (by decide)) (fun _ hk => hk.2) (.slice Ao77 t692.length co77)) (fun _ hk => hk.2) (.int .i64 t695)) (fun _ hk => hk.2) (.bool t696)) (fun _ h_ => h_.1))) hb); have n6_ := Aside0.mk (Kd.R_below (by (with_reducible repeat (first | apply Kd.R_alloc | apply Kd.R_drewN | apply Kd.R_drew)); exact (Kd.R_mono (Kd.R_far (p := ⟨gb697, 2, none⟩) (Kd.R_far (p := ⟨gb697, 1, none⟩) (Kd.R_far (p := ⟨gb697, 0, none⟩) (Kd.R_types HO694.out BK697.out (by decide)) (fun _ hk => hk.2) (.slice Ao77 t692.length co77)) (fun _ hk => hk.2) (.int .i64 t695)) (fun _ hk => hk.2) (.bool t696)) (fun _ h_ => h_.1))) hb); have n7_ := Aside0.mk (blk_below (g := gb649) (o := .cells #[.slice A0_0 l0_0.length c0_0, .int .i64 a0_1, .bool a0_2] 24 (0, 0)) (by (with_reducible repeat (first | refine blk_drewN ?_ _ | refine blk_drew ?_ | refine blk_alloc ?_ _)); refine blk_far ?_ NB649_697.out _; (with_reducible repeat (first | refine blk_drewN ?_ _ | refine blk_drew ?_ | refine blk_alloc ?_ _)); refine blk_far ?_ NB649_697.out _; (with_reducible repeat (first | refine blk_drewN ?_ _ | refine blk_drew ?_ | refine blk_alloc ?_ _)); refine blk_far ?_ NB649_697.out _; (with_reducible repeat (first | refine blk_drewN ?_ _ | refine blk_drew ?_ | refine blk_alloc ?_ _)); exact BK649.out) hb); have n8_ := Aside0.mk (blk_below (g := gb661) (o := .cells #[.slice Ao40 t656.length co40, .int .i64 t659, .bool t660] 29 (0, 0)) (by (with_reducible repeat (first | refine blk_drewN ?_ _ | refine blk_drew ?_ | refine blk_alloc ?_ _)); refine blk_far ?_ NB661_697.out _; (with_reducible repeat (first | refine blk_drewN ?_ _ | refine blk_drew ?_ | refine blk_alloc ?_ _)); refine blk_far ?_ NB661_697.out _; (with_reducible repeat (first | refine blk_drewN ?_ _ | refine blk_drew ?_ | refine blk_alloc ?_ _)); refine blk_far ?_ NB661_697.out _; (with_reducible repeat (first | refine blk_drewN ?_ _ | refine blk_drew ?_ | refine blk_alloc ?_ _)); exact BK661.out) hb); have n9_ := Aside0.mk (blk_below (g := gb667) (o := .cells #[.slice Ao46 t662.length co46, .int .i64 t665, .bool t666] 29 (0, 0)) (by (with_reducible repeat (first | refine blk_drewN ?_ _ | refine blk_drew ?_ | refine blk_alloc ?_ _)); refine blk_far ?_ NB667_697.out _; (with_reducible repeat (first | refine blk_drewN ?_ _ | refine blk_drew ?_ | refine blk_alloc ?_ _)); refine blk_far ?_ NB667_697.out _; (with_reducible repeat (first | refine blk_drewN ?_ _ | refine blk_drew ?_ | refine blk_alloc ?_ _)); refine blk_far ?_ NB667_697.out _; (with_reducible repeat (first | refine blk_drewN ?_ _ | refine blk_drew ?_ | refine blk_alloc ?_ _)); exact BK667.out) hb); have n10_ := Aside0.mk (blk_below (g := gb673) (o := .cells #[.slice Ao52 t668.length co52, .int .i64 t671, .bool t672] 29 (0, 0)) (by (with_reducible repeat (first | refine blk_drewN ?_ _ | refine blk_drew ?_ | refine blk_alloc ?_ _)); refine blk_far ?_ NB673_697.out _; (with_reducible repeat (first | refine blk_drewN ?_ _ | refine blk_drew ?_ | refine blk_alloc ?_ _)); refine blk_far ?_ NB673_697.out _; (with_reducible repeat (first | refine blk_drewN ?_ _ | refine blk_drew ?_ | refine blk_alloc ?_ _)); refine blk_far ?_ NB673_697.out _; (with_reducible repeat (first | refine blk_drewN ?_ _ | refine blk_drew ?_ | refine blk_alloc ?_ _)); exact BK673.out) hb); have n11_ := Aside0.mk (blk_below (g := gb697) (o := .cells #[.slice Ao77 t692.length co77, .int .i64 t695, .bool t696] 29 (0, 0)) (by (with_reducible repeat (first | refine blk_drewN ?_ _ | refine blk_drew ?_ | refine blk_alloc ?_ _)); refine blk_put (cs := #[.slice Ao77 t692.length co77, .int .i64 t695, .bool false]) ?_ 2 _ rfl; (with_reducible repeat (first | refine blk_drewN ?_ _ | refine blk_drew ?_ | refine blk_alloc ?_ _)); refine blk_put (cs := #[.slice Ao77 t692.length co77, .int .i64 0, .bool false]) ?_ 1 _ rfl; (with_reducible repeat (first | refine blk_drewN ?_ _ | refine blk_drew ?_ | refine blk_alloc ?_ _)); refine blk_put (cs := #[.slice none 0 0, .int .i64 0, .bool false]) ?_ 0 _ rfl; (with_reducible repeat (first | refine blk_drewN ?_ _ | refine blk_drew ?_ | refine blk_alloc ?_ _)); exact BK697.out) hb); have n12_ := Aside0.mk (below_step (by repeat (first | (with_reducible first | exact HB.out | apply below_alloc | apply pw_below_drewN | apply below_drew1 | refine below_set ?_ GE649.out | refine below_set ?_ GE661.out | refine below_set ?_ GE667.out | refine below_set ?_ GE673.out | refine below_set ?_ GE697.out) | exact HB.out)) hb); clear HO653; clear HO658; clear HO664; clear HO670; clear HO677; clear HO689; clear HO694; clear BK649; clear BK661; clear BK667; clear BK673; clear BK697; clear HB; have HO653 := n0_; have HO658 := n1_; have HO664 := n2_; have HO670 := n3_; have HO677 := n4_; have HO689 := n5_; have HO694 := n6_; have BK649 := n7_; have BK661 := n8_; have BK667 := n9_; have BK673 := n10_; have BK697 := n11_; have HB := n12_; clear n0_ n1_ n2_ n3_ n4_ n5_ n6_ n7_ n8_ n9_ n10_ n11_ n12_; (try clear hb); (try clear hb2); (try clear hk); (try clear hi); have hcz85_0 : w84.cell? ⟨gb673, 0, none⟩ = some (.slice Ao52 t668.length co52) := (blk_cell BK673.out 0).trans rfl; have hcz85_1 : w84.cell? ⟨gb673, 1, none⟩ = some (.int .i64 t671) := (blk_cell BK673.out 1).trans rfl; have hcz85_2 : w84.cell? ⟨gb673, 2, none⟩ = some (.bool t672) := (blk_cell BK673.out 2).trans rfl; have hfz85_0 := blk_frozen BK673.out 0; have hfz85_1 := blk_frozen BK673.out 1; have hfz85_2 := blk_frozen BK673.out 2) | ((with_reducible refine gate_callee (f := 31) rfl ?_); refine goesL_ (some 68) rfl rfl Tryd.func31 (by kernel_rfl) rfl #[.agg #[.slice Ao52 t685.length co52, .int .i64 t671, .bool t672], .int .i64 1] rfl (by (try simp only [List.map_toArray, List.map_cons, List.map_nil]); first | done | (rw [show t685.length = t668.length from (Kd.R_reads' HO670.out).1.symm] <;> rfl) | rfl | (simp only [List.length_drop, List.length_take]; rfl)) ?_; (with_reducible refine (laws_heldServer.calls k _ _ t685 t671 t672 1 t699 _ ?side1 ?side2 A29.out).mono ?_); (case side1 => repeat (first | exact (Kd.R_reads' HO670.out).2.2 | (with_reducible refine Kd.C_alloc ?_ _) | (with_reducible refine Kd.C_drewN ?_ _) | (with_reducible refine Kd.C_drew ?_))); (case side2 => rw [show t685.length = t668.length from (Kd.R_reads' HO670.out).1.symm]; exact (Kd.R_reads' HO670.out).2.1); rintro e w86 ⟨rfl, hb⟩; refine ⟨_, rfl, ?_⟩; have n0_ := Aside0.mk (Kd.R_below (by (with_reducible repeat (first | apply Kd.R_alloc | apply Kd.R_drewN | apply Kd.R_drew)); exact HO653.out) hb); have n1_ := Aside0.mk (Kd.R_below (by (with_reducible repeat (first | apply Kd.R_alloc | apply Kd.R_drewN | apply Kd.R_drew)); exact HO658.out) hb); have n2_ := Aside0.mk (Kd.R_below (by (with_reducible repeat (first | apply Kd.R_alloc | apply Kd.R_drewN | apply Kd.R_drew)); exact HO664.out) hb); have n3_ := Aside0.mk (Kd.R_below (by (with_reducible repeat (first | apply Kd.R_alloc | apply Kd.R_drewN | apply Kd.R_drew)); exact HO670.out) hb); have n4_ := Aside0.mk (Kd.R_below (by (with_reducible repeat (first | apply Kd.R_alloc | apply Kd.R_drewN | apply Kd.R_drew)); exact HO677.out) hb); have n5_ := Aside0.mk (Kd.R_below (by (with_reducible repeat (first | apply Kd.R_alloc | apply Kd.R_drewN | apply Kd.R_drew)); exact HO689.out) hb); have n6_ := Aside0.mk (Kd.R_below (by (with_reducible repeat (first | apply Kd.R_alloc | apply Kd.R_drewN | apply Kd.R_drew)); exact HO694.out) hb); have n7_ := Aside0.mk (blk_below (g := gb649) (o := .cells #[.slice A0_0 l0_0.length c0_0, .int .i64 a0_1, .bool a0_2] 24 (0, 0)) (by (with_reducible repeat (first | refine blk_drewN ?_ _ | refine blk_drew ?_ | refine blk_alloc ?_ _)); exact BK649.out) hb); have n8_ := Aside0.mk (blk_below (g := gb661) (o := .cells #[.slice Ao40 t656.length co40, .int .i64 t659, .bool t660] 29 (0, 0)) (by (with_reducible repeat (first | refine blk_drewN ?_ _ | refine blk_drew ?_ | refine blk_alloc ?_ _)); exact BK661.out) hb); have n9_ := Aside0.mk (blk_below (g := gb667) (o := .cells #[.slice Ao46 t662.length co46, .int .i64 t665, .bool t666] 29 (0, 0)) (by (with_reducible repeat (first | refine blk_drewN ?_ _ | refine blk_drew ?_ | refine blk_alloc ?_ _)); exact BK667.out) hb); have n10_ := Aside0.mk (blk_below (g := gb673) (o := .cells #[.slice Ao52 t668.length co52, .int .i64 t671, .bool t672] 29 (0, 0)) (by (with_reducible repeat (first | refine blk_drewN ?_ _ | refine blk_drew ?_ | refine blk_alloc ?_ _)); exact BK673.out) hb); have n11_ := Aside0.mk (blk_below (g := gb697) (o := .cells #[.slice Ao77 t692.length co77, .int .i64 t695, .bool t696] 29 (0, 0)) (by (with_reducible repeat (first | refine blk_drewN ?_ _ | refine blk_drew ?_ | refine blk_alloc ?_ _)); exact BK697.out) hb); have n12_ := Aside0.mk (below_step (by repeat (first | (with_reducible first | exact HB.out | apply below_alloc | apply pw_below_drewN | apply below_drew1 | refine below_set ?_ GE649.out | refine below_set ?_ GE661.out | refine below_set ?_ GE667.out | refine below_set ?_ GE673.out | refine below_set ?_ GE697.out) | exact HB.out)) hb); clear HO653; clear HO658; clear HO664; clear HO670; clear HO677; clear HO689; clear HO694; clear BK649; clear BK661; clear BK667; clear BK673; clear BK697; clear HB; have HO653 := n0_; have HO658 := n1_; have HO664 := n2_; have HO670 := n3_; have HO677 := n4_; have HO689 := n5_; have HO694 := n6_; have BK649 := n7_; have BK661 := n8_; have BK667 := n9_; have BK673 := n10_; have BK697 := n11_; have HB := n12_; clear n0_ n1_ n2_ n3_ n4_ n5_ n6_ n7_ n8_ n9_ n10_ n11_ n12_; (try clear hb); (try clear hb2); (try clear hk); (try clear hi)))
                      go_ret
                      exact ⟨by first | rfl | (simp [errW_none, errW_some] <;> rfl) | (simp [*, errW_none, errW_some] <;> rfl), by repeat (first | (with_reducible first | exact HB.out | apply below_alloc | apply pw_below_drewN | apply below_drew1 | refine below_set ?_ GE649.out | refine below_set ?_ GE661.out | refine below_set ?_ GE667.out | refine below_set ?_ GE673.out | refine below_set ?_ GE697.out) | exact HB.out)⟩
                    · rw [if_neg c31] at H
                      exact absurd H (by simp)
                · replace c28 := Bool.eq_false_iff.mpr c28
                  subst c28
                  have H1 : (none) = some r := by rw [if_neg (show ¬ (false = true) by decide)] at H; exact H
                  clear H
                  have H := H1
                  clear H1
                  exact absurd H (by simp)
              · rw [if_neg c24] at H
                exact absurd H (by simp)
          · replace c20 := Bool.eq_false_iff.mpr c20
            subst c20
            have H1 : (none) = some r := by rw [if_neg (show ¬ (false = true) by decide)] at H; exact H
            clear H
            have H := H1
            clear H1
            exact absurd H (by simp)
      · replace c16 := Bool.eq_false_iff.mpr c16
        subst c16
        have H1 : (none) = some r := by rw [if_neg (show ¬ (false = true) by decide)] at H; exact H
        clear H
        have H := H1
        clear H1
        exact absurd H (by simp)
    · replace c13 := Bool.eq_false_iff.mpr c13
      subst c13
      have H1 : (none) = some r := by rw [if_neg (show ¬ (false = true) by decide)] at H; exact H
      clear H
      have H := H1
      clear H1
      exact absurd H (by simp)

end Go.Proofs.YtnclcbjagleoeaaDoor.P
set_option linter.unusedVariables false
set_option linter.unusedSimpArgs false
namespace Go.Proofs.YtnclcbjagleoeaaDoor.PL
open Go.RowKit Go.Proofs.YtnclcbjagleoeaaDoor.P Go.Proofs.YtnclcbjagleoeaaDoorW.PrintWords Go.Proofs.YtnclcbjagleoeaaDoorW.PrintLast
theorem evnow {α : Type} (a : α) : Ev (fun _ => some a) a := ⟨0, fun _ _ => rfl⟩
theorem ev_neg {α : Type} {c : Prop} [Decidable c] {f g : Nat → Option α} {r : α} (h : ¬ c) (k : Ev g r) : Ev (fun n => if c then f n else g n) r := Ev.congr (fun _ => if_neg h) k
theorem ev_pos {α : Type} {c : Prop} [Decidable c] {f g : Nat → Option α} {r : α} (h : c) (k : Ev f r) : Ev (fun n => if c then f n else g n) r := Ev.congr (fun _ => if_pos h) k
theorem wrapS (i : Int) (h0 : 0 ≤ i) (h : i ≤ 4611686018427387904) : wrap64 (i + 1) = i + 1 := by unfold wrap64; omega
theorem wrapT (i : Int) (h0 : 0 ≤ i) (h : i + 1 ≤ 9223372036854775807) : wrap64 (i + 1) = i + 1 := by unfold wrap64; omega
/-- A number of 64 bits. -/
def I64 (a : Int) : Prop := -9223372036854775808 ≤ a ∧ a ≤ 9223372036854775807
/-- An entry whose numbers are of 64 bits, its text below 2^63 bytes. -/
def wfE (e : S56) : Prop := I64 e.f0 ∧ I64 e.f1 ∧ I64 e.f2.f0 ∧ I64 e.f2.f1 ∧ I64 e.f2.f2 ∧ I64 e.f2.f3 ∧ e.f2.f4.size ≤ 9223372036854775807

def madeB (a : Int) : Bool := decide (ownI a ≠ 0) && decide (ownI a ≠ 1)
def rootB (a : Int) : Bool := decide (1 ≤ a) && decide (a ≤ 3)
theorem in_f (a b c : Int) : spec_l6In.f a b c = some (decide (b ≤ a) && decide (a ≤ c)) := by
  unfold spec_l6In.f
  by_cases h : a ≥ b
  · rw [if_pos h]; simp [h]
  · rw [if_neg h]; simp [show ¬ b ≤ a from h]
theorem ownI_out (a : Int) (h : a < 0 ∨ 37 ≤ a) : ownI a = 0 := by
  unfold ownI
  rw [if_neg (by omega)]
theorem small_made : ∀ n : Nat, n < 37 → (decide (1 ≤ Int.tdiv (n : Int) 10) && decide (Int.tdiv (n : Int) 10 ≤ 3)) = true → (decide (1 ≤ Int.tmod (n : Int) 10) && decide (Int.tmod (n : Int) 10 ≤ 6)) = madeB n := by decide
theorem small_unmade : ∀ n : Nat, n < 37 → (decide (1 ≤ Int.tdiv (n : Int) 10) && decide (Int.tdiv (n : Int) 10 ≤ 3)) = false → madeB n = false := by decide
theorem small_who : ∀ n : Nat, n < 37 → madeB n = true → ownI n - 1 = Int.tdiv (n : Int) 10 := by decide
theorem small_root : ∀ n : Nat, n < 37 → (decide (ownI n ≠ 0) && decide (ownI n - 1 = 0)) = rootB n := by decide
theorem tdiv_wrap (a : Int) (h : I64 a) : wrap64 (Int.tdiv a 10) = Int.tdiv a 10 := by
  obtain ⟨h1, h2⟩ := h
  have : Int.tdiv a 10 ≤ 9223372036854775807 ∧ -9223372036854775808 ≤ Int.tdiv a 10 := by
    rcases Int.le_total 0 a with h0 | h0
    · rw [Int.tdiv_eq_ediv_of_nonneg h0]; omega
    · have e : Int.tdiv a 10 = -(Int.tdiv (-a) 10) := by rw [Int.neg_tdiv, Int.neg_neg]
      rw [e, Int.tdiv_eq_ediv_of_nonneg (by omega)]; omega
  unfold wrap64; omega
theorem made_f (a : Int) (h : I64 a) : spec_l1Made.f a = some (madeB a) := by
  unfold spec_l1Made.f
  rw [in_f, in_f, tdiv_wrap a h]
  simp only [Option.bind_some]
  by_cases hs : 0 ≤ a ∧ a < 37
  · obtain ⟨n, rfl⟩ : ∃ n : Nat, a = n := ⟨a.toNat, by omega⟩
    have hn : n < 37 := by omega
    cases hd : (decide (1 ≤ Int.tdiv (n : Int) 10) && decide (Int.tdiv (n : Int) 10 ≤ 3)) with
    | true => rw [if_pos rfl, small_made n hn hd]
    | false => rw [if_neg (by decide), small_unmade n hn hd]
  · have ho : madeB a = false := by unfold madeB; rw [ownI_out a (by omega)]; rfl
    rw [ho]
    rcases Int.lt_or_le a 0 with h0 | h0
    · have e : Int.tdiv a 10 = -(Int.tdiv (-a) 10) := by rw [Int.neg_tdiv, Int.neg_neg]
      have h1 : Int.tdiv a 10 ≤ 0 := by rw [e, Int.tdiv_eq_ediv_of_nonneg (by omega)]; omega
      have h2 : decide (1 ≤ Int.tdiv a 10) = false := decide_eq_false (by omega)
      rw [h2]
      simp
    · have e1 := Int.tdiv_eq_ediv_of_nonneg (b := 10) h0
      have e2 : Int.tmod a 10 = a % 10 := Int.tmod_eq_emod_of_nonneg h0
      rw [e1, e2]
      by_cases h3 : a / 10 ≤ 3
      · have h4 : decide (a % 10 ≤ 6) = false := decide_eq_false (by omega)
        rw [h4]
        simp
      · have h4 : decide (a / 10 ≤ 3) = false := decide_eq_false h3
        rw [h4]
        simp
theorem isMade_f (a : Int) : impl_isMade.f a = some (madeB a) := by
  unfold impl_isMade.f impl_RowWho.f madeB
  simp only [Option.bind_some]
  by_cases h0 : ownI a = 0
  · rw [if_pos h0]; simp [h0]
  · rw [if_neg h0]
    by_cases h1 : ownI a = 1
    · simp [h1]
    · simp [h0, h1]
      omega
theorem isRoot_f (a : Int) : impl_isRoot.f a = some (rootB a) := by
  unfold impl_isRoot.f impl_RowWho.f
  simp only [Option.bind_some]
  by_cases hs : 0 ≤ a ∧ a < 37
  · obtain ⟨n, rfl⟩ : ∃ n : Nat, a = n := ⟨a.toNat, by omega⟩
    have := small_root n (by omega)
    rw [← this]
    by_cases h0 : ownI (n : Int) = 0
    · rw [if_pos h0]; simp [h0]
    · rw [if_neg h0]
      by_cases h1 : ownI (n : Int) - 1 = 0 <;> simp [h0, h1]
  · rw [if_pos (ownI_out a (by omega))]
    have : rootB a = false := by unfold rootB; simp; omega
    rw [this]
    simp
theorem root_f (a : Int) : spec_l1Root.f a = some (rootB a) := by
  unfold spec_l1Root.f
  rw [in_f]
  rfl
def idB (a : Int) : Bool := rootB a || madeB a
theorem id_f (a : Int) (h : I64 a) : spec_l3Id.f a = some (idB a) := by
  unfold spec_l3Id.f idB
  rw [root_f, made_f a h]
  simp only [Option.bind_some]
  cases rootB a <;> simp
def placeB (u a : Int) : Bool := idB u && (decide (a = 0) || madeB a)
theorem place_f (u a : Int) : impl_placeOk.f u a = some (placeB u a) := by
  unfold impl_placeOk.f placeB idB
  rw [isMade_f, isMade_f, isRoot_f]
  simp only [Option.bind_some]
  by_cases h : a = 0
  · simp only [h, if_true]
    cases madeB u <;> cases rootB u <;> simp
  · simp only [h, if_false]
    cases madeB u <;> cases rootB u <;> simp
def textFrom (s : ByteArray) (i : Nat) : Nat → Bool
  | 0 => true
  | n + 1 => decide (97 ≤ bt s i) && decide (bt s i ≤ 100) && textFrom s (i + 1) n
def textB (s : ByteArray) : Bool := textFrom s 0 s.size && decide (s.size ≤ 4)
theorem bt_range (s : ByteArray) (i : Int) : 0 ≤ bt s i ∧ bt s i ≤ 255 := by
  unfold bt
  split
  · rename_i h
    have := (s[i.toNat]'h).toNat_lt
    omega
  · omega
theorem text_l0 (s : ByteArray) (hs : s.size ≤ 9223372036854775807) : ∀ (n : Nat) (i : Nat), i + n = s.size → Ev (fun k => spec_l1Text.l0 k s i) (textFrom s i n && decide (s.size ≤ 4))
  | 0, i, h => by
    refine Ev.step (f := fun _ => some (decide ((s.size : Int) ≤ 4))) (fun k => ?_) ?_
    · simp only [spec_l1Text.l0]; rw [if_neg (by omega)]
    · have : decide ((s.size : Int) ≤ 4) = (textFrom s i 0 && decide (s.size ≤ 4)) := by simp [textFrom]; omega
      rw [this]; exact evnow _
  | n + 1, i, h => by
    have hw : wrap64 (bt s i) = bt s i := by have := bt_range s i; unfold wrap64; omega
    unfold textFrom
    cases ht : (decide (97 ≤ bt s i) && decide (bt s i ≤ 100)) with
    | true =>
      rw [Bool.true_and]
      refine Ev.step (fun k => ?_) (text_l0 s hs n (i + 1) (by omega))
      simp only [spec_l1Text.l0]
      rw [if_pos (by omega), if_pos (by omega), hw, in_f, ht, Option.bind_some, if_pos rfl, wrapT i (by omega) (by omega)]
      rfl
    | false =>
      rw [Bool.false_and, Bool.false_and]
      refine Ev.step (f := fun _ => some false) (fun k => ?_) (evnow _)
      simp only [spec_l1Text.l0]
      rw [if_pos (by omega), if_pos (by omega), hw, in_f, ht, Option.bind_some, if_neg (by decide)]
theorem text_f (s : ByteArray) (hs : s.size ≤ 9223372036854775807) : Ev (fun k => spec_l1Text.f k s) (textB s) := text_l0 s hs s.size 0 (by omega)
theorem itext_l0 (s : ByteArray) (hs : s.size ≤ 9223372036854775807) : ∀ (n : Nat) (i : Nat), i + n = s.size → Ev (fun k => impl_textOk.l0 k s i) (textFrom s i n)
  | 0, i, h => by
    refine Ev.step (f := fun _ => some true) (fun k => ?_) (evnow _)
    simp only [impl_textOk.l0]; rw [if_neg (by omega)]
  | n + 1, i, h => by
    unfold textFrom
    by_cases h1 : bt s i < 97
    · have : decide (97 ≤ bt s i) = false := decide_eq_false (by omega)
      rw [this, Bool.false_and, Bool.false_and]
      refine Ev.step (f := fun _ => some false) (fun k => ?_) (evnow _)
      simp only [impl_textOk.l0]
      rw [if_pos (by omega), if_pos (by omega), if_pos h1]
    · by_cases h2 : bt s i > 100
      · have : decide (bt s i ≤ 100) = false := decide_eq_false (by omega)
        rw [this, Bool.and_false, Bool.false_and]
        refine Ev.step (f := fun _ => some false) (fun k => ?_) (evnow _)
        simp only [impl_textOk.l0]
        rw [if_pos (by omega), if_pos (by omega), if_neg h1, if_pos h2]
      · have e1 : decide (97 ≤ bt s i) = true := decide_eq_true (by omega)
        have e2 : decide (bt s i ≤ 100) = true := decide_eq_true (by omega)
        rw [e1, e2, Bool.true_and, Bool.true_and]
        refine Ev.step (fun k => ?_) (itext_l0 s hs n (i + 1) (by omega))
        simp only [impl_textOk.l0]
        rw [if_pos (by omega), if_pos (by omega), if_neg h1, if_neg h2, wrapT i (by omega) (by omega)]
        rfl
theorem itext_f (s : ByteArray) (hs : s.size ≤ 9223372036854775807) : Ev (fun k => impl_textOk.f k s) (textB s) := by
  unfold impl_textOk.f textB
  by_cases h : (s.size : Int) > 4
  · refine ev_pos h ?_
    have : decide (s.size ≤ 4) = false := decide_eq_false (by omega)
    rw [this, Bool.and_false]
    exact evnow _
  · refine ev_neg h ?_
    have : decide (s.size ≤ 4) = true := decide_eq_true (by omega)
    rw [this, Bool.and_true]
    exact itext_l0 s hs s.size 0 (by omega)
theorem text_nil (s : ByteArray) (h : s.toList.isEmpty = true) : textB s = true := by
  have : s.size = 0 := by
    have h2 := List.isEmpty_iff.1 h
    have h3 : s.toList.length = s.size := by rw [Go.ByteArray.toList_eq]; exact Array.length_toList
    rw [← h3, h2]; rfl
  unfold textB
  rw [this]
  rfl
def opB (k i u a : Int) (s : ByteArray) : Bool :=
  madeB i && (if k = 1 then placeB u a && textB s else if k = 2 then decide (u = 0) && decide (a = 0) && textB s else if k = 3 then placeB u a && s.toList.isEmpty else false)
theorem opOk_f (k i u a : Int) (s : ByteArray) (hs : s.size ≤ 9223372036854775807) : Ev (fun n => impl_OpOk.f n k i u a s) (opB k i u a s) := by
  unfold impl_OpOk.f impl_changeOf.f opB
  rw [isMade_f]
  simp only [Option.bind_some]
  cases madeB i with
  | false => simp only [Bool.false_eq_true, if_false, Bool.false_and]; exact evnow _
  | true =>
    simp only [if_true, Bool.true_and, place_f, Option.bind_some]
    by_cases h1 : k = 1
    · simp only [h1, if_true]
      cases placeB u a with
      | true => simp only [if_true, Bool.true_and]; exact itext_f s hs
      | false => simp only [Bool.false_eq_true, if_false, Bool.false_and]; exact evnow _
    · simp only [h1, if_false]
      by_cases h2 : k = 2
      · simp only [h2, if_true]
        by_cases h3 : u = 0
        · by_cases h4 : a = 0
          · simp only [h3, h4, if_true, decide_true, Bool.true_and]; exact itext_f s hs
          · simp only [h3, h4, if_true, if_false, decide_true, decide_false, Bool.true_and, Bool.false_and]; exact evnow _
        · simp only [h3, if_false, decide_false, Bool.false_and]; exact evnow _
      · simp only [h2, if_false]
        by_cases h3 : k = 3
        · simp only [h3, if_true]
          cases placeB u a with
          | true => simp only [if_true, Bool.true_and]; exact evnow _
          | false => simp only [Bool.false_eq_true, if_false, Bool.false_and]; exact evnow _
        · simp only [h3, if_false]; exact evnow _
theorem sop_f (k i u a : Int) (s : ByteArray) (hi : I64 i) (hu : I64 u) (ha : I64 a) (hs : s.size ≤ 9223372036854775807) : Ev (fun n => spec_OpOk.f n k i u a s) (opB k i u a s) := by
  unfold spec_OpOk.f opB
  rw [made_f i hi]
  simp only [Option.bind_some]
  cases madeB i with
  | false =>
    simp only [Bool.false_eq_true, if_false, Bool.false_and]
    refine Ev.step (f := fun _ => some false) (fun n => ?_) (evnow _)
    simp only [spec_OpOk.j0, if_true]
  | true =>
    simp only [if_true, Bool.true_and]
    refine Ev.bind (text_f s hs) ?_
    have hp : (idB u && (decide (a = 0) || madeB a)) = placeB u a := rfl
    cases ht : textB s with
    | false =>
      have hne : s.toList.isEmpty = false := by
        cases he : s.toList.isEmpty with
        | false => rfl
        | true => rw [text_nil s he] at ht; cases ht
      refine Ev.step (f := fun _ => some false) (fun n => ?_) ?_
      · simp only [spec_OpOk.j0, Bool.not_false, if_true]
      · simp only [hne, Bool.and_false, ite_self]
        exact evnow _
    | true =>
      refine Ev.step (f := fun _ => some (if k = 1 then placeB u a && true else if k = 2 then decide (u = 0) && decide (a = 0) && true else if k = 3 then placeB u a && s.toList.isEmpty else false)) (fun n => ?_) (evnow _)
      simp only [spec_OpOk.j0, Bool.not_true, Bool.false_eq_true, if_false]
      rw [id_f u hu, made_f a ha]
      simp only [Option.bind_some, Bool.and_true]
      rw [← hp]
      have hnil : (s.toList == ([] : List UInt8)) = s.toList.isEmpty := by cases s.toList <;> rfl
      rw [hnil]
      by_cases h1 : k = 1
      · simp only [h1, if_true]
        by_cases h4 : a = 0
        · simp only [h4, if_true, decide_true, Bool.true_or, Bool.and_true]; cases idB u <;> simp
        · simp only [h4, if_false, decide_false, Bool.false_or]; cases idB u <;> simp
      · simp only [h1, if_false]
        by_cases h2 : k = 2
        · simp only [h2, if_true]
          by_cases h3 : u = 0
          · simp [h3]; by_cases h4 : a = 0 <;> simp [h4]
          · simp [h3]
        · simp only [h2, if_false]
          by_cases h3 : k = 3
          · simp only [h3, if_true]
            by_cases h4 : a = 0
            · simp only [h4, if_true, decide_true, Bool.true_or, Bool.and_true]; cases idB u <;> simp
            · simp only [h4, if_false, decide_false, Bool.false_or]; cases idB u <;> cases madeB a <;> simp
          · simp only [h3, if_false]
def entB (e : S56) : Bool :=
  decide (1 ≤ e.f0) && decide (e.f0 ≤ 3) && (decide (1 ≤ e.f1) && decide (e.f1 ≤ 40)) && opB e.f2.f0 e.f2.f1 e.f2.f2 e.f2.f3 e.f2.f4 && (decide (e.f2.f0 ≠ 1) || decide (ownI e.f2.f1 - 1 = e.f0))
theorem made_small (a : Int) (h : madeB a = true) : 0 ≤ a ∧ a < 37 := by
  rcases Int.lt_or_le a 0 with h0 | h0
  · unfold madeB at h; rw [ownI_out a (by omega)] at h; simp at h
  · rcases Int.lt_or_le a 37 with h1 | h1
    · exact ⟨h0, h1⟩
    · unfold madeB at h; rw [ownI_out a (by omega)] at h; simp at h
theorem opB_made (k i u a : Int) (s : ByteArray) (h : opB k i u a s = true) : madeB i = true := by
  unfold opB at h
  simp only [Bool.and_eq_true] at h
  exact h.1
theorem who_made (i : Int) (h : madeB i = true) : ownI i - 1 = wrap64 (Int.tdiv i 10) := by
  obtain ⟨h0, h1⟩ := made_small i h
  obtain ⟨n, rfl⟩ : ∃ n : Nat, i = n := ⟨i.toNat, by omega⟩
  rw [tdiv_wrap _ ⟨by omega, by omega⟩]
  exact small_who n (by omega) h
theorem ent_f (e : S56) (h : wfE e) : Ev (fun n => impl_EntryOk.f n e.f0 e.f1 e.f2.f0 e.f2.f1 e.f2.f2 e.f2.f3 e.f2.f4) (entB e) := by
  obtain ⟨h0, h1, h2, h3, h4, h5, h6⟩ := h
  unfold impl_EntryOk.f impl_whoOk.f entB
  by_cases a1 : e.f0 ≥ 1
  · simp only [a1, if_true, Option.bind_some, ge_iff_le, decide_true, Bool.true_and]
    cases a2 : decide (e.f0 ≤ 3) with
    | false => simp only [Bool.false_eq_true, if_false, Bool.false_and]; exact evnow _
    | true =>
      simp only [if_true, Bool.true_and]
      by_cases a3 : e.f1 < 1
      · have : decide (1 ≤ e.f1) = false := decide_eq_false (by omega)
        simp only [a3, if_true, this, Bool.false_and]; exact evnow _
      · have e3 : decide (1 ≤ e.f1) = true := decide_eq_true (by omega)
        by_cases a4 : e.f1 > 40
        · have : decide (e.f1 ≤ 40) = false := decide_eq_false (by omega)
          simp only [a3, if_false, a4, if_true, this, Bool.and_false, Bool.false_and]; exact evnow _
        · have e4 : decide (e.f1 ≤ 40) = true := decide_eq_true (by omega)
          simp only [a3, if_false, a4, e3, e4, Bool.true_and]
          refine Ev.bind (opOk_f _ _ _ _ _ h6) ?_
          cases ho : opB e.f2.f0 e.f2.f1 e.f2.f2 e.f2.f3 e.f2.f4 with
          | false => simp only [Bool.false_eq_true, if_false, Bool.false_and]; exact evnow _
          | true =>
            simp only [if_true, Bool.true_and]
            have hm := opB_made _ _ _ _ _ ho
            unfold impl_RowWho.f
            have hn : ownI e.f2.f1 ≠ 0 := by
              intro hz
              unfold madeB at hm
              rw [hz] at hm
              simp at hm
            rw [if_neg hn]
            simp only [Option.bind_some]
            by_cases a5 : e.f2.f0 = 1
            · simp only [a5, if_true, ne_eq, not_true, decide_false, Bool.false_or]
              have : (ownI e.f2.f1 - 1 == e.f0) = decide (ownI e.f2.f1 - 1 = e.f0) := by by_cases hq : ownI e.f2.f1 - 1 = e.f0 <;> simp [hq]
              rw [this]; exact evnow _
            · simp only [a5, if_false, ne_eq, not_false_eq_true, decide_true, Bool.true_or]; exact evnow _
  · have : decide (1 ≤ e.f0) = false := decide_eq_false (by omega)
    simp only [a1, if_false, Option.bind_some, Bool.false_eq_true, this, Bool.false_and]; exact evnow _
theorem sent_f (e : S56) (h : wfE e) : Ev (fun n => spec_EntryOk.f n e.f0 e.f1 e.f2.f0 e.f2.f1 e.f2.f2 e.f2.f3 e.f2.f4) (entB e) := by
  obtain ⟨h0, h1, h2, h3, h4, h5, h6⟩ := h
  unfold spec_EntryOk.f entB
  rw [in_f, in_f]
  simp only [Option.bind_some]
  cases (decide (1 ≤ e.f0) && decide (e.f0 ≤ 3)) with
  | false => simp only [Bool.false_eq_true, if_false, Bool.false_and]; exact evnow _
  | true =>
    cases (decide (1 ≤ e.f1) && decide (e.f1 ≤ 40)) with
    | false => simp only [Bool.false_eq_true, if_true, if_false, Bool.true_and, Bool.false_and]; exact evnow _
    | true =>
      simp only [if_true, Bool.true_and]
      refine Ev.bind (sop_f _ _ _ _ _ h3 h4 h5 h6) ?_
      cases ho : opB e.f2.f0 e.f2.f1 e.f2.f2 e.f2.f3 e.f2.f4 with
      | false => simp only [Bool.false_eq_true, if_false, Bool.false_and]; exact evnow _
      | true =>
        simp only [if_true, Bool.true_and]
        have hm := who_made _ (opB_made _ _ _ _ _ ho)
        by_cases a5 : e.f2.f0 = 1
        · simp only [a5, if_true, ne_eq, not_true, decide_false, Bool.false_or]
          have : (wrap64 (Int.tdiv e.f2.f1 10) == e.f0) = decide (ownI e.f2.f1 - 1 = e.f0) := by rw [hm]; by_cases hq : wrap64 (Int.tdiv e.f2.f1 10) = e.f0 <;> simp [hq]
          rw [this]; exact evnow _
        · simp only [a5, if_false, ne_eq, not_false_eq_true, decide_true, Bool.true_or]; exact evnow _
def goB : List S56 → List S56 → Bool
  | _, [] => true
  | pre, e :: rest => entB e && decide (cntE pre e.f0 + 1 = e.f1) && goB (pre ++ [e]) rest
def logB (l : List S56) : Bool := decide (l.length ≤ 40) && goB [] l
def wfL (l : List S56) : Prop := ∀ e ∈ l, wfE e
theorem log_go : ∀ (rest pre : List S56), wfL rest → Ev (fun n => impl_LogOk.go n pre rest) (goB pre rest)
  | [], _, _ => Ev.congr (f := fun _ => some true) (fun n => by unfold impl_LogOk.go; rfl) (evnow _)
  | e :: rest, pre, h => by
    unfold goB
    refine Ev.congr (f := fun k => (impl_EntryOk.f k e.f0 e.f1 e.f2.f0 e.f2.f1 e.f2.f2 e.f2.f3 e.f2.f4).bind fun t => if t = true then (if cntE pre e.f0 + 1 = e.f1 then impl_LogOk.go k (pre ++ [e]) rest else some false) else some false) (fun n => by rw [impl_LogOk.go]) ?_
    refine Ev.bind (ent_f e (h e (List.mem_cons_self))) ?_
    cases entB e with
    | false => simp only [Bool.false_eq_true, if_false, Bool.false_and]; exact evnow _
    | true =>
      simp only [if_true, Bool.true_and]
      by_cases hq : cntE pre e.f0 + 1 = e.f1
      · simp only [hq, if_true, decide_true, Bool.true_and]; exact log_go rest _ (fun x hx => h x (List.mem_cons_of_mem _ hx))
      · simp only [hq, if_false, decide_false, Bool.false_and]; exact evnow _
theorem log_f (l : List S56) (h : wfL l) : Ev (fun n => impl_LogOk.f n l) (logB l) := by
  unfold impl_LogOk.f logB
  by_cases h40 : (l.length : Int) > 40
  · refine ev_pos h40 ?_
    have : decide (l.length ≤ 40) = false := decide_eq_false (by omega)
    rw [this, Bool.false_and]; exact evnow _
  · refine ev_neg h40 ?_
    have : decide (l.length ≤ 40) = true := decide_eq_true (by omega)
    rw [this, Bool.true_and]; exact log_go l [] h
theorem rdE_get (l : List S56) (i : Nat) (h : i < l.length) : rd_T56 l i = l[i] := by
  unfold rd_T56
  rw [List.getD_eq_getElem?_getD, show ((i : Int)).toNat = i from rfl, List.getElem?_eq_getElem h]
  rfl
theorem seq_l0 (l : List S56) (who : Int) (hl : l.length ≤ 281474976710656) : ∀ (n : Nat) (i : Nat) (c : Int), i + n = l.length → 0 ≤ c → c ≤ i → Ev (fun k => spec_l12Seq.l0 k l who c i) (c + cntE (l.drop i) who)
  | 0, i, c, h, h0, h1 => by
    refine Ev.step (f := fun _ => some c) (fun k => ?_) ?_
    · simp only [spec_l12Seq.l0]; rw [if_neg (by omega)]
    · have : c + cntE (l.drop i) who = c := by rw [List.drop_eq_nil_of_le (by omega)]; unfold cntE; simp
      rw [this]; exact evnow _
  | n + 1, i, c, h, h0, h1 => by
    have hi : i < l.length := by omega
    have hd := List.drop_eq_getElem_cons hi
    have hc : cntE (l.drop i) who = cntE (l.drop (i + 1)) who + (if l[i].f0 = who then 1 else 0) := by
      rw [hd]
      unfold cntE
      rw [List.countP_cons]
      by_cases hq : l[i].f0 = who <;> simp [hq]
    rw [hc]
    by_cases hq : l[i].f0 = who
    · rw [if_pos hq, show c + (cntE (l.drop (i + 1)) who + 1) = (c + 1) + cntE (l.drop (i + 1)) who by omega]
      refine Ev.step (fun k => ?_) (seq_l0 l who hl n (i + 1) (c + 1) (by omega) (by omega) (by omega))
      simp only [spec_l12Seq.l0]
      rw [if_pos (by omega), if_pos (by omega), rdE_get l i hi, if_pos hq, wrapS i (by omega) (by omega), wrapS c (by omega) (by omega)]
      rfl
    · rw [if_neg hq, Int.add_zero]
      refine Ev.step (fun k => ?_) (seq_l0 l who hl n (i + 1) c (by omega) (by omega) (by omega))
      simp only [spec_l12Seq.l0]
      rw [if_pos (by omega), if_pos (by omega), rdE_get l i hi, if_neg hq, wrapS i (by omega) (by omega)]
      rfl
theorem seq_f (l : List S56) (who : Int) (hl : l.length ≤ 281474976710656) : Ev (fun k => spec_l12Seq.f k l who) (cntE l who) := by
  have := seq_l0 l who hl l.length 0 0 (by omega) (by omega) (by omega)
  rw [Int.zero_add] at this
  exact this
theorem slog_l0 (l : List S56) (h : wfL l) (hl : l.length ≤ 281474976710656) : ∀ (n : Nat) (i : Nat), i + n = l.length → Ev (fun k => spec_LogOk.l0 k l i) (goB (l.take i) (l.drop i) && decide (l.length ≤ 40))
  | 0, i, hn => by
    rw [List.drop_eq_nil_of_le (by omega)]
    refine Ev.step (f := fun _ => some (decide ((l.length : Int) ≤ 40))) (fun k => ?_) ?_
    · simp only [spec_LogOk.l0]; rw [if_neg (by omega)]
    · have : decide ((l.length : Int) ≤ 40) = (goB (l.take i) [] && decide (l.length ≤ 40)) := by unfold goB; simp; omega
      rw [this]; exact evnow _
  | n + 1, i, hn => by
    have hi : i < l.length := by omega
    rw [List.drop_eq_getElem_cons hi]
    unfold goB
    rw [← List.take_succ_eq_append_getElem hi]
    refine Ev.step (f := fun k => (spec_EntryOk.f k l[i].f0 l[i].f1 l[i].f2.f0 l[i].f2.f1 l[i].f2.f2 l[i].f2.f3 l[i].f2.f4).bind fun t127 => (if t127 = true then ((spec_l12Seq.f k (l.take i) l[i].f0).bind fun t134 => (if l[i].f1 = (wrap64 (t134 + 1)) then (spec_LogOk.l0 k l ((i + 1 : Nat) : Int)) else (some false))) else (some false))) (fun k => ?_) ?_
    · simp only [spec_LogOk.l0]
      rw [if_pos (by omega), if_pos (by omega), rdE_get l i hi, if_pos (by omega), wrapS i (by omega) (by omega)]
      rfl
    · refine Ev.bind (sent_f _ (h _ (List.getElem_mem hi))) ?_
      cases entB l[i] with
      | false => simp only [Bool.false_eq_true, if_false, Bool.false_and]; exact evnow _
      | true =>
        simp only [if_true, Bool.true_and]
        refine Ev.bind (seq_f (l.take i) l[i].f0 (by rw [List.length_take]; omega)) ?_
        have hcn := cntE_le (l.take i) l[i].f0
        have hw : wrap64 (cntE (l.take i) l[i].f0 + 1) = cntE (l.take i) l[i].f0 + 1 := wrapS _ hcn.1 (by have := hcn.2; rw [List.length_take] at this; omega)
        rw [hw]
        by_cases hq : cntE (l.take i) l[i].f0 + 1 = l[i].f1
        · rw [decide_eq_true hq, Bool.true_and]
          refine ev_pos hq.symm ?_
          exact slog_l0 l h hl n (i + 1) (by omega)
        · rw [decide_eq_false hq, Bool.false_and, Bool.false_and]
          refine ev_neg (fun e => hq e.symm) ?_
          exact evnow _
theorem slog_f (l : List S56) (h : wfL l) (hl : l.length ≤ 281474976710656) : Ev (fun k => spec_LogOk.f k l) (logB l) := by
  have := slog_l0 l h hl l.length 0 (by omega)
  unfold logB
  rw [Bool.and_comm]
  exact this
theorem logB_len {l : List S56} (h : logB l = true) : l.length ≤ 40 := by
  unfold logB at h
  simp only [Bool.and_eq_true, decide_eq_true_eq] at h
  exact h.1
end Go.Proofs.YtnclcbjagleoeaaDoor.PL
set_option linter.unusedVariables false
set_option linter.unusedSimpArgs false
namespace Go.Proofs.YtnclcbjagleoeaaDoor.PL
open Go.RowKit Go.Proofs.YtnclcbjagleoeaaDoor.P Go.Proofs.YtnclcbjagleoeaaDoorW.PrintWords Go.Proofs.YtnclcbjagleoeaaDoorW.PrintLast
theorem one_size (xs : List Int) : (strOfNums xs).size = xs.length := by simp [strOfNums, ByteArray.size]
theorem mtl_ex (m : Nat) : ∀ (x : Int) (s : ByteArray), x < 10 ^ m → x ≤ 9223372036854775807 → s.size + m + 1 ≤ 9223372036854775807 → ∃ r, Ev (fun k => laws_markText.l0 k x s) r := by
  induction m with
  | zero =>
    intro x s hx _ hs
    refine ⟨_, Ev.step (f := fun _ => some ((⟨#[109]⟩ : ByteArray) ++ s)) (fun k => ?_) (evnow _)⟩
    simp only [laws_markText.l0]
    rw [if_neg (by simp at hx; omega), if_pos (by omega)]
  | succ m ih =>
    intro x s hx hb hs
    by_cases h0 : x > 0
    · have e : Int.tdiv x 10 = x / 10 := Int.tdiv_eq_ediv_of_nonneg (by omega)
      have e2 : wrap64 (Int.tdiv x 10) = x / 10 := by rw [e]; unfold wrap64; omega
      have e3 : (10 : Int) ^ (m + 1) = 10 ^ m * 10 := Int.pow_succ 10 m
      obtain ⟨r, hr⟩ := ih (wrap64 (Int.tdiv x 10)) ((strOfNums [(wrap64 (48 + (Int.tmod x 10))) % 256]) ++ s) (by rw [e2]; omega) (by rw [e2]; omega) (by rw [ByteArray.size_append, one_size]; simp; omega)
      refine ⟨r, Ev.step (fun k => ?_) hr⟩
      simp only [laws_markText.l0, Option.bind_some]
      rw [if_pos h0, if_pos (by rw [one_size]; simp; omega)]
    · refine ⟨_, Ev.step (f := fun _ => some ((⟨#[109]⟩ : ByteArray) ++ s)) (fun k => ?_) (evnow _)⟩
      simp only [laws_markText.l0]
      rw [if_neg h0, if_pos (by omega)]
theorem mt_ex (x : Int) (h : x ≤ 4611686018427387904) : ∃ r, Ev (fun k => laws_markText.f k x) r := by
  by_cases h0 : x ≤ 0
  · exact ⟨(⟨#[109, 48]⟩ : ByteArray), Ev.congr (f := fun _ => some (⟨#[109, 48]⟩ : ByteArray)) (fun k => by simp only [laws_markText.f]; rw [if_pos h0]) (evnow _)⟩
  · obtain ⟨r, hr⟩ := mtl_ex 19 x ⟨#[]⟩ (by omega) (by omega) (by decide)
    exact ⟨r, Ev.congr (fun k => by simp only [laws_markText.f]; rw [if_neg h0]) hr⟩
open Classical in
/-- The text of a number. -/
noncomputable def mt (x : Int) : ByteArray := if h : x ≤ 4611686018427387904 then (mt_ex x h).choose else ⟨#[]⟩
theorem mt_ev (x : Int) (h : x ≤ 4611686018427387904) : Ev (fun k => laws_markText.f k x) (mt x) := by
  unfold mt
  rw [dif_pos h]
  exact (mt_ex x h).choose_spec

theorem take_set_next {α : Type} (x : List α) (i : Int) (v : α) (h0 : 0 ≤ i) (h : i < x.length) : (x.set i.toNat v).take (i + 1).toNat = x.take i.toNat ++ [v] := by
  have e : (i + 1).toNat = i.toNat + 1 := by omega
  have hl : i.toNat < (x.set i.toNat v).length := by rw [List.length_set]; omega
  rw [e, List.take_succ_eq_append_getElem hl, List.getElem_set_self]
  congr 1
  rw [List.take_set_of_le (Nat.le_refl _)]
theorem set_set_ {α : Type} (x : List α) (i : Nat) (v u : α) : (x.set i v).set i u = x.set i u := by rw [List.set_set]
noncomputable def mkE (a : Int) : S56 := ⟨a, a + 1, ⟨a + 2, a + 3, a + 4, a + 5, mt (a + 6)⟩⟩
noncomputable def marksE : Int → Nat → List S56
  | _, 0 => []
  | a, n + 1 => mkE a :: marksE (a + 7) n
theorem marksE_len : ∀ (n : Nat) (a : Int), (marksE a n).length = n
  | 0, _ => rfl
  | n + 1, a => by rw [marksE, List.length_cons, marksE_len n]
theorem rdE_set (x : List S56) (i : Int) (v : S56) (h0 : 0 ≤ i) (h : i < x.length) : rd_T56 (x.set i.toNat v) i = v := by
  unfold rd_T56
  rw [List.getD_eq_getElem?_getD, List.getElem?_set_self (by omega)]
  rfl
theorem markE_ev (d : Nat) : ∀ (x : List S56) (a i : Int), 0 ≤ i → (x.length : Int) - i = d → x.length ≤ 1099511627776 → 0 ≤ a → a + 7 * d ≤ 1152921504606846976 →
    Ev (fun k => laws_markEntryS.l0 k x a i) (a + 7 * d, x.take i.toNat ++ marksE a d) := by
  induction d with
  | zero =>
    intro x a i h0 hd hl ha hb
    refine Ev.step (f := fun _ => some (a, x)) (fun k => ?_) ?_
    · simp only [laws_markEntryS.l0]; rw [if_neg (by omega)]
    · rw [List.take_of_length_le (by omega)]; simp only [marksE, List.append_nil]
      rw [show a + 7 * ((0 : Nat) : Int) = a by omega]; exact evnow _
  | succ d ih =>
    intro x a i h0 hd hl ha hb
    have hi : i < (x.length : Int) := by omega
    have e1 : wrap64 (a + 1) = a + 1 := wrapS a ha (by omega)
    have e2 : wrap64 (a + 1 + 1) = a + 2 := by rw [wrapS _ (by omega) (by omega)]; omega
    have e3 : wrap64 (a + 2 + 1) = a + 3 := by rw [wrapS _ (by omega) (by omega)]; omega
    have e4 : wrap64 (a + 3 + 1) = a + 4 := by rw [wrapS _ (by omega) (by omega)]; omega
    have e5 : wrap64 (a + 4 + 1) = a + 5 := by rw [wrapS _ (by omega) (by omega)]; omega
    have e6 : wrap64 (a + 5 + 1) = a + 6 := by rw [wrapS _ (by omega) (by omega)]; omega
    have e7 : wrap64 (a + 6 + 1) = a + 7 := by rw [wrapS _ (by omega) (by omega)]; omega
    have ei : wrap64 (i + 1) = i + 1 := wrapS i h0 (by omega)
    have H := ih (x.set i.toNat (mkE a)) (a + 7) (i + 1) (by omega) (by rw [List.length_set]; omega) (by rw [List.length_set]; omega) (by omega) (by omega)
    rw [take_set_next x i _ h0 hi, show a + 7 + 7 * (d : Int) = a + 7 * ((d + 1 : Nat) : Int) by omega, List.append_assoc] at H
    refine Ev.step (f := fun k => (laws_markText.f k (a + 6)).bind fun t => laws_markEntryS.l0 k (x.set i.toNat ⟨a, a + 1, ⟨a + 2, a + 3, a + 4, a + 5, t⟩⟩) (a + 7) (i + 1)) (fun k => ?_) (Ev.bind (mt_ev _ (by omega)) H)
    simp only [laws_markEntryS.l0, if_pos hi, if_pos h0, Option.bind_some, set_set_, rdE_set _ _ _ h0 hi, e1, e2, e3, e4, e5, e6, e7, ei]
theorem heldE_ev (d : Nat) : ∀ (x : List S56) (a i : Int), 0 ≤ i → (x.length : Int) - i = d → x.length ≤ 1099511627776 → 0 ≤ a → a + 7 * d ≤ 1152921504606846976 → x.drop i.toNat = marksE a d →
    Ev (fun k => laws_heldEntryS.l0 k x a i) (a + 7 * d) := by
  induction d with
  | zero =>
    intro x a i h0 hd hl ha hb he
    refine Ev.step (f := fun _ => some a) (fun k => ?_) ?_
    · simp only [laws_heldEntryS.l0]; rw [if_neg (by omega)]
    · rw [show a + 7 * ((0 : Nat) : Int) = a by omega]; exact evnow _
  | succ d ih =>
    intro x a i h0 hd hl ha hb he
    have hi : i < (x.length : Int) := by omega
    have e1 : wrap64 (a + 1) = a + 1 := wrapS a ha (by omega)
    have e2 : wrap64 (a + 1 + 1) = a + 2 := by rw [wrapS _ (by omega) (by omega)]; omega
    have e3 : wrap64 (a + 2 + 1) = a + 3 := by rw [wrapS _ (by omega) (by omega)]; omega
    have e4 : wrap64 (a + 3 + 1) = a + 4 := by rw [wrapS _ (by omega) (by omega)]; omega
    have e5 : wrap64 (a + 4 + 1) = a + 5 := by rw [wrapS _ (by omega) (by omega)]; omega
    have e6 : wrap64 (a + 5 + 1) = a + 6 := by rw [wrapS _ (by omega) (by omega)]; omega
    have e7 : wrap64 (a + 6 + 1) = a + 7 := by rw [wrapS _ (by omega) (by omega)]; omega
    have ei : wrap64 (i + 1) = i + 1 := wrapS i h0 (by omega)
    have hn : i.toNat < x.length := by omega
    have hc := List.drop_eq_getElem_cons hn
    rw [he, marksE] at hc
    have hx : rd_T56 x i = mkE a := by
      unfold rd_T56
      rw [List.getD_eq_getElem?_getD, List.getElem?_eq_getElem hn]
      exact (List.cons.inj hc).1.symm
    have H := ih x (a + 7) (i + 1) (by omega) (by omega) hl (by omega) (by omega) (by rw [show (i + 1).toNat = i.toNat + 1 by omega]; exact (List.cons.inj hc).2.symm)
    rw [show a + 7 + 7 * (d : Int) = a + 7 * ((d + 1 : Nat) : Int) by omega] at H
    refine Ev.step (f := fun k => (laws_markText.f k (a + 6)).bind fun t => if (mt (a + 6)).toList = t.toList then laws_heldEntryS.l0 k x (a + 7) (i + 1) else some (-1)) (fun k => ?_) (Ev.bind (mt_ev _ (by omega)) (Ev.congr (fun k => if_pos rfl) H))
    simp only [laws_heldEntryS.l0]
    rw [if_pos hi, if_pos h0, e1, e2, e3, e4, e5, e6, e7, ei, hx]
    simp only [mkE, if_true]
    rfl
theorem markE_f (x : List S56) (a : Int) (hl : x.length ≤ 1099511627776) (ha : 0 ≤ a) (hb : a ≤ 1125899906842624) :
    Ev (fun k => laws_markEntryS.f k x a) (a + 7 * x.length, marksE a x.length) := by
  have h := markE_ev x.length x a 0 (by omega) (by omega) hl ha (by omega)
  simp only [Int.toNat_zero, List.take_zero, List.nil_append] at h
  exact h
theorem heldE_f (n : Nat) (a : Int) (hl : n ≤ 1099511627776) (ha : 0 ≤ a) (hb : a ≤ 1125899906842624) :
    Ev (fun k => laws_heldEntryS.f k (marksE a n) a) (a + 7 * n) :=
  heldE_ev n (marksE a n) a 0 (by omega) (by rw [marksE_len]; omega) (by rw [marksE_len]; exact hl) ha (by omega) rfl
theorem eqOp_refl (a b c d : Int) (e : ByteArray) : laws_eqOp.f a b c d e a b c d e = some true := by simp [laws_eqOp.f]
theorem eqEntry_refl (x y a b c d : Int) (e : ByteArray) : laws_eqEntry.f x y a b c d e x y a b c d e = some true := by simp [laws_eqEntry.f, eqOp_refl]
theorem eqE_ev (d : Nat) : ∀ (x : List S56) (i : Int), 0 ≤ i → (x.length : Int) - i = d → x.length ≤ 1099511627776 → Ev (fun k => laws_eqEntryS.l0 k x x i) true := by
  induction d with
  | zero =>
    intro x i h0 hd hl
    refine Ev.step (f := fun _ => some true) (fun k => ?_) (evnow _)
    simp only [laws_eqEntryS.l0]; rw [if_neg (by omega)]
  | succ d ih =>
    intro x i h0 hd hl
    have hi : i < (x.length : Int) := by omega
    refine Ev.step (fun k => ?_) (ih x (i + 1) (by omega) (by omega) hl)
    simp only [laws_eqEntryS.l0, if_pos hi, if_pos h0, eqEntry_refl, Option.bind_some, if_true, wrapS i h0 (by omega)]
theorem eqE (x : List S56) (hl : x.length ≤ 1099511627776) : Ev (fun k => laws_eqEntryS.f k x x) true :=
  Ev.congr (fun k => by simp only [laws_eqEntryS.f, if_true]) (eqE_ev x.length x 0 (by omega) (by omega) hl)
end Go.Proofs.YtnclcbjagleoeaaDoor.PL
set_option linter.unusedVariables false
set_option linter.unusedSimpArgs false
namespace Go.Proofs.YtnclcbjagleoeaaDoor.PL
open Go.RowKit Go.Proofs.YtnclcbjagleoeaaDoor.P Go.Proofs.YtnclcbjagleoeaaDoorW.PrintWords Go.Proofs.YtnclcbjagleoeaaDoorW.PrintLast
def conv (e : S51) : S56 := ⟨e.f0, e.f1, ⟨e.f2.f0, e.f2.f1, e.f2.f2, e.f2.f3, e.f2.f4⟩⟩
def wfX (e : S51) : Prop := I64 e.f0 ∧ I64 e.f1 ∧ I64 e.f2.f0 ∧ I64 e.f2.f1 ∧ I64 e.f2.f2 ∧ I64 e.f2.f3 ∧ e.f2.f4.size ≤ 9223372036854775807
theorem rdX_get (l : List S51) (i : Nat) (h : i < l.length) : rd_T51 l i = l[i] := by
  unfold rd_T51
  rw [List.getD_eq_getElem?_getD, show ((i : Int)).toNat = i from rfl, List.getElem?_eq_getElem h]
  rfl
theorem wf_conv {l : List S51} (h : ∀ e ∈ l, wfX e) : wfL (l.map conv) := by
  intro e he
  obtain ⟨x, hx, rfl⟩ := List.mem_map.1 he
  exact h x hx
theorem sz_l0 (l : List S51) (hw : ∀ e ∈ l, wfX e) (hl : l.length ≤ 1099511627776) : ∀ (n : Nat) (i : Nat) (b : Int), i + n = l.length → 0 ≤ b → b ≤ 1048576 → ∃ r : Int, Ev (fun k => laws_szEntryS.l0 k l b i) r
  | 0, i, b, h, h0, h1 => ⟨b, Ev.step (f := fun _ => some b) (fun k => by simp only [laws_szEntryS.l0]; rw [if_neg (by omega)]) (evnow _)⟩
  | n + 1, i, b, h, h0, h1 => by
    have hi : i < l.length := by omega
    obtain ⟨_, _, _, _, _, _, hs⟩ := hw _ (List.getElem_mem hi)
    have hww : wrap64 (b - (l[i].f2.f4.size : Int)) = b - l[i].f2.f4.size := by unfold wrap64; omega
    by_cases hb : b - (l[i].f2.f4.size : Int) < 0
    · refine ⟨-1, Ev.step (f := fun _ => some (-1)) (fun k => ?_) (evnow _)⟩
      simp only [laws_szEntryS.l0]
      rw [if_pos (by omega), if_pos (by omega), rdX_get l i hi]
      simp only [laws_szEntry.f, laws_szOp.f, hww]
      rw [if_pos hb]
      rfl
    · obtain ⟨r, hr⟩ := sz_l0 l hw hl n (i + 1) (b - l[i].f2.f4.size) (by omega) (by omega) (by omega)
      refine ⟨r, Ev.step (fun k => ?_) hr⟩
      simp only [laws_szEntryS.l0]
      rw [if_pos (by omega), if_pos (by omega), rdX_get l i hi]
      simp only [laws_szEntry.f, laws_szOp.f, hww]
      rw [if_neg hb]
      simp only [Option.bind_some]
      rw [if_neg hb]
      simp only [Option.bind_some]
      rw [if_neg hb, wrapS i (by omega) (by omega)]
      rfl
/-- The budget of a server; where it is not overdrawn, there are at most 2^20 entries. -/
theorem sz_f (l : List S51) (s : Int) (u : Bool) (hw : ∀ e ∈ l, wfX e) (hl : l.length ≤ 9223372036854775807) : ∃ r : Int, Ev (fun k => laws_szServer.f k l s u 1048576) r ∧ (¬ r < 0 → l.length ≤ 1048576) := by
  unfold laws_szServer.f laws_szEntryS.f
  have hww : wrap64 (1048576 - (l.length : Int)) = 1048576 - l.length := by unfold wrap64; omega
  rw [hww]
  by_cases hb : 1048576 - (l.length : Int) < 0
  · refine ⟨-1, ?_, fun h => absurd (by decide) h⟩
    simp only [hb, if_true, Option.bind_some]
    exact evnow _
  · obtain ⟨r, hr⟩ := sz_l0 l hw (by omega) l.length 0 (1048576 - l.length) (by omega) (by omega) (by omega)
    simp only [hb, if_false]
    by_cases h2 : r < 0
    · refine ⟨-1, Ev.bind hr ?_, fun h => absurd (by decide) h⟩
      simp only [h2, if_true]
      exact evnow _
    · refine ⟨r, Ev.bind hr ?_, fun _ => by omega⟩
      simp only [h2, if_false]
      exact evnow _
theorem to_l0 (l : List S51) (hl : l.length ≤ 1099511627776) : ∀ (n : Nat) (i : Nat) (x : List S56), i + n = l.length → x.length = l.length → x.take i = (l.take i).map conv → Ev (fun k => laws_toEntryS.l0 k l x i) (l.map conv)
  | 0, i, x, h, hx, ht => by
    refine Ev.step (f := fun _ => some x) (fun k => ?_) ?_
    · simp only [laws_toEntryS.l0]; rw [if_neg (by omega)]
    · rw [List.take_of_length_le (by omega), List.take_of_length_le (by omega)] at ht
      rw [ht]; exact evnow _
  | n + 1, i, x, h, hx, ht => by
    have hi : i < l.length := by omega
    refine Ev.step (fun k => ?_) (to_l0 l hl n (i + 1) (x.set i (conv l[i])) (by omega) (by rw [List.length_set]; exact hx) ?_)
    · simp only [laws_toEntryS.l0]
      rw [if_pos (by omega), if_pos (by omega), rdX_get l i hi]
      simp only [laws_toEntry.f, laws_toOp.f, Option.bind_some]
      rw [if_pos (by omega), wrapS i (by omega) (by omega)]
      rfl
    · have := take_set_next x (i : Int) (conv l[i]) (by omega) (by omega)
      simp only [Int.toNat_natCast] at this
      rw [show ((i : Int) + 1).toNat = i + 1 by omega] at this
      rw [this, ht, List.take_succ_eq_append_getElem hi, List.map_append]
      rfl
theorem to_f (l : List S51) (s : Int) (u : Bool) (hl : l.length ≤ 1048576) : Ev (fun k => laws_toServer.f k l s u) (l.map conv, s, u) := by
  unfold laws_toServer.f laws_toEntryS.f
  refine Ev.bind (a := l.map conv) ?_ (evnow _)
  refine ev_pos (by omega) (ev_pos (by omega) ?_)
  exact to_l0 l (by omega) l.length 0 _ (by omega) (by simp) (by simp)
def srvB (l : List S56) (s : Int) : Bool := logB l && (decide (0 ≤ s) && decide (s ≤ (l.length : Int)))
theorem srv_f (l : List S56) (s : Int) (u : Bool) (h : wfL l) : Ev (fun k => impl_ServerOk.f k l s u) (srvB l s) := by
  unfold impl_ServerOk.f srvB
  refine Ev.bind (log_f l h) ?_
  cases logB l with
  | false => simp only [Bool.false_eq_true, if_false, Bool.false_and]; exact evnow _
  | true =>
    simp only [if_true, Bool.true_and]
    by_cases hs : s ≥ 0
    · have : decide (0 ≤ s) = true := decide_eq_true hs
      rw [if_pos hs, this, Bool.true_and]; exact evnow _
    · have : decide (0 ≤ s) = false := decide_eq_false hs
      rw [if_neg hs, this, Bool.false_and]; exact evnow _
theorem ssrv_f (l : List S56) (s : Int) (u : Bool) (h : wfL l) (hl : l.length ≤ 281474976710656) : Ev (fun k => spec_ServerOk.f k l s u) (srvB l s) := by
  unfold spec_ServerOk.f srvB
  refine Ev.bind (slog_f l h hl) ?_
  cases logB l with
  | false => simp only [Bool.false_eq_true, if_false, Bool.false_and]; exact evnow _
  | true =>
    simp only [if_true, Bool.true_and, in_f, Option.bind_some]
    exact evnow _
theorem srvB_true {l : List S56} {s : Int} (h : srvB l s = true) : l.length ≤ 40 ∧ 0 ≤ s ∧ s ≤ l.length := by
  unfold srvB at h
  simp only [Bool.and_eq_true, decide_eq_true_eq] at h
  exact ⟨logB_len h.1, h.2.1, h.2.2⟩
theorem eqS_f (l : List S56) (s : Int) (u : Bool) (hl : l.length ≤ 1099511627776) : Ev (fun k => laws_eqServer.f k l s u l s u) true := by
  unfold laws_eqServer.f
  refine Ev.bind (eqE l hl) ?_
  simp only [if_true, bne_self_eq_false, Bool.false_eq_true, if_false]
  exact evnow _
theorem markS_f (l : List S56) (s : Int) (u : Bool) (a : Int) (hl : l.length ≤ 1099511627776) (ha : 0 ≤ a) (hb : a ≤ 1125899906842624) : Ev (fun k => laws_markServer.f k l s u a) (a + 7 * l.length, marksE a l.length) := by
  unfold laws_markServer.f
  exact Ev.bind (markE_f l a hl ha hb) (evnow _)
end Go.Proofs.YtnclcbjagleoeaaDoor.PL
set_option linter.unusedVariables false
set_option linter.unusedSimpArgs false
namespace Go.Proofs.YtnclcbjagleoeaaDoor.P
open Go.RowKit Go.Proofs.YtnclcbjagleoeaaDoorW.PrintWords Go.Proofs.YtnclcbjagleoeaaDoorW.PrintLast Go.Proofs.YtnclcbjagleoeaaDoorW.PrintMore
/-- What a server at work keeps while it is not written to. -/
theorem Mach.below {w w' : World} {base g : Nat} {l : List S56} {q : Value} {s : Int} {u : Bool} (h : Mach w base g l q s u) (hb : Below w.heap.size w w') : Mach w' base g l q s u := by
  obtain ⟨A, c, h1, h2, h3⟩ := h
  exact ⟨A, c, blk_below h1 hb, Kd.R_below h2 hb, h3⟩
theorem Mach.set_safe {w : World} {base g : Nat} {l : List S56} {q : Value} {s : Int} {u : Bool} (h : Mach w base g l q s u) (x : Int) : Mach (w.setCell ⟨g, 2, none⟩ (.int .i64 x)) base g l q x u := by
  obtain ⟨A, c, h1, h2, h3⟩ := h
  exact ⟨A, c, (blk_set h1 2 _).trans rfl, Kd.R_far h2 (p := ⟨g, 2, none⟩) (fun _ hk => hk) _, h3⟩
end Go.Proofs.YtnclcbjagleoeaaDoor.P
namespace Go.Proofs.YtnclcbjagleoeaaDoor.P
open Go.RowKit Go.Proofs.YtnclcbjagleoeaaDoorW.PrintWords Go.Proofs.YtnclcbjagleoeaaDoorW.PrintLast
set_option linter.unusedVariables false
set_option linter.unusedSimpArgs false
theorem eqA54 (d : Nat) (w : World) (x0 y0 : Int) (x1 y1 : Int) (x2 y2 : Int) (x3 y3 : Int) (x4 y4 : ByteArray) :
    (Op.equalIn (d + 2) 54 (.agg #[.int .i64 x0, .int .i64 x1, .int .i64 x2, .int .i64 x3, .string x4]) (.agg #[.int .i64 y0, .int .i64 y1, .int .i64 y2, .int .i64 y3, .string y4])).run Tryd.prog w = .ok (x0 == y0 && (x1 == y1 && (x2 == y2 && (x3 == y3 && (x4.toList == y4.toList))))) w := by
  refine eqA_of Tryd.underlying54 (by kernel_rfl) ?_
  refine eqf_cons (by rfl) (by go_simp; rfl) (by go_simp; rfl) (by go_simp) ?_
  refine eqf_cons (by rfl) (by go_simp; rfl) (by go_simp; rfl) (by go_simp) ?_
  refine eqf_cons (by rfl) (by go_simp; rfl) (by go_simp; rfl) (by go_simp) ?_
  refine eqf_cons (by rfl) (by go_simp; rfl) (by go_simp; rfl) (by go_simp) ?_
  exact eqf_last (by rfl) (by go_simp; rfl) (by go_simp; rfl) (by go_simp)
theorem eqA56 (d : Nat) (w : World) (x0 y0 : Int) (x1 y1 : Int) (x2 y2 : Int) (x3 y3 : Int) (x4 y4 : Int) (x5 y5 : Int) (x6 y6 : ByteArray) :
    (Op.equalIn (d + 3) 56 (.agg #[.int .i64 x0, .int .i64 x1, .int .i64 x2, .int .i64 x3, .int .i64 x4, .int .i64 x5, .string x6]) (.agg #[.int .i64 y0, .int .i64 y1, .int .i64 y2, .int .i64 y3, .int .i64 y4, .int .i64 y5, .string y6])).run Tryd.prog w = .ok (x0 == y0 && (x1 == y1 && ((x2 == y2 && (x3 == y3 && (x4 == y4 && (x5 == y5 && (x6.toList == y6.toList)))))))) w := by
  refine eqA_of Tryd.underlying56 (by kernel_rfl) ?_
  refine eqf_cons (by rfl) (by go_simp; rfl) (by go_simp; rfl) (by go_simp) ?_
  refine eqf_cons (by rfl) (by go_simp; rfl) (by go_simp; rfl) (by go_simp) ?_
  exact eqf_last (by rfl) (by go_simp) (by go_simp) (eqA54 (d + 0) w _ _ _ _ _ _ _ _ _ _)
end Go.Proofs.YtnclcbjagleoeaaDoor.P
namespace Go.Proofs.YtnclcbjagleoeaaDoor.P
open Go.RowKit Go.Proofs.YtnclcbjagleoeaaDoorW.PrintWords Go.Proofs.YtnclcbjagleoeaaDoorW.PrintLast
set_option linter.unusedVariables false
set_option linter.unusedSimpArgs false
attribute [local go_sem high] eqA56
end Go.Proofs.YtnclcbjagleoeaaDoor.P
set_option linter.unusedVariables false
set_option linter.unusedSimpArgs false
namespace Go.Proofs.YtnclcbjagleoeaaDoor.PL
open Go.RowKit Go.Proofs.YtnclcbjagleoeaaDoor.P Go.Proofs.YtnclcbjagleoeaaDoorW.PrintWords Go.Proofs.YtnclcbjagleoeaaDoorW.PrintLast
theorem copy_f (l : List S56) (s : Int) (u : Bool) (hl : l.length ≤ 40) : spec_l13Copy.f l s u = some (l, s, u) := by
  unfold spec_l13Copy.f
  simp only [Option.bind_some, List.length_nil, List.nil_append]
  rw [if_pos (by omega)]
def fallV (l : List S56) (s : Int) (u : Bool) (a : Int) : List S56 × Int × Bool :=
  if srvB l s = true ∧ 0 ≤ a ∧ a ≤ 40 then (l.take (fallAt l.length s a).toNat, s, u) else ([], 0, false)
theorem fallAt_ok {n : Nat} {s a : Int} (hs : 0 ≤ s) (hn : s ≤ n) (hl : n ≤ 40) (h0 : 0 ≤ a) (h1 : a ≤ 40) : wrap64 (s + a) = s + a ∧ 0 ≤ fallAt n s a := by
  have hw : wrap64 (s + a) = s + a := by unfold wrap64; omega
  refine ⟨hw, ?_⟩
  unfold fallAt
  rw [hw]
  split <;> omega
theorem fall_f (l : List S56) (s : Int) (u : Bool) (a : Int) (h : wfL l) : Ev (fun k => impl_ServerFall.f k l s u a) (fallV l s u a) := by
  unfold impl_ServerFall.f fallV
  refine Ev.bind (srv_f l s u h) ?_
  cases hs : srvB l s with
  | false => simp only [Bool.false_eq_true, if_false, false_and]; exact evnow _
  | true =>
    obtain ⟨hl, h0, h1⟩ := srvB_true hs
    simp only [if_true, true_and]
    by_cases a1 : a < 0
    · rw [if_pos a1, if_neg (by omega)]; exact evnow _
    · by_cases a2 : a > 40
      · rw [if_neg a1, if_pos a2, if_neg (by omega)]; exact evnow _
      · rw [if_neg a1, if_neg a2, if_pos (show l.length < 2199023255552 by omega), if_pos (fallAt_ok h0 h1 hl (by omega) (by omega)).2, if_pos (by omega)]
        exact evnow _
theorem mn_fall (n : Nat) (s a : Int) : mn (n : Int) (wrap64 (s + a)) = fallAt n s a := by
  unfold fallAt mn
  by_cases h : (n : Int) < wrap64 (s + a)
  · rw [if_pos h]; first | (rw [if_pos (by omega)]) | omega
  · rw [if_neg h]; first | (rw [if_neg (by omega)]) | (split <;> omega) | omega
theorem sfall_f (l : List S56) (s : Int) (u : Bool) (a : Int) (h : wfL l) (hl : l.length ≤ 281474976710656) : Ev (fun k => spec_ServerFall.f k l s u a) (fallV l s u a) := by
  unfold spec_ServerFall.f fallV
  refine Ev.bind (ssrv_f l s u h hl) ?_
  cases hs : srvB l s with
  | false =>
    simp only [Bool.false_eq_true, if_false, false_and]
    refine Ev.step (f := fun _ => some ([], 0, false)) (fun k => ?_) (evnow _)
    simp only [spec_ServerFall.j0, if_true]
  | true =>
    obtain ⟨hl, h0, h1⟩ := srvB_true hs
    simp only [if_true, true_and, in_f, Option.bind_some]
    by_cases a1 : 0 ≤ a ∧ a ≤ 40
    · have : (decide (0 ≤ a) && decide (a ≤ 40)) = true := by simp [a1.1, a1.2]
      rw [this, if_pos a1]
      refine Ev.step (f := fun _ => some (l.take (fallAt l.length s a).toNat, s, u)) (fun k => ?_) (evnow _)
      have h3 := (fallAt_ok h0 h1 hl a1.1 a1.2).2
      have h4 := fallAt_le l.length s a
      simp only [spec_ServerFall.j0, Bool.not_true, Bool.false_eq_true, if_false, copy_f l s u hl, Option.bind_some]
      unfold spec_l13Fall.f
      simp only [Option.bind_some, mn_fall]
      rw [if_pos h3, if_pos h4]
      simp only [Option.bind_some, List.length_nil, List.nil_append]
      rw [if_pos (by rw [List.length_take]; omega)]
      rfl
    · have : (decide (0 ≤ a) && decide (a ≤ 40)) = false := by
        cases hq : (decide (0 ≤ a) && decide (a ≤ 40)) with
        | false => rfl
        | true => simp only [Bool.and_eq_true, decide_eq_true_eq] at hq; exact absurd hq a1
      rw [this, if_neg a1]
      refine Ev.step (f := fun _ => some ([], 0, false)) (fun k => ?_) (evnow _)
      simp only [spec_ServerFall.j0, Bool.not_false, if_true]
theorem heldS_f (n : Nat) (s : Int) (u : Bool) (a : Int) (hl : n ≤ 1099511627776) (ha : 0 ≤ a) (hb : a ≤ 1125899906842624) : Ev (fun k => laws_heldServer.f k (marksE a n) s u a) (a + 7 * n) := by
  unfold laws_heldServer.f
  refine Ev.bind (heldE_f n a hl ha hb) ?_
  refine ev_neg (by omega) ?_
  exact evnow _
theorem ev_true {α : Type} {g : Nat → Option α} {r : α} (h : Ev g r) : ∃ k, g k = some r := by
  obtain ⟨K, h⟩ := h
  exact ⟨K, h K (Nat.le_refl K)⟩
theorem FnExactServerFall (l : List S51) (s : Int) (u : Bool) (a : Int) (hw : ∀ e ∈ l, wfX e) (hl : l.length ≤ 9223372036854775807) (_ha : I64 a) : ∃ k, laws_FnExactServerFall.f k l s u a = some true := by
  refine ev_true ?_
  obtain ⟨r, hr, hb⟩ := sz_f l s u hw hl
  unfold laws_FnExactServerFall.f
  refine Ev.bind hr ?_
  by_cases h0 : r < 0
  · refine ev_pos h0 (evnow _)
  · refine ev_neg h0 ?_
    have hlen := hb h0
    have hT := to_f l s u hlen
    have hW := wf_conv hw
    have hcl : (l.map conv).length ≤ 1099511627776 := by rw [List.length_map]; omega
    have hn : (fallV (l.map conv) s u a).1.length ≤ 1099511627776 := by
      unfold fallV
      split
      · show (List.take _ _).length ≤ _
        rw [List.length_take]; omega
      · simp
    have hn2 : ¬ ((1 : Int) + 7 * ((fallV (l.map conv) s u a).1.length : Int) < 0) := by omega
    have hn3 : ¬ ((1 : Int) + 7 * ((l.map conv).length : Int) < 0) := by omega
    refine Ev.bind hT ?_
    refine Ev.bind (sfall_f _ s u a hW (by rw [List.length_map]; omega)) ?_
    refine Ev.bind hT ?_
    refine Ev.bind (fall_f _ s u a hW) ?_
    refine Ev.bind (eqS_f _ _ _ hn) ?_
    refine ev_pos rfl ?_
    refine Ev.bind hT ?_
    refine Ev.bind (eqS_f _ s u hcl) ?_
    refine ev_pos rfl ?_
    refine Ev.bind (markS_f _ s u 1 hcl (by omega) (by omega)) ?_
    refine ev_neg hn3 ?_
    refine Ev.bind (eqS_f _ _ _ hn) ?_
    refine ev_pos rfl ?_
    refine Ev.bind (markS_f _ _ _ 1 hn (by omega) (by omega)) ?_
    refine Ev.bind (heldS_f _ _ _ 1 hn (by omega) (by omega)) ?_
    refine ev_neg hn2 ?_
    refine ev_pos rfl ?_
    refine Ev.bind hT ?_
    refine Ev.bind (fall_f _ s u a hW) ?_
    refine Ev.bind (eqS_f _ _ _ hn) ?_
    refine ev_pos rfl ?_
    refine Ev.bind (heldS_f _ _ _ 1 hn (by omega) (by omega)) ?_
    refine ev_neg hn2 ?_
    exact ev_pos rfl (evnow _)
end Go.Proofs.YtnclcbjagleoeaaDoor.PL
namespace Go.Proofs.YtnclcbjagleoeaaDoor.P
open Go.ChangeShapes Go.WideShapes Go.ChangeAt Go.RowKit
theorem tOwners : (Tryd.prog.globals[0]?).map (·.type) = some 117 := by kernel_rfl
theorem cOwners : Tryd.prog.cellsOf 117 = 37 := by kernel_rfl
theorem cInt : Tryd.prog.cellsOf 3 = 1 := by kernel_rfl
abbrev ownCells : Array Value := (owners.map fun z => Value.int .i64 z).toArray
theorem glob_of_laid {W : World} (h : laidMet Tryd.prog [("loop.example/plashet/impl.rowOwners", Rows.laid_loop_example_plashet_impl_rowOwners)] W) : Glob W :=
  Lib.tabIs_of_head gOwners tOwners Tryd.underlying117 Tryd.underlying3 cInt cOwners h
theorem door_met (os : Os) (args : Array Value) : laidMet Tryd.prog [("loop.example/plashet/impl.rowOwners", Rows.laid_loop_example_plashet_impl_rowOwners)] ((World.doorLaid Tryd.prog 400 os).forCall (fun _ _ => 0) ⟨#[], args, []⟩).memory :=
  laidMet_of_run' 8 (by kernel_rfl) (by kernel_rfl)
abbrev tableH {H : Type} : DataW H := .agg (owners.map fun z => .lit (.int .i64 z))
theorem reads_table {H : Type} (enc : TypeId × Value → H) (W : World) (sp : Nat → Bool) : DataW.trod enc Tryd.prog W 0 sp true 3 117 ownCells.toList = some (tableH, []) := by kernel_rfl
theorem tab_vars {H : Type} (enc : TypeId × Value → H) {W : World} (h : Glob W) {sp : Nat → Bool} : DataW.TrodVars enc Tryd.prog W sp ["loop.example/plashet/impl.rowOwners"] [tableH] (MemPlace.row ⟨0, 0, none⟩ ownCells.size ++ [] ++ []) :=
  ⟨0, 117, ownCells, 3, [], [], gOwners, tOwners, h, reads_table enc W sp, rfl, rfl⟩
end Go.Proofs.YtnclcbjagleoeaaDoor.P
set_option linter.unusedVariables false
set_option linter.unusedSimpArgs false
namespace Go.Proofs.YtnclcbjagleoeaaDoor.PL
open Go.ChangeShapes Go.WideShapes Go.ChangeAt Go.RowKit Go.Deep Go.Joins Go.Proofs.YtnclcbjagleoeaaDoor.P Go.Proofs.YtnclcbjagleoeaaDoorW.PrintWords Go.Proofs.YtnclcbjagleoeaaDoorW.PrintLast
set_option maxRecDepth 100000
section
variable {H : Type} {enc : TypeId × Value → H} {w : World} {base : Nat} {sp : Nat → Bool} {held : Bool}
theorem cO : Tryd.prog.cellsOf 49 = 5 := by kernel_rfl
theorem cX : Tryd.prog.cellsOf 51 = 7 := by kernel_rfl
theorem cS : Tryd.prog.cellsOf 9 = 1 := by kernel_rfl
theorem i64_of {n : Int} (h : (Lit.int .i64 n).wf = true) : I64 n := by
  simp only [Lit.wf, Bool.and_eq_true, decide_eq_true_eq] at h
  obtain ⟨h1, h2⟩ := h
  exact ⟨h1, h2⟩
/-- A field of one whole number. -/
theorem fld_int {n o : Nat} {cs : List Value} {y : DataW H × List MemPlace} (h : DataW.trod enc Tryd.prog w base sp held n 3 ((cs.drop o).take (Tryd.prog.cellsOf 3)) = some y) : ∃ a : Int, cs[o]? = some (.int .i64 a) ∧ I64 a := by
  obtain ⟨a, e, _, hw⟩ := DataW.trod_int Tryd.underlying3 h
  refine ⟨a, ?_, i64_of hw⟩
  rw [cInt] at e
  have := congrArg (·[0]?) e
  simpa [List.getElem?_take, List.getElem?_drop] using this
theorem fld_str {n o : Nat} {cs : List Value} {y : DataW H × List MemPlace} (h : DataW.trod enc Tryd.prog w base sp held n 9 ((cs.drop o).take (Tryd.prog.cellsOf 9)) = some y) : ∃ s : ByteArray, cs[o]? = some (.string s) ∧ s.size ≤ 9223372036854775807 := by
  obtain ⟨s, e, _, hw⟩ := DataW.trod_string Tryd.underlying9 h
  refine ⟨s, ?_, hw⟩
  rw [cS] at e
  have := congrArg (·[0]?) e
  simpa [List.getElem?_take, List.getElem?_drop] using this
theorem open_op {fuel : Nat} {cs : List Value} {y : DataW H × List MemPlace} (h : DataW.trod enc Tryd.prog w base sp held fuel 49 cs = some y) :
    ∃ (a b c d : Int) (s : ByteArray), cs = [.int .i64 a, .int .i64 b, .int .i64 c, .int .i64 d, .string s] ∧ I64 a ∧ I64 b ∧ I64 c ∧ I64 d ∧ s.size ≤ 9223372036854775807 := by
  obtain ⟨xs, n, _, _, hl, hlen, hf⟩ := DataW.trod_struct Tryd.underlying49 h
  rw [cO] at hl
  match xs, hlen, hf with
  | [y0, y1, y2, y3, y4], _, hf =>
    obtain ⟨a, e0, w0⟩ := fld_int (o := 0) (hf 0 _ rfl)
    obtain ⟨b, e1, w1⟩ := fld_int (o := 1) (hf 1 _ rfl)
    obtain ⟨c, e2, w2⟩ := fld_int (o := 2) (hf 2 _ rfl)
    obtain ⟨d, e3, w3⟩ := fld_int (o := 3) (hf 3 _ rfl)
    obtain ⟨s, e4, w4⟩ := fld_str (o := 4) (hf 4 _ rfl)
    match cs, hl, e0, e1, e2, e3, e4 with
    | [c0, c1, c2, c3, c4], _, e0, e1, e2, e3, e4 =>
      simp only [List.getElem?_cons_zero, List.getElem?_cons_succ, Option.some.injEq] at e0 e1 e2 e3 e4
      subst e0 e1 e2 e3 e4
      exact ⟨a, b, c, d, s, rfl, w0, w1, w2, w3, w4⟩
theorem open_entry {fuel : Nat} {cs : List Value} {y : DataW H × List MemPlace} (h : DataW.trod enc Tryd.prog w base sp held fuel 51 cs = some y) :
    ∃ e : S51, cs = [.int .i64 e.f0, .int .i64 e.f1, .int .i64 e.f2.f0, .int .i64 e.f2.f1, .int .i64 e.f2.f2, .int .i64 e.f2.f3, .string e.f2.f4] ∧ wfX e := by
  obtain ⟨xs, n, _, _, hl, hlen, hf⟩ := DataW.trod_struct Tryd.underlying51 h
  rw [cX] at hl
  match xs, hlen, hf with
  | [y0, y1, y2], _, hf =>
    obtain ⟨a, e0, w0⟩ := fld_int (o := 0) (hf 0 _ rfl)
    obtain ⟨b, e1, w1⟩ := fld_int (o := 1) (hf 1 _ rfl)
    have h2 : DataW.trod enc Tryd.prog w base sp held n 49 ((cs.drop 2).take (Tryd.prog.cellsOf 49)) = some y2 := hf 2 _ rfl
    obtain ⟨o0, o1, o2, o3, s, e2, u0, u1, u2, u3, u4⟩ := open_op h2
    rw [cO] at e2
    match cs, hl, e0, e1, e2 with
    | [c0, c1, c2, c3, c4, c5, c6], _, e0, e1, e2 =>
      simp only [List.getElem?_cons_zero, List.getElem?_cons_succ, Option.some.injEq] at e0 e1
      subst e0 e1
      simp only [List.drop_succ_cons, List.drop_zero, List.take_succ_cons, List.take_zero, List.cons.injEq, and_true] at e2
      obtain ⟨rfl, rfl, rfl, rfl, rfl⟩ := e2
      exact ⟨⟨a, b, ⟨o0, o1, o2, o3, s⟩⟩, rfl, w0, w1, u0, u1, u2, u3, u4⟩
theorem list_of_all {α : Type} (P : Nat → α → Prop) : ∀ n : Nat, (∀ i, i < n → ∃ e, P i e) → ∃ l : List α, l.length = n ∧ ∀ i e, l[i]? = some e → P i e
  | 0, _ => ⟨[], rfl, fun i e h => by simp at h⟩
  | n + 1, h => by
    obtain ⟨l, hl, hp⟩ := list_of_all P n (fun i hi => h i (by omega))
    obtain ⟨e, he⟩ := h n (by omega)
    refine ⟨l ++ [e], by simp [hl], fun i x hx => ?_⟩
    rcases Nat.lt_or_ge i l.length with hi | hi
    · rw [List.getElem?_append_left hi] at hx
      exact hp i x hx
    · rw [List.getElem?_append_right hi] at hx
      have h0 : i - l.length = 0 := by
        rcases Nat.eq_zero_or_pos (i - l.length) with h0 | h0
        · exact h0
        · rw [List.getElem?_eq_none (by simp; omega)] at hx
          cases hx
      rw [h0] at hx
      simp only [List.getElem?_cons_zero, Option.some.injEq] at hx
      subst hx
      rw [show i = n by omega]
      exact he
/-- A slice of entries, opened. -/
theorem open_entries {fuel : Nat} {cs : List Value} {y : DataW H × List MemPlace} (h : DataW.trod enc Tryd.prog w base sp held fuel 22 cs = some y) :
    ∃ (A : Option Addr) (cap : Nat) (l : List S51), cs = [.slice A l.length cap] ∧ Kd.C k51 w A l.length l ∧ l.length ≤ cap ∧ l.length ≤ 9223372036854775807 ∧ ∀ e ∈ l, wfX e := by
  rcases open_slice Tryd.underlying22 h with ⟨rfl, _⟩ | ⟨a, len, cap, m, n, D, Pl, rfl, _, hl, hm, hmm, _, hel⟩
  · exact ⟨none, 0, [], rfl, Kd.C_nil _ _, by simp, by simp, fun e he => by cases he⟩
  · have hlm : len ≤ m := by rw [hmm]; split <;> omega
    obtain ⟨l, hlen, hp⟩ := list_of_all (fun i (e : S51) => wfX e ∧ w.cells? base (a.add (i * 7)) 7 = some [.int .i64 e.f0, .int .i64 e.f1, .int .i64 e.f2.f0, .int .i64 e.f2.f1, .int .i64 e.f2.f2, .int .i64 e.f2.f3, .string e.f2.f4]) len (fun i hi => by
      obtain ⟨cs', hc, hd⟩ := hel i (by omega)
      obtain ⟨e, rfl, hw⟩ := open_entry hd
      rw [cX] at hc
      exact ⟨e, hw, hc⟩)
    have hmx : cap ≤ 9223372036854775807 := hm
    refine ⟨some a, cap, l, by rw [hlen], ⟨rfl, by omega, fun _ => ⟨a, rfl, fun j p hj => ?_⟩⟩, by omega, by omega, fun e he => ?_⟩
    · obtain ⟨_, hc⟩ := hp j p hj
      refine ⟨_, rfl, k51_mk w p, fun i u hu => ?_⟩
      obtain ⟨_, hlc, hc2⟩ := World.cells?_some hc
      have hi : i < 7 := by
        rcases Nat.lt_or_ge i 7 with hi | hi
        · exact hi
        · rw [List.getElem?_eq_none (by rw [hlc]; exact hi)] at hu
          cases hu
      have := hc2 i hi
      rw [hu] at this
      show w.cell? (a.add (j * 7 + i)) = some u
      rw [← this]
      congr 1
      generalize j * 7 = x
      unfold Addr.add
      by_cases h1 : x = 0 <;> by_cases h2 : i = 0 <;> simp [h1, h2, Nat.add_assoc]
    · obtain ⟨i, hi, rfl⟩ := List.getElem_of_mem he
      exact (hp i _ (List.getElem?_eq_getElem hi)).1
/-- A server, opened. -/
theorem open_server {v : Value} {d : DataW H} {p : List MemPlace} (hv : Value.okWide Tryd.prog w .any base 24 v) (h : DataW.Trod enc Tryd.prog w 0 sp held 24 v d p) :
    ∃ (A : Option Addr) (cap : Nat) (l : List S51) (s : Int) (u : Bool), v = .agg #[.slice A l.length cap, .int .i64 s, .bool u] ∧ Kd.C k51 w A l.length l ∧ l.length ≤ cap ∧ l.length ≤ 9223372036854775807 ∧ (∀ e ∈ l, wfX e) ∧ I64 s := by
  obtain ⟨v0, v1, v2, y0, y1, y2, n, rfl, rfl, rfl, h0, h1, h2⟩ := open_agg3 Tryd.underlying24 (by kernel_rfl) (by kernel_rfl) hv h
  obtain ⟨A, cap, l, e0, hC, hc, hl, hw⟩ := open_entries h0
  obtain ⟨s, e1, _, hs⟩ := DataW.trod_int Tryd.underlying3 h1
  obtain ⟨u, e2, _⟩ := DataW.trod_bool Tryd.underlying4 h2
  obtain rfl := (List.cons.inj e0).1
  obtain rfl := (List.cons.inj e1).1
  obtain rfl := (List.cons.inj e2).1
  exact ⟨A, cap, l, s, u, rfl, hC, hc, hl, hw, i64_of hs⟩
end
end Go.Proofs.YtnclcbjagleoeaaDoor.PL
namespace Go.Proofs.YtnclcbjagleoeaaDoor.fnExactServerFall
open Go.ChangeShapes Go.WideShapes Go.ChangeAt Go.RowKit
open Go.ChangeMaps (open_string shut_string)
set_option linter.unusedVariables false
theorem own : ownKnob Tryd.prog.godebug = none := by kernel_rfl
theorem laidOut : laidOutB Tryd.prog = true := by kernel_rfl
set_option maxRecDepth 100000 in
theorem lifted (os : Os) (started : os.Started) (H : Type) (enc : TypeId × Value → H) :
    ReturnsInHanded {} Tryd.checked os 5 .any (fun w args => (Rows.fnExactServerFallSpec.pre enc Tryd.prog Tryd.f5 [] false w args ∧ laidMet Tryd.prog [("loop.example/plashet/impl.rowOwners", Rows.laid_loop_example_plashet_impl_rowOwners)] w) ∧ sizedMet enc Tryd.prog Tryd.f5 (OpenSpec.ofChange Rows.fnExactServerFallSpec) false w args) (Rows.fnExactServerFallSpec.post enc Tryd.prog Tryd.f5 false true false false) := by
  refine returnsInHanded_of_change_and (C := Tryd.checked) (X := fun w _ => laidMet Tryd.prog [("loop.example/plashet/impl.rowOwners", Rows.laid_loop_example_plashet_impl_rowOwners)] w) (fun _ _ _ hh h => h.of_heap hh) own started (by kernel_rfl) Tryd.func5
    (ChangeSpec.witness_shaped (enc := enc) (C := Tryd.checked) (os := os) (X := fun w _ => laidMet Tryd.prog [("loop.example/plashet/impl.rowOwners", Rows.laid_loop_example_plashet_impl_rowOwners)] w) false (World.doorLaid Tryd.prog 400 os) #[.agg #[.slice none 0 0, .int .i64 0, .bool false], .int .i64 0] 8 rfl (World.shaped_of_RefB (by kernel_rfl) (by kernel_rfl)) (by kernel_rfl) (by kernel_rfl) (by kernel_rfl) (P.door_met os _)) ?_
  intro W base args ds gs before hval0 hW _ _ hL _
  have hval : ∀ (j : Nat) t v, Tryd.f5.params[j]? = some t → args[j]? = some v → Value.okWide Tryd.prog W .any base t v := hval0
  have hW' := hW
  obtain ⟨p, q, hA0, hV, rfl, hfz, hnd⟩ := hW
  have hA : DataW.TrodAll enc Tryd.prog W 0 (fun _ => true) true Tryd.f5.params.toList args.toList ds p := hA0
  rw [Tryd.params5] at hA hval
  obtain ⟨v0, vs0, d0, ds0, p0, q0, hargs, rfl, rfl, h0, r0⟩ := trodAll_cons hA
  obtain ⟨v1, vs1, d1, ds1, p1, q1, rfl, rfl, rfl, h1, r1⟩ := trodAll_cons r0
  obtain ⟨rfl, rfl, rfl⟩ := trodAll_nil r1
  obtain rfl : args = #[v0, v1] := by cases args; simp_all
  have hG : P.Glob W := P.glob_of_laid hL
  obtain ⟨gv, tv, csv, fuelv, dv, pv, rfl, hgv, htv, hvarv, hdv, rfl⟩ := trodVars_one hV
  obtain rfl : csv = P.ownCells := Option.some.inj (hvarv.symm.trans hG)
  obtain rfl := Option.some.inj (P.tOwners.symm.trans (by rw [Option.some.inj (P.gOwners.symm.trans hgv)]; exact htv))
  obtain ⟨rfl, rfl⟩ := DataW.Trod.unique (v := .agg P.ownCells) ⟨fuelv, hdv⟩ ⟨3, P.reads_table enc W _⟩
  have k0 := h0
  have lt0 : ∀ x ∈ p0, x.block < W.heap.size := by obtain ⟨m, hm⟩ := k0; exact DataW.trod_lt m _ _ _ hm
  obtain ⟨A0, c0, l0, s0, u0, rfl, hC0, hc0, hL0, hw0, hs0⟩ := PL.open_server (hval 0 24 v0 rfl rfl) h0
  have k1 := h1
  have lt1 : ∀ x ∈ p1, x.block < W.heap.size := by obtain ⟨m, hm⟩ := k1; exact DataW.trod_lt m _ _ _ hm
  obtain ⟨a1, rfl, rfl, rfl, wa1⟩ := open_int Tryd.underlying3 (hval 1 3 v1 rfl rfl) h1
  clear hA0 hval0
  obtain ⟨k, hk⟩ := PL.FnExactServerFall l0 s0 u0 a1 hw0 hL0 (PL.i64_of wa1)
  refine (P.laws_FnExactServerFall.calls k _ _ l0 s0 u0 a1 true W hC0 hc0 hk hG).mono fun e W' ⟨he, bel⟩ => ?_
  subst he
  exact ⟨_, rfl, _, _, _, _, _, _, hW', trodAll_mk1 (shut_bool Tryd.underlying4 _), (trodAll_cons_mk (Below.trod laidOut (by kernel_rfl) (of_decide_eq_true (by kernel_rfl)) k0 bel lt0) (trodAll_cons_mk (Below.trod laidOut (by kernel_rfl) (of_decide_eq_true (by kernel_rfl)) k1 bel lt1) trodAll_mk0)), P.tab_vars enc (hG.below bel), bel.frame _, fun h => by cases h⟩
theorem proved : Rows.FnExactServerFallSaid :=
  OpenClaim.holds_of_wide 5 Tryd.f5 rfl rfl rfl rfl rfl rfl rfl ⟨rfl, rfl, rfl, rfl, rfl⟩ rfl rfl rfl rfl rfl (by kernel_rfl) Tryd.func5 (by kernel_rfl)
    (of_decide_eq_true (by kernel_rfl)) (by unfold Func.isWrapper; first | (rw [if_pos (by decide +kernel)]; kernel_rfl) | (rw [if_neg (by decide +kernel)]; exact ⟨rfl, rfl⟩))
    (fun os started H enc _ => lifted os started H enc)
end Go.Proofs.YtnclcbjagleoeaaDoor.fnExactServerFall
namespace Go.Proofs.YtnclcbjagleoeaaDoor
/-- The row, under a short name. -/
theorem fnExactServerFall_holds : Rows.FnExactServerFallSaid := fnExactServerFall.proved
end Go.Proofs.YtnclcbjagleoeaaDoor
namespace Go.Proofs.YtnclcbjagleoeaaDoor
open Go
theorem fnExactServerFallCard_holds : Rows.FnExactServerFallCardSaid :=
  Claim7.holds_tied_plain_at .later [] [.data] true (true, "57cd4da34d3600158406d32b39c8655b8f1177fc2a013a7f45b784ef106e8989") false
    fnExactServerFall_holds (fun _ h => by cases h) (by kernel_rfl) (fun _ h => by cases h) fnExactServerFall_row_tie rfl ⟨rfl, rfl⟩ (by kernel_rfl) rfl
    (fun f fn hf hfn => by
      obtain rfl : f = 5 := Option.some.inj ((show Tryd.prog.funcNamed "loop.example/plashet/laws.FnExactServerFall" = some 5 by kernel_rfl).symm.trans hf) |>.symm
      obtain rfl : fn = Tryd.f5 := (Option.some.inj (Tryd.func5.symm.trans hfn)).symm
      exact ⟨by kernel_rfl, fun j t ht => by
        rw [Tryd.params5] at ht
        have hm : t ∈ [3, 24] := by have := Array.mem_of_getElem? ht; simp at this; first | (subst this; simp; done) | (rcases this with h | h <;> simp [h]; done) | (rcases this with h | h | h <;> simp [h]; done)
        have hall : ([3, 24].all fun u => !Tryd.prog.wantsStandIn u) = true := by kernel_rfl
        exact (show Tryd.prog.wantsStandIn t = false by simpa using List.all_eq_true.1 hall t hm)⟩)
    (by kernel_rfl)
#print axioms fnExactServerFallCard_holds
end Go.Proofs.YtnclcbjagleoeaaDoor
