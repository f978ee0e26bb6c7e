/- Joined by a program (wip/shake.py): the declarations that 'YtnclcbjagleoeaaDoorCardFnExactServerSync' reaches. -/
import Derived.Test.YtnclcbjagleoeaaDoorZSy3
set_option linter.unusedVariables false
set_option linter.unusedSimpArgs false
namespace Go.Proofs.YtnclcbjagleoeaaDoor.P
open Go.RowKit Go.Proofs.YtnclcbjagleoeaaDoorW.PrintWords Go.Proofs.YtnclcbjagleoeaaDoorW.PrintLast Go.Proofs.YtnclcbjagleoeaaDoorW.PrintMore
def impl_ServerSync.f (k : Nat) (l0_0 : List S56) (a0_1 : Int) (a0_2 : Bool) : Option (List S56 × Int × Bool × Bool) :=
  (impl_ServerOk.f k l0_0 a0_1 a0_2).bind fun t => if t = true then (if l0_0.length < 2199023255552 then (if a0_2 = true then some (l0_0, (l0_0.length : Int), true, true) else some (l0_0, a0_1, false, false)) else none) else some ([], 0, false, false)
theorem impl_ServerSync.mono (l0_0 : List S56) (a0_1 : Int) (a0_2 : Bool) (k : Nat) : LeO (impl_ServerSync.f k l0_0 a0_1 a0_2) (impl_ServerSync.f (k + 1) l0_0 a0_1 a0_2) := by
  unfold impl_ServerSync.f
  exact LeO.bind (impl_ServerOk.mono _ _ _ _) (fun _ => LeO.refl _)
/-- What a server at work keeps while it is not written to. -/
theorem Mach.below {w w' : World} {base g : Nat} {l : List S56} {q : Value} {s : Int} {u : Bool} (h : Mach w base g l q s u) (hb : Below w.heap.size w w') : Mach w' base g l q s u := by
  obtain ⟨A, c, h1, h2, h3⟩ := h
  exact ⟨A, c, blk_below h1 hb, Kd.R_below h2 hb, h3⟩
theorem Mach.set_safe {w : World} {base g : Nat} {l : List S56} {q : Value} {s : Int} {u : Bool} (h : Mach w base g l q s u) (x : Int) : Mach (w.setCell ⟨g, 2, none⟩ (.int .i64 x)) base g l q x u := by
  obtain ⟨A, c, h1, h2, h3⟩ := h
  exact ⟨A, c, (blk_set h1 2 _).trans rfl, Kd.R_far h2 (p := ⟨g, 2, none⟩) (fun _ hk => hk) _, h3⟩
set_option maxHeartbeats 4000000 in
set_option maxRecDepth 100000 in
theorem impl_ServerSync.calls (k : Nat) (A0_0 : Option Addr) (c0_0 : Nat) (l0_0 : List S56) (a0_1 : Int) (a0_2 : Bool) (r1 : List S56) (r2 : Int) (r3 : Bool) (r4 : Bool) (w : World) (hr0_0 : Kd.C k56 w A0_0 l0_0.length l0_0) (hc0_0 : l0_0.length ≤ c0_0) (h : impl_ServerSync.f k l0_0 a0_1 a0_2 = some (r1, r2, r3, r4)) (hG : Glob w) :
    Calls Tryd.prog 33 #[.agg #[.slice A0_0 l0_0.length c0_0, .int .i64 a0_1, .bool a0_2]] w fun e w' => ∃ v0_ : Value, e = .returned (.tuple #[.agg #[v0_, .int .i64 r2, .bool r3], .bool r4]) ∧ Kd.R k56 56 w' w.heap.size (fun _ => True) v0_ r1 ∧ Below w.heap.size w w' := by
  have HR0 := Aside0.mk hr0_0
  have HC0 := Aside0.mk hc0_0
  have HG := Aside0.mk hG
  clear hr0_0 hc0_0 hG
  have hu1 := Tryd.underlying29
  have hu2 := Tryd.underlying83
  have hu3 := Tryd.underlying79
  unfold impl_ServerSync.f at h
  obtain ⟨t, ht, h⟩ := Option.bind_eq_some_iff.1 h
  have HT := Aside0.mk ht
  clear ht
  cases t with
  | false =>
    simp only [Bool.false_eq_true, if_false, Option.some.injEq, Prod.mk.injEq] at h
    obtain ⟨rfl, rfl, rfl, rfl⟩ := h
    go_enter Tryd.func33, Tryd.ntmps33
    go_wp2_with (first | ((with_reducible refine gate_dst (N := 1) rfl ?_); refine box_event ?hg (N := 1) ?hd (cs := #[.slice A0_0 l0_0.length c0_0, .int .i64 a0_1, .bool a0_2]) (t := 29) ?hr ?_; (case hd => rfl); (case hg => rfl); (case hr => first | (go_simp; done) | (go_simp; rfl)); intro g1 hg1 w1 hbox1 hb1; have HB1 := Aside0.mk hb1; have BK1 := Aside0.mk hbox1; clear hb1 hbox1 hg1) | ((with_reducible refine gate_dst (N := 2) rfl ?_); refine box_event ?hg (N := 2) ?hd (cs := #[.slice none 0 0, .int .i64 0, .bool false]) (t := 29) ?hr ?_; (case hd => rfl); (case hg => rfl); (case hr => first | (go_simp; done) | (go_simp; rfl)); intro g2 hg2 w2 hbox2 hb2; have BK12 := Aside0.mk (blk_below BK1.out hb2); have HB2 := Aside0.mk (below_step HB1.out hb2); have BK2 := Aside0.mk hbox2; have GE2 := Aside0.mk (show w.heap.size ≤ g2 by rw [hg2]; exact HB1.out.size); have LT2 := Aside0.mk (blk_lt hbox2); clear hb2 hbox2 hg2; have hx0 : w2.cell? ⟨g1, 0, none⟩ = some (.slice A0_0 l0_0.length c0_0) := (blk_cell BK12.out 0).trans rfl; have hx1 : w2.cell? ⟨g1, 1, none⟩ = some (.int .i64 a0_1) := (blk_cell BK12.out 1).trans rfl; have hx2 : w2.cell? ⟨g1, 2, none⟩ = some (.bool a0_2) := (blk_cell BK12.out 2).trans rfl) | (go_at_call 26; refine (impl_ServerOk.calls k _ _ l0_0 a0_1 a0_2 false _ (Kd.C_below HR0.out HB2.out) HC0.out HT.out (HG.out.below HB2.out)).mono ?_; rintro e w3 ⟨rfl, hb3⟩; have BK13 := Aside0.mk (blk_below BK12.out hb3); have BK23 := Aside0.mk (blk_below BK2.out hb3); have HB3 := Aside0.mk (below_step HB2.out hb3); have LT3 := Aside0.mk (Nat.lt_of_lt_of_le LT2.out hb3.size); clear hb3; have hy0 : w3.cell? ⟨g1, 0, none⟩ = some (.slice A0_0 l0_0.length c0_0) := (blk_cell BK13.out 0).trans rfl; have hy1 : w3.cell? ⟨g1, 1, none⟩ = some (.int .i64 a0_1) := (blk_cell BK13.out 1).trans rfl; have hy2 : w3.cell? ⟨g1, 2, none⟩ = some (.bool a0_2) := (blk_cell BK13.out 2).trans rfl; have hz0 : w3.cell? ⟨g2, 0, none⟩ = some (.slice none 0 0) := (blk_cell BK23.out 0).trans rfl; have hz1 : w3.cell? ⟨g2, 1, none⟩ = some (.int .i64 0) := (blk_cell BK23.out 1).trans rfl; have hz2 : w3.cell? ⟨g2, 2, none⟩ = some (.bool false) := (blk_cell BK23.out 2).trans rfl; have hzf0 := blk_frozen BK23.out 0; have hzf1 := blk_frozen BK23.out 1; have hzf2 := blk_frozen BK23.out 2))
    (try simp only [Exit.inBlock, Exit.then])
    refine bodyPost_ret (results_ct rfl _ _ g2 29 #[.slice none 0 0, .int .i64 0, .bool false] (0, 0) _ rfl ((blk_set (blk_set (blk_set BK23.out 0 _) 1 _) 2 _).trans rfl) Tryd.underlying29 rfl (by kernel_rfl)) rfl ?_
    exact ⟨_, rfl, Kd.R_nil _ _ _ _ _, below_set (below_set (below_set HB3.out GE2.out) GE2.out) GE2.out⟩
  | true =>
    rw [if_pos rfl] at h
    by_cases hl : l0_0.length < 2199023255552
    · rw [if_pos hl] at h
      have LM := Aside0.mk hl
      clear hl
      cases a0_2 with
      | false =>
        simp only [Bool.false_eq_true, if_true, if_false, Option.some.injEq, Prod.mk.injEq] at h
        obtain ⟨rfl, rfl, rfl, rfl⟩ := h
        go_enter Tryd.func33, Tryd.ntmps33
        go_wp2_with (first | ((with_reducible refine gate_dst (N := 1) rfl ?_); refine box_event ?hg (N := 1) ?hd (cs := #[.slice A0_0 l0_0.length c0_0, .int .i64 a0_1, .bool false]) (t := 29) ?hr ?_; (case hd => rfl); (case hg => rfl); (case hr => first | (go_simp; done) | (go_simp; rfl)); intro g1 hg1 w1 hbox1 hb1; have HB1 := Aside0.mk hb1; have BK1 := Aside0.mk hbox1; clear hb1 hbox1 hg1) | ((with_reducible refine gate_dst (N := 2) rfl ?_); refine box_event ?hg (N := 2) ?hd (cs := #[.slice none 0 0, .int .i64 0, .bool false]) (t := 29) ?hr ?_; (case hd => rfl); (case hg => rfl); (case hr => first | (go_simp; done) | (go_simp; rfl)); intro g2 hg2 w2 hbox2 hb2; have BK12 := Aside0.mk (blk_below BK1.out hb2); have HB2 := Aside0.mk (below_step HB1.out hb2); have BK2 := Aside0.mk hbox2; have GE2 := Aside0.mk (show w.heap.size ≤ g2 by rw [hg2]; exact HB1.out.size); have LT2 := Aside0.mk (blk_lt hbox2); clear hb2 hbox2 hg2; have hx0 : w2.cell? ⟨g1, 0, none⟩ = some (.slice A0_0 l0_0.length c0_0) := (blk_cell BK12.out 0).trans rfl; have hx1 : w2.cell? ⟨g1, 1, none⟩ = some (.int .i64 a0_1) := (blk_cell BK12.out 1).trans rfl; have hx2 : w2.cell? ⟨g1, 2, none⟩ = some (.bool false) := (blk_cell BK12.out 2).trans rfl) | (go_at_call 26; refine (impl_ServerOk.calls k _ _ l0_0 a0_1 false true _ (Kd.C_below HR0.out HB2.out) HC0.out HT.out (HG.out.below HB2.out)).mono ?_; rintro e w3 ⟨rfl, hb3⟩; have BK13 := Aside0.mk (blk_below BK12.out hb3); have BK23 := Aside0.mk (blk_below BK2.out hb3); have HB3 := Aside0.mk (below_step HB2.out hb3); have LT3 := Aside0.mk (Nat.lt_of_lt_of_le LT2.out hb3.size); clear hb3; have hy0 : w3.cell? ⟨g1, 0, none⟩ = some (.slice A0_0 l0_0.length c0_0) := (blk_cell BK13.out 0).trans rfl; have hy1 : w3.cell? ⟨g1, 1, none⟩ = some (.int .i64 a0_1) := (blk_cell BK13.out 1).trans rfl; have hy2 : w3.cell? ⟨g1, 2, none⟩ = some (.bool false) := (blk_cell BK13.out 2).trans rfl; have hz0 : w3.cell? ⟨g2, 0, none⟩ = some (.slice none 0 0) := (blk_cell BK23.out 0).trans rfl; have hz1 : w3.cell? ⟨g2, 1, none⟩ = some (.int .i64 0) := (blk_cell BK23.out 1).trans rfl; have hz2 : w3.cell? ⟨g2, 2, none⟩ = some (.bool false) := (blk_cell BK23.out 2).trans rfl; have hzf0 := blk_frozen BK23.out 0; have hzf1 := blk_frozen BK23.out 1; have hzf2 := blk_frozen BK23.out 2) | (go_at_call 61; refine (impl_machineOf.calls _ _ l0_0 a0_1 false _ (Kd.C_below HR0.out HB3.out) HC0.out LM.out).mono ?_; rintro e w4 ⟨g, rfl, ⟨A4, c4, hk4, hr4, hge4⟩, hb4⟩; have HK4 := Aside0.mk hk4; have HRR4 := Aside0.mk hr4; have GE4 := Aside0.mk (Nat.le_trans HB3.out.size hge4); have NE4 := Aside0.mk (show g2 ≠ g by have := LT3.out; omega); have BK24 := Aside0.mk (blk_below BK23.out hb4); have HB4 := Aside0.mk (below_step HB3.out hb4); clear hb4 hk4 hr4 hge4; have hm0 : w4.cell? ⟨g, 0, none⟩ = some (.slice A4 l0_0.length c4) := (blk_cell HK4.out 0).trans rfl; have hm2 : w4.cell? ⟨g, 2, none⟩ = some (.int .i64 a0_1) := (blk_cell HK4.out 2).trans rfl; have hm3 : w4.cell? ⟨g, 3, none⟩ = some (.bool false) := (blk_cell HK4.out 3).trans rfl; have hmf := blk_frozen HK4.out 2))
        have HM5 := Aside0.mk (show Mach w4 0 g l0_0 (.slice none 0 0) a0_1 false from ⟨A4, c4, HK4.out, Kd.R_lower HRR4.out (Nat.zero_le _), Nat.zero_le _⟩)
        have BK25 := BK24
        have HB5 := HB4
        generalize w4 = W5 at HM5 BK25 HB5 ⊢
        have HMd := Aside0.mk (HM5.out.below (below_drew1 (Below.refl _ _)))
        have BKd := Aside0.mk (blk_drew BK25.out)
        have HBd := Aside0.mk (below_drew1 HB5.out)
        have hup5 : W5.cell? ⟨g, 3, none⟩ = some (.bool false) := by
          obtain ⟨A7, c7, h7, _, _⟩ := HM5.out
          exact (blk_cell h7 3).trans rfl
        go_region_with (go_at_call 62; refine (impl_mserver.calls 0 g l0_0 _ a0_1 false _ HMd.out LM.out).mono ?_; rintro e w6 ⟨v6, rfl, ho6, hb6⟩; obtain ⟨A6, c6, rfl⟩ := Kd.R_slice ho6; have HO6 := Aside0.mk (Kd.R_newB ho6 BKd.out); have HB6 := Aside0.mk (below_step HBd.out hb6); have BK6 := Aside0.mk (blk_below BKd.out hb6); have HM6 := Aside0.mk (HMd.out.below hb6); clear ho6 hb6; have hz0 : w6.cell? ⟨g2, 0, none⟩ = some (.slice none 0 0) := (blk_cell BK6.out 0).trans rfl; have hz1 : w6.cell? ⟨g2, 1, none⟩ = some (.int .i64 0) := (blk_cell BK6.out 1).trans rfl; have hz2 : w6.cell? ⟨g2, 2, none⟩ = some (.bool false) := (blk_cell BK6.out 2).trans rfl; have hzf0 := blk_frozen BK6.out 0; have hzf1 := blk_frozen BK6.out 1; have hzf2 := blk_frozen BK6.out 2; have hup6 : w6.cell? ⟨g, 3, none⟩ = some (.bool false) := (by obtain ⟨A7, c7, h7, _, _⟩ := HM6.out; exact (blk_cell h7 3).trans rfl))
        all_goals go_wp2
        all_goals (try simp only [Exit.inBlock, Exit.then])
        all_goals refine bodyPost_ret (results_ct rfl _ _ g2 29 #[.slice A6 l0_0.length c6, .int .i64 a0_1, .bool false] (0, 0) _ rfl ((blk_set (blk_set (blk_set BK6.out 0 _) 1 _) 2 _).trans rfl) Tryd.underlying29 rfl (by kernel_rfl)) rfl ?_
        all_goals refine ⟨_, rfl, ?_, below_set (below_set (below_set HB6.out GE2.out) GE2.out) GE2.out⟩
        all_goals exact Kd.R_mono (Kd.R_far (Kd.R_far (Kd.R_far (Kd.R_lower HO6.out HBd.out.size) (p := ⟨g2, 0, none⟩) (fun _ hk => hk.2) _) (p := ⟨g2, 1, none⟩) (fun _ hk => hk.2) _) (p := ⟨g2, 2, none⟩) (fun _ hk => hk.2) _) (fun _ _ => trivial)
      | true =>
        simp only [Bool.false_eq_true, if_true, if_false, Option.some.injEq, Prod.mk.injEq] at h
        obtain ⟨rfl, rfl, rfl, rfl⟩ := h
        go_enter Tryd.func33, Tryd.ntmps33
        go_wp2_with (first | ((with_reducible refine gate_dst (N := 1) rfl ?_); refine box_event ?hg (N := 1) ?hd (cs := #[.slice A0_0 l0_0.length c0_0, .int .i64 a0_1, .bool true]) (t := 29) ?hr ?_; (case hd => rfl); (case hg => rfl); (case hr => first | (go_simp; done) | (go_simp; rfl)); intro g1 hg1 w1 hbox1 hb1; have HB1 := Aside0.mk hb1; have BK1 := Aside0.mk hbox1; clear hb1 hbox1 hg1) | ((with_reducible refine gate_dst (N := 2) rfl ?_); refine box_event ?hg (N := 2) ?hd (cs := #[.slice none 0 0, .int .i64 0, .bool false]) (t := 29) ?hr ?_; (case hd => rfl); (case hg => rfl); (case hr => first | (go_simp; done) | (go_simp; rfl)); intro g2 hg2 w2 hbox2 hb2; have BK12 := Aside0.mk (blk_below BK1.out hb2); have HB2 := Aside0.mk (below_step HB1.out hb2); have BK2 := Aside0.mk hbox2; have GE2 := Aside0.mk (show w.heap.size ≤ g2 by rw [hg2]; exact HB1.out.size); have LT2 := Aside0.mk (blk_lt hbox2); clear hb2 hbox2 hg2; have hx0 : w2.cell? ⟨g1, 0, none⟩ = some (.slice A0_0 l0_0.length c0_0) := (blk_cell BK12.out 0).trans rfl; have hx1 : w2.cell? ⟨g1, 1, none⟩ = some (.int .i64 a0_1) := (blk_cell BK12.out 1).trans rfl; have hx2 : w2.cell? ⟨g1, 2, none⟩ = some (.bool true) := (blk_cell BK12.out 2).trans rfl) | (go_at_call 26; refine (impl_ServerOk.calls k _ _ l0_0 a0_1 true true _ (Kd.C_below HR0.out HB2.out) HC0.out HT.out (HG.out.below HB2.out)).mono ?_; rintro e w3 ⟨rfl, hb3⟩; have BK13 := Aside0.mk (blk_below BK12.out hb3); have BK23 := Aside0.mk (blk_below BK2.out hb3); have HB3 := Aside0.mk (below_step HB2.out hb3); have LT3 := Aside0.mk (Nat.lt_of_lt_of_le LT2.out hb3.size); clear hb3; have hy0 : w3.cell? ⟨g1, 0, none⟩ = some (.slice A0_0 l0_0.length c0_0) := (blk_cell BK13.out 0).trans rfl; have hy1 : w3.cell? ⟨g1, 1, none⟩ = some (.int .i64 a0_1) := (blk_cell BK13.out 1).trans rfl; have hy2 : w3.cell? ⟨g1, 2, none⟩ = some (.bool true) := (blk_cell BK13.out 2).trans rfl; have hz0 : w3.cell? ⟨g2, 0, none⟩ = some (.slice none 0 0) := (blk_cell BK23.out 0).trans rfl; have hz1 : w3.cell? ⟨g2, 1, none⟩ = some (.int .i64 0) := (blk_cell BK23.out 1).trans rfl; have hz2 : w3.cell? ⟨g2, 2, none⟩ = some (.bool false) := (blk_cell BK23.out 2).trans rfl; have hzf0 := blk_frozen BK23.out 0; have hzf1 := blk_frozen BK23.out 1; have hzf2 := blk_frozen BK23.out 2) | (go_at_call 61; refine (impl_machineOf.calls _ _ l0_0 a0_1 true _ (Kd.C_below HR0.out HB3.out) HC0.out LM.out).mono ?_; rintro e w4 ⟨g, rfl, ⟨A4, c4, hk4, hr4, hge4⟩, hb4⟩; have HK4 := Aside0.mk hk4; have HRR4 := Aside0.mk hr4; have GE4 := Aside0.mk (Nat.le_trans HB3.out.size hge4); have NE4 := Aside0.mk (show g2 ≠ g by have := LT3.out; omega); have BK24 := Aside0.mk (blk_below BK23.out hb4); have HB4 := Aside0.mk (below_step HB3.out hb4); clear hb4 hk4 hr4 hge4; have hm0 : w4.cell? ⟨g, 0, none⟩ = some (.slice A4 l0_0.length c4) := (blk_cell HK4.out 0).trans rfl; have hm2 : w4.cell? ⟨g, 2, none⟩ = some (.int .i64 a0_1) := (blk_cell HK4.out 2).trans rfl; have hm3 : w4.cell? ⟨g, 3, none⟩ = some (.bool true) := (blk_cell HK4.out 3).trans rfl; have hmf := blk_frozen HK4.out 2))
        have HM5 := Aside0.mk (Mach.set_safe (show Mach w4 0 g l0_0 (.slice none 0 0) a0_1 true from ⟨A4, c4, HK4.out, Kd.R_lower HRR4.out (Nat.zero_le _), Nat.zero_le _⟩) (l0_0.length : Int))
        have BK25 := Aside0.mk (blk_far BK24.out (p := ⟨g, 2, none⟩) NE4.out (.int .i64 (l0_0.length : Int)))
        have HB5 := Aside0.mk (below_set (j := 2) (v := .int .i64 (l0_0.length : Int)) HB4.out GE4.out)
        generalize w4.setCell ⟨g, 2, none⟩ (.int .i64 (l0_0.length : Int)) = W5 at HM5 BK25 HB5 ⊢
        have HMd := Aside0.mk (HM5.out.below (below_drew1 (Below.refl _ _)))
        have BKd := Aside0.mk (blk_drew BK25.out)
        have HBd := Aside0.mk (below_drew1 HB5.out)
        have hup5 : W5.cell? ⟨g, 3, none⟩ = some (.bool true) := by
          obtain ⟨A7, c7, h7, _, _⟩ := HM5.out
          exact (blk_cell h7 3).trans rfl
        go_region_with (go_at_call 62; refine (impl_mserver.calls 0 g l0_0 _ (l0_0.length : Int) true _ HMd.out LM.out).mono ?_; rintro e w6 ⟨v6, rfl, ho6, hb6⟩; obtain ⟨A6, c6, rfl⟩ := Kd.R_slice ho6; have HO6 := Aside0.mk (Kd.R_newB ho6 BKd.out); have HB6 := Aside0.mk (below_step HBd.out hb6); have BK6 := Aside0.mk (blk_below BKd.out hb6); have HM6 := Aside0.mk (HMd.out.below hb6); clear ho6 hb6; have hz0 : w6.cell? ⟨g2, 0, none⟩ = some (.slice none 0 0) := (blk_cell BK6.out 0).trans rfl; have hz1 : w6.cell? ⟨g2, 1, none⟩ = some (.int .i64 0) := (blk_cell BK6.out 1).trans rfl; have hz2 : w6.cell? ⟨g2, 2, none⟩ = some (.bool false) := (blk_cell BK6.out 2).trans rfl; have hzf0 := blk_frozen BK6.out 0; have hzf1 := blk_frozen BK6.out 1; have hzf2 := blk_frozen BK6.out 2; have hup6 : w6.cell? ⟨g, 3, none⟩ = some (.bool true) := (by obtain ⟨A7, c7, h7, _, _⟩ := HM6.out; exact (blk_cell h7 3).trans rfl))
        all_goals go_wp2
        all_goals (try simp only [Exit.inBlock, Exit.then])
        all_goals refine bodyPost_ret (results_ct rfl _ _ g2 29 #[.slice A6 l0_0.length c6, .int .i64 (l0_0.length : Int), .bool true] (0, 0) _ rfl ((blk_set (blk_set (blk_set BK6.out 0 _) 1 _) 2 _).trans rfl) Tryd.underlying29 rfl (by kernel_rfl)) rfl ?_
        all_goals refine ⟨_, rfl, ?_, below_set (below_set (below_set HB6.out GE2.out) GE2.out) GE2.out⟩
        all_goals exact Kd.R_mono (Kd.R_far (Kd.R_far (Kd.R_far (Kd.R_lower HO6.out HBd.out.size) (p := ⟨g2, 0, none⟩) (fun _ hk => hk.2) _) (p := ⟨g2, 1, none⟩) (fun _ hk => hk.2) _) (p := ⟨g2, 2, none⟩) (fun _ hk => hk.2) _) (fun _ _ => trivial)
    · rw [if_neg hl] at h
      cases h
end Go.Proofs.YtnclcbjagleoeaaDoor.P
namespace Go.Proofs.YtnclcbjagleoeaaDoor.P
open Go.RowKit Go.Proofs.YtnclcbjagleoeaaDoorW.PrintWords Go.Proofs.YtnclcbjagleoeaaDoorW.PrintLast
set_option linter.unusedVariables false
set_option linter.unusedSimpArgs false
attribute [local go_sem high] eqA56
def laws_FnExactServerSync.f (k : Nat) (l0_0 : List (S51)) (a0_1 : Int) (a0_2 : Bool) : Option (Bool) := (laws_szServer.f k l0_0 a0_1 a0_2 1048576).bind fun t710 => (if t710 < 0 then (some true) else ((laws_toServer.f k l0_0 a0_1 a0_2).bind fun bt711 => ((spec_ServerSync.f k bt711.1 bt711.2.1 bt711.2.2).bind fun bt716 => ((laws_toServer.f k l0_0 a0_1 a0_2).bind fun bt723 => ((impl_ServerSync.f k bt723.1 bt723.2.1 bt723.2.2).bind fun bt729 => ((laws_eqServer.f k bt729.1 bt729.2.1 bt729.2.2.1 bt716.1 bt716.2.1 bt716.2.2.1).bind fun t736 => (if t736 = true then (if (bt729.2.2.2 != bt716.2.2.2) = true then (none) else ((laws_toServer.f k l0_0 a0_1 a0_2).bind fun bt737 => ((laws_eqServer.f k bt723.1 bt723.2.1 bt723.2.2 bt737.1 bt737.2.1 bt737.2.2).bind fun t742 => (if t742 = true then ((laws_markServer.f k bt723.1 bt723.2.1 bt723.2.2 1).bind fun bt743 => (if bt743.1 < 0 then (none) else ((laws_eqServer.f k bt729.1 bt729.2.1 bt729.2.2.1 bt716.1 bt716.2.1 bt716.2.2.1).bind fun t745 => (if t745 = true then ((laws_markServer.f k bt729.1 bt729.2.1 bt729.2.2.1 1).bind fun bt746 => ((laws_heldServer.f k bt746.2 bt729.2.1 bt729.2.2.1 1).bind fun t748 => (if t748 < 0 then (none) else (if t748 = bt746.1 then ((laws_toServer.f k l0_0 a0_1 a0_2).bind fun bt749 => ((impl_ServerSync.f k bt749.1 bt749.2.1 bt749.2.2).bind fun bt754 => ((laws_eqServer.f k bt754.1 bt754.2.1 bt754.2.2.1 bt716.1 bt716.2.1 bt716.2.2.1).bind fun t761 => (if t761 = true then (if (bt754.2.2.2 != bt716.2.2.2) = true then (none) else ((laws_heldServer.f k bt746.2 bt729.2.1 bt729.2.2.1 1).bind fun t762 => (if t762 < 0 then (none) else (if t762 = bt746.1 then (some true) else (none))))) else (none))))) else (none))))) else (none))))) else (none))))) else (none))))))))
theorem laws_FnExactServerSync.mono : ∀ a0 a1 a2 k, LeO (laws_FnExactServerSync.f k a0 a1 a2) (laws_FnExactServerSync.f (k + 1) a0 a1 a2) := by
  intro a0 a1 a2 k
  unfold laws_FnExactServerSync.f
  repeat' first
      | (with_reducible exact impl_ServerSync.mono _ _ _ _)
      | (with_reducible exact laws_eqServer.mono _ _ _ _ _ _ _)
      | (with_reducible exact laws_heldServer.mono _ _ _ _ _)
      | (with_reducible exact laws_markServer.mono _ _ _ _ _)
      | (with_reducible exact laws_szServer.mono _ _ _ _ _)
      | (with_reducible exact laws_toServer.mono _ _ _ _)
      | (with_reducible exact spec_ServerSync.mono _ _ _ _)
      | (with_reducible exact LeO.refl _)
      | (with_reducible exact LeO.none _)
      | (with_reducible refine LeO.ite ?_ ?_)
      | (with_reducible refine LeO.bind ?_ (fun _ => ?_))
      | exact impl_ServerSync.mono _ _ _ _
      | exact laws_eqServer.mono _ _ _ _ _ _ _
      | exact laws_heldServer.mono _ _ _ _ _
      | exact laws_markServer.mono _ _ _ _ _
      | exact laws_szServer.mono _ _ _ _ _
      | exact laws_toServer.mono _ _ _ _
      | exact spec_ServerSync.mono _ _ _ _
      | exact LeO.none _
      | refine LeO.ite ?_ ?_
      | refine LeO.bind ?_ (fun _ => ?_)
set_option maxHeartbeats 8000000 in
set_option maxRecDepth 100000 in
theorem laws_FnExactServerSync.calls (k : Nat) (A0_0 : Option Addr) (c0_0 : Nat) (l0_0 : List (S51)) (a0_1 : Int) (a0_2 : Bool) (r : Bool) (w : World) (hr0_0 : Kd.C k51 w A0_0 l0_0.length l0_0) (hc0_0 : l0_0.length ≤ c0_0) (h : laws_FnExactServerSync.f k l0_0 a0_1 a0_2 = some r) (hG : Glob w) :
    Calls Tryd.prog 6 #[.agg #[.slice A0_0 l0_0.length c0_0, .int .i64 a0_1, .bool a0_2]] w fun e w' => e = .returned (.bool r) ∧ Below w.heap.size w w' := by
  have hu24 := Tryd.underlying24
  have hu29 := Tryd.underlying29
  have HR0_0 := Aside0.mk hr0_0
  have HC0_0 := Aside0.mk hc0_0
  clear hr0_0 hc0_0
  have HB := Aside0.mk (Below.refl w.heap.size w)
  have HG := Aside0.mk hG
  clear hG
  have H : ((laws_szServer.f k l0_0 a0_1 a0_2 1048576).bind fun t710 => (if t710 < 0 then (some true) else ((laws_toServer.f k l0_0 a0_1 a0_2).bind fun bt711 => ((spec_ServerSync.f k bt711.1 bt711.2.1 bt711.2.2).bind fun bt716 => ((laws_toServer.f k l0_0 a0_1 a0_2).bind fun bt723 => ((impl_ServerSync.f k bt723.1 bt723.2.1 bt723.2.2).bind fun bt729 => ((laws_eqServer.f k bt729.1 bt729.2.1 bt729.2.2.1 bt716.1 bt716.2.1 bt716.2.2.1).bind fun t736 => (if t736 = true then (if (bt729.2.2.2 != bt716.2.2.2) = true then (none) else ((laws_toServer.f k l0_0 a0_1 a0_2).bind fun bt737 => ((laws_eqServer.f k bt723.1 bt723.2.1 bt723.2.2 bt737.1 bt737.2.1 bt737.2.2).bind fun t742 => (if t742 = true then ((laws_markServer.f k bt723.1 bt723.2.1 bt723.2.2 1).bind fun bt743 => (if bt743.1 < 0 then (none) else ((laws_eqServer.f k bt729.1 bt729.2.1 bt729.2.2.1 bt716.1 bt716.2.1 bt716.2.2.1).bind fun t745 => (if t745 = true then ((laws_markServer.f k bt729.1 bt729.2.1 bt729.2.2.1 1).bind fun bt746 => ((laws_heldServer.f k bt746.2 bt729.2.1 bt729.2.2.1 1).bind fun t748 => (if t748 < 0 then (none) else (if t748 = bt746.1 then ((laws_toServer.f k l0_0 a0_1 a0_2).bind fun bt749 => ((impl_ServerSync.f k bt749.1 bt749.2.1 bt749.2.2).bind fun bt754 => ((laws_eqServer.f k bt754.1 bt754.2.1 bt754.2.2.1 bt716.1 bt716.2.1 bt716.2.2.1).bind fun t761 => (if t761 = true then (if (bt754.2.2.2 != bt716.2.2.2) = true then (none) else ((laws_heldServer.f k bt746.2 bt729.2.1 bt729.2.2.1 1).bind fun t762 => (if t762 < 0 then (none) else (if t762 = bt746.1 then (some true) else (none))))) else (none))))) else (none))))) else (none))))) else (none))))) else (none))))))))) = some r := h
  clear h
  replace H := Option.bind_eq_some_iff.mp H
  obtain ⟨t710, A20, H⟩ := H
  replace H : (if t710 < 0 then (some true) else ((laws_toServer.f k l0_0 a0_1 a0_2).bind fun bt711 => ((spec_ServerSync.f k bt711.1 bt711.2.1 bt711.2.2).bind fun bt716 => ((laws_toServer.f k l0_0 a0_1 a0_2).bind fun bt723 => ((impl_ServerSync.f k bt723.1 bt723.2.1 bt723.2.2).bind fun bt729 => ((laws_eqServer.f k bt729.1 bt729.2.1 bt729.2.2.1 bt716.1 bt716.2.1 bt716.2.2.1).bind fun t736 => (if t736 = true then (if (bt729.2.2.2 != bt716.2.2.2) = true then (none) else ((laws_toServer.f k l0_0 a0_1 a0_2).bind fun bt737 => ((laws_eqServer.f k bt723.1 bt723.2.1 bt723.2.2 bt737.1 bt737.2.1 bt737.2.2).bind fun t742 => (if t742 = true then ((laws_markServer.f k bt723.1 bt723.2.1 bt723.2.2 1).bind fun bt743 => (if bt743.1 < 0 then (none) else ((laws_eqServer.f k bt729.1 bt729.2.1 bt729.2.2.1 bt716.1 bt716.2.1 bt716.2.2.1).bind fun t745 => (if t745 = true then ((laws_markServer.f k bt729.1 bt729.2.1 bt729.2.2.1 1).bind fun bt746 => ((laws_heldServer.f k bt746.2 bt729.2.1 bt729.2.2.1 1).bind fun t748 => (if t748 < 0 then (none) else (if t748 = bt746.1 then ((laws_toServer.f k l0_0 a0_1 a0_2).bind fun bt749 => ((impl_ServerSync.f k bt749.1 bt749.2.1 bt749.2.2).bind fun bt754 => ((laws_eqServer.f k bt754.1 bt754.2.1 bt754.2.2.1 bt716.1 bt716.2.1 bt716.2.2.1).bind fun t761 => (if t761 = true then (if (bt754.2.2.2 != bt716.2.2.2) = true then (none) else ((laws_heldServer.f k bt746.2 bt729.2.1 bt729.2.2.1 1).bind fun t762 => (if t762 < 0 then (none) else (if t762 = bt746.1 then (some true) else (none))))) else (none))))) else (none))))) else (none))))) else (none))))) else (none)))))))) = some r := H
  have A2 := Aside0.mk A20
  clear A20
  by_cases c3 : t710 < 0
  · rw [if_pos c3] at H
    have c3b0 : decide (t710 < 0) = true := decide_eq_true c3
    clear c3
    obtain rfl := Option.some.inj H
    go_enter Tryd.func6, Tryd.ntmps6
    go_wp2_with (first | ((with_reducible refine gate_dst (N := 1) rfl ?_); refine box_event ?hg (N := 1) ?hd (cs := #[.slice A0_0 l0_0.length c0_0, .int .i64 a0_1, .bool a0_2]) (t := 24) ?hr ?_; (case hd => rfl); (case hg => rfl); (case hr => first | (go_simp; done) | (go_simp; rfl)); intro gb709 hg w4 hbox hb; have n0_ := Aside0.mk (below_step (by repeat (first | (with_reducible first | exact HB.out | apply below_alloc | apply pw_below_drewN | apply below_drew1) | exact HB.out)) hb); have n1_ := Aside0.mk (hbox); have n2_ := Aside0.mk ((by rw [hg]; exact (below_size (by repeat (first | (with_reducible first | exact HB.out | apply below_alloc | apply pw_below_drewN | apply below_drew1) | exact HB.out))) : w.heap.size ≤ gb709)); have n3_ := Aside0.mk ((by rw [hg]; exact (below_size (by repeat (first | (with_reducible first | exact HB.out | apply below_alloc | apply pw_below_drewN | apply below_drew1) | exact HB.out))) : w.heap.size ≤ gb709)); clear HB; have HB := n0_; have BK709 := n1_; have GW709 := n2_; have GE709 := n3_; clear n0_ n1_ n2_ n3_; clear hb hbox hg; have hcz5_0 : w4.cell? ⟨gb709, 0, none⟩ = some (.slice A0_0 l0_0.length c0_0) := (blk_cell BK709.out 0).trans rfl; have hcz5_1 : w4.cell? ⟨gb709, 1, none⟩ = some (.int .i64 a0_1) := (blk_cell BK709.out 1).trans rfl; have hcz5_2 : w4.cell? ⟨gb709, 2, none⟩ = some (.bool a0_2) := (blk_cell BK709.out 2).trans rfl; have hfz5_0 := blk_frozen BK709.out 0; have hfz5_1 := blk_frozen BK709.out 1; have hfz5_2 := blk_frozen BK709.out 2) | ((with_reducible refine gate_callee (f := 16) rfl ?_); refine goesL_ (some 16) rfl rfl Tryd.func16 (by kernel_rfl) rfl #[.agg #[.slice A0_0 l0_0.length c0_0, .int .i64 a0_1, .bool a0_2], .int .i64 1048576] rfl (by (try simp only [List.map_toArray, List.map_cons, List.map_nil]); first | done | rfl | (simp only [List.length_drop, List.length_take]; rfl)) ?_; (with_reducible refine (laws_szServer.calls k _ _ l0_0 a0_1 a0_2 1048576 t710 _ ?side1 ?side2 A2.out).mono ?_); (case side1 => repeat (first | exact (Kd.C_below HR0_0.out HB.out) | (with_reducible refine Kd.C_alloc ?_ _) | (with_reducible refine Kd.C_drewN ?_ _) | (with_reducible refine Kd.C_drew ?_))); (case side2 => exact HC0_0.out); rintro e w6 ⟨rfl, hb⟩; refine ⟨_, rfl, ?_⟩; have n0_ := Aside0.mk (blk_below (g := gb709) (o := .cells #[.slice A0_0 l0_0.length c0_0, .int .i64 a0_1, .bool a0_2] 24 (0, 0)) (by (with_reducible repeat (first | refine blk_drewN ?_ _ | refine blk_drew ?_ | refine blk_alloc ?_ _)); exact BK709.out) hb); have n1_ := Aside0.mk (below_step (by repeat (first | (with_reducible first | exact HB.out | apply below_alloc | apply pw_below_drewN | apply below_drew1 | refine below_set ?_ GE709.out) | exact HB.out)) hb); clear BK709; clear HB; have BK709 := n0_; have HB := n1_; clear n0_ n1_; (try clear hb); (try clear hb2); (try clear hk); (try clear hi)))
    go_ret
    exact ⟨by first | rfl | (simp [errW_none, errW_some] <;> rfl) | (simp [*, errW_none, errW_some] <;> rfl), by repeat (first | (with_reducible first | exact HB.out | apply below_alloc | apply pw_below_drewN | apply below_drew1 | refine below_set ?_ GE709.out) | exact HB.out)⟩
  · rw [if_neg c3] at H
    have c3b0 : decide (t710 < 0) = false := decide_eq_false c3
    clear c3
    replace H := Option.bind_eq_some_iff.mp H
    obtain ⟨⟨t711, t714, t715⟩, A70, H⟩ := H
    replace H : ((spec_ServerSync.f k t711 t714 t715).bind fun bt716 => ((laws_toServer.f k l0_0 a0_1 a0_2).bind fun bt723 => ((impl_ServerSync.f k bt723.1 bt723.2.1 bt723.2.2).bind fun bt729 => ((laws_eqServer.f k bt729.1 bt729.2.1 bt729.2.2.1 bt716.1 bt716.2.1 bt716.2.2.1).bind fun t736 => (if t736 = true then (if (bt729.2.2.2 != bt716.2.2.2) = true then (none) else ((laws_toServer.f k l0_0 a0_1 a0_2).bind fun bt737 => ((laws_eqServer.f k bt723.1 bt723.2.1 bt723.2.2 bt737.1 bt737.2.1 bt737.2.2).bind fun t742 => (if t742 = true then ((laws_markServer.f k bt723.1 bt723.2.1 bt723.2.2 1).bind fun bt743 => (if bt743.1 < 0 then (none) else ((laws_eqServer.f k bt729.1 bt729.2.1 bt729.2.2.1 bt716.1 bt716.2.1 bt716.2.2.1).bind fun t745 => (if t745 = true then ((laws_markServer.f k bt729.1 bt729.2.1 bt729.2.2.1 1).bind fun bt746 => ((laws_heldServer.f k bt746.2 bt729.2.1 bt729.2.2.1 1).bind fun t748 => (if t748 < 0 then (none) else (if t748 = bt746.1 then ((laws_toServer.f k l0_0 a0_1 a0_2).bind fun bt749 => ((impl_ServerSync.f k bt749.1 bt749.2.1 bt749.2.2).bind fun bt754 => ((laws_eqServer.f k bt754.1 bt754.2.1 bt754.2.2.1 bt716.1 bt716.2.1 bt716.2.2.1).bind fun t761 => (if t761 = true then (if (bt754.2.2.2 != bt716.2.2.2) = true then (none) else ((laws_heldServer.f k bt746.2 bt729.2.1 bt729.2.2.1 1).bind fun t762 => (if t762 < 0 then (none) else (if t762 = bt746.1 then (some true) else (none))))) else (none))))) else (none))))) else (none))))) else (none))))) else (none)))))) = some r := H
    have A7 := Aside0.mk A70
    clear A70
    replace H := Option.bind_eq_some_iff.mp H
    obtain ⟨⟨t716, t719, t720, t721⟩, A80, H⟩ := H
    replace H : ((laws_toServer.f k l0_0 a0_1 a0_2).bind fun bt723 => ((impl_ServerSync.f k bt723.1 bt723.2.1 bt723.2.2).bind fun bt729 => ((laws_eqServer.f k bt729.1 bt729.2.1 bt729.2.2.1 t716 t719 t720).bind fun t736 => (if t736 = true then (if (bt729.2.2.2 != t721) = true then (none) else ((laws_toServer.f k l0_0 a0_1 a0_2).bind fun bt737 => ((laws_eqServer.f k bt723.1 bt723.2.1 bt723.2.2 bt737.1 bt737.2.1 bt737.2.2).bind fun t742 => (if t742 = true then ((laws_markServer.f k bt723.1 bt723.2.1 bt723.2.2 1).bind fun bt743 => (if bt743.1 < 0 then (none) else ((laws_eqServer.f k bt729.1 bt729.2.1 bt729.2.2.1 t716 t719 t720).bind fun t745 => (if t745 = true then ((laws_markServer.f k bt729.1 bt729.2.1 bt729.2.2.1 1).bind fun bt746 => ((laws_heldServer.f k bt746.2 bt729.2.1 bt729.2.2.1 1).bind fun t748 => (if t748 < 0 then (none) else (if t748 = bt746.1 then ((laws_toServer.f k l0_0 a0_1 a0_2).bind fun bt749 => ((impl_ServerSync.f k bt749.1 bt749.2.1 bt749.2.2).bind fun bt754 => ((laws_eqServer.f k bt754.1 bt754.2.1 bt754.2.2.1 t716 t719 t720).bind fun t761 => (if t761 = true then (if (bt754.2.2.2 != t721) = true then (none) else ((laws_heldServer.f k bt746.2 bt729.2.1 bt729.2.2.1 1).bind fun t762 => (if t762 < 0 then (none) else (if t762 = bt746.1 then (some true) else (none))))) else (none))))) else (none))))) else (none))))) else (none))))) else (none))))) = some r := H
    have A8 := Aside0.mk A80
    clear A80
    replace H := Option.bind_eq_some_iff.mp H
    obtain ⟨⟨t723, t726, t727⟩, A90, H⟩ := H
    replace H : ((impl_ServerSync.f k t723 t726 t727).bind fun bt729 => ((laws_eqServer.f k bt729.1 bt729.2.1 bt729.2.2.1 t716 t719 t720).bind fun t736 => (if t736 = true then (if (bt729.2.2.2 != t721) = true then (none) else ((laws_toServer.f k l0_0 a0_1 a0_2).bind fun bt737 => ((laws_eqServer.f k t723 t726 t727 bt737.1 bt737.2.1 bt737.2.2).bind fun t742 => (if t742 = true then ((laws_markServer.f k t723 t726 t727 1).bind fun bt743 => (if bt743.1 < 0 then (none) else ((laws_eqServer.f k bt729.1 bt729.2.1 bt729.2.2.1 t716 t719 t720).bind fun t745 => (if t745 = true then ((laws_markServer.f k bt729.1 bt729.2.1 bt729.2.2.1 1).bind fun bt746 => ((laws_heldServer.f k bt746.2 bt729.2.1 bt729.2.2.1 1).bind fun t748 => (if t748 < 0 then (none) else (if t748 = bt746.1 then ((laws_toServer.f k l0_0 a0_1 a0_2).bind fun bt749 => ((impl_ServerSync.f k bt749.1 bt749.2.1 bt749.2.2).bind fun bt754 => ((laws_eqServer.f k bt754.1 bt754.2.1 bt754.2.2.1 t716 t719 t720).bind fun t761 => (if t761 = true then (if (bt754.2.2.2 != t721) = true then (none) else ((laws_heldServer.f k bt746.2 bt729.2.1 bt729.2.2.1 1).bind fun t762 => (if t762 < 0 then (none) else (if t762 = bt746.1 then (some true) else (none))))) else (none))))) else (none))))) else (none))))) else (none))))) else (none)))) = some r := H
    have A9 := Aside0.mk A90
    clear A90
    replace H := Option.bind_eq_some_iff.mp H
    obtain ⟨⟨t729, t732, t733, t734⟩, A100, H⟩ := H
    replace H : ((laws_eqServer.f k t729 t732 t733 t716 t719 t720).bind fun t736 => (if t736 = true then (if (t734 != t721) = true then (none) else ((laws_toServer.f k l0_0 a0_1 a0_2).bind fun bt737 => ((laws_eqServer.f k t723 t726 t727 bt737.1 bt737.2.1 bt737.2.2).bind fun t742 => (if t742 = true then ((laws_markServer.f k t723 t726 t727 1).bind fun bt743 => (if bt743.1 < 0 then (none) else ((laws_eqServer.f k t729 t732 t733 t716 t719 t720).bind fun t745 => (if t745 = true then ((laws_markServer.f k t729 t732 t733 1).bind fun bt746 => ((laws_heldServer.f k bt746.2 t732 t733 1).bind fun t748 => (if t748 < 0 then (none) else (if t748 = bt746.1 then ((laws_toServer.f k l0_0 a0_1 a0_2).bind fun bt749 => ((impl_ServerSync.f k bt749.1 bt749.2.1 bt749.2.2).bind fun bt754 => ((laws_eqServer.f k bt754.1 bt754.2.1 bt754.2.2.1 t716 t719 t720).bind fun t761 => (if t761 = true then (if (bt754.2.2.2 != t721) = true then (none) else ((laws_heldServer.f k bt746.2 t732 t733 1).bind fun t762 => (if t762 < 0 then (none) else (if t762 = bt746.1 then (some true) else (none))))) else (none))))) else (none))))) else (none))))) else (none))))) else (none))) = some r := H
    have A10 := Aside0.mk A100
    clear A100
    replace H := Option.bind_eq_some_iff.mp H
    obtain ⟨t736, A110, H⟩ := H
    replace H : (if t736 = true then (if (t734 != t721) = true then (none) else ((laws_toServer.f k l0_0 a0_1 a0_2).bind fun bt737 => ((laws_eqServer.f k t723 t726 t727 bt737.1 bt737.2.1 bt737.2.2).bind fun t742 => (if t742 = true then ((laws_markServer.f k t723 t726 t727 1).bind fun bt743 => (if bt743.1 < 0 then (none) else ((laws_eqServer.f k t729 t732 t733 t716 t719 t720).bind fun t745 => (if t745 = true then ((laws_markServer.f k t729 t732 t733 1).bind fun bt746 => ((laws_heldServer.f k bt746.2 t732 t733 1).bind fun t748 => (if t748 < 0 then (none) else (if t748 = bt746.1 then ((laws_toServer.f k l0_0 a0_1 a0_2).bind fun bt749 => ((impl_ServerSync.f k bt749.1 bt749.2.1 bt749.2.2).bind fun bt754 => ((laws_eqServer.f k bt754.1 bt754.2.1 bt754.2.2.1 t716 t719 t720).bind fun t761 => (if t761 = true then (if (bt754.2.2.2 != t721) = true then (none) else ((laws_heldServer.f k bt746.2 t732 t733 1).bind fun t762 => (if t762 < 0 then (none) else (if t762 = bt746.1 then (some true) else (none))))) else (none))))) else (none))))) else (none))))) else (none))))) else (none)) = some r := H
    have A11 := Aside0.mk A110
    clear A110
    by_cases c12 : t736 = true
    · subst c12
      have H1 : (if (t734 != t721) = true then (none) else ((laws_toServer.f k l0_0 a0_1 a0_2).bind fun bt737 => ((laws_eqServer.f k t723 t726 t727 bt737.1 bt737.2.1 bt737.2.2).bind fun t742 => (if t742 = true then ((laws_markServer.f k t723 t726 t727 1).bind fun bt743 => (if bt743.1 < 0 then (none) else ((laws_eqServer.f k t729 t732 t733 t716 t719 t720).bind fun t745 => (if t745 = true then ((laws_markServer.f k t729 t732 t733 1).bind fun bt746 => ((laws_heldServer.f k bt746.2 t732 t733 1).bind fun t748 => (if t748 < 0 then (none) else (if t748 = bt746.1 then ((laws_toServer.f k l0_0 a0_1 a0_2).bind fun bt749 => ((impl_ServerSync.f k bt749.1 bt749.2.1 bt749.2.2).bind fun bt754 => ((laws_eqServer.f k bt754.1 bt754.2.1 bt754.2.2.1 t716 t719 t720).bind fun t761 => (if t761 = true then (if (bt754.2.2.2 != t721) = true then (none) else ((laws_heldServer.f k bt746.2 t732 t733 1).bind fun t762 => (if t762 < 0 then (none) else (if t762 = bt746.1 then (some true) else (none))))) else (none))))) else (none))))) else (none))))) else (none))))) = some r := by rw [if_pos rfl] at H; exact H
      clear H
      have H := H1
      clear H1
      by_cases c13 : (t734 != t721) = true
      · rw [if_pos c13] at H
        exact absurd H (by simp)
      · rw [if_neg c13] at H
        have c13b0 : (t734 != t721) = false := by simpa using c13
        (try (have c13b1 : decide (t734 = t721) = true := by simpa using c13))
        (try (have c13b2 : (t734 == t721) = true := by simpa using c13))
        clear c13
        replace H := Option.bind_eq_some_iff.mp H
        obtain ⟨⟨t737, t740, t741⟩, A140, H⟩ := H
        replace H : ((laws_eqServer.f k t723 t726 t727 t737 t740 t741).bind fun t742 => (if t742 = true then ((laws_markServer.f k t723 t726 t727 1).bind fun bt743 => (if bt743.1 < 0 then (none) else ((laws_eqServer.f k t729 t732 t733 t716 t719 t720).bind fun t745 => (if t745 = true then ((laws_markServer.f k t729 t732 t733 1).bind fun bt746 => ((laws_heldServer.f k bt746.2 t732 t733 1).bind fun t748 => (if t748 < 0 then (none) else (if t748 = bt746.1 then ((laws_toServer.f k l0_0 a0_1 a0_2).bind fun bt749 => ((impl_ServerSync.f k bt749.1 bt749.2.1 bt749.2.2).bind fun bt754 => ((laws_eqServer.f k bt754.1 bt754.2.1 bt754.2.2.1 t716 t719 t720).bind fun t761 => (if t761 = true then (if (bt754.2.2.2 != t721) = true then (none) else ((laws_heldServer.f k bt746.2 t732 t733 1).bind fun t762 => (if t762 < 0 then (none) else (if t762 = bt746.1 then (some true) else (none))))) else (none))))) else (none))))) else (none))))) else (none))) = some r := H
        have A14 := Aside0.mk A140
        clear A140
        replace H := Option.bind_eq_some_iff.mp H
        obtain ⟨t742, A150, H⟩ := H
        replace H : (if t742 = true then ((laws_markServer.f k t723 t726 t727 1).bind fun bt743 => (if bt743.1 < 0 then (none) else ((laws_eqServer.f k t729 t732 t733 t716 t719 t720).bind fun t745 => (if t745 = true then ((laws_markServer.f k t729 t732 t733 1).bind fun bt746 => ((laws_heldServer.f k bt746.2 t732 t733 1).bind fun t748 => (if t748 < 0 then (none) else (if t748 = bt746.1 then ((laws_toServer.f k l0_0 a0_1 a0_2).bind fun bt749 => ((impl_ServerSync.f k bt749.1 bt749.2.1 bt749.2.2).bind fun bt754 => ((laws_eqServer.f k bt754.1 bt754.2.1 bt754.2.2.1 t716 t719 t720).bind fun t761 => (if t761 = true then (if (bt754.2.2.2 != t721) = true then (none) else ((laws_heldServer.f k bt746.2 t732 t733 1).bind fun t762 => (if t762 < 0 then (none) else (if t762 = bt746.1 then (some true) else (none))))) else (none))))) else (none))))) else (none))))) else (none)) = some r := H
        have A15 := Aside0.mk A150
        clear A150
        by_cases c16 : t742 = true
        · subst c16
          have H1 : ((laws_markServer.f k t723 t726 t727 1).bind fun bt743 => (if bt743.1 < 0 then (none) else ((laws_eqServer.f k t729 t732 t733 t716 t719 t720).bind fun t745 => (if t745 = true then ((laws_markServer.f k t729 t732 t733 1).bind fun bt746 => ((laws_heldServer.f k bt746.2 t732 t733 1).bind fun t748 => (if t748 < 0 then (none) else (if t748 = bt746.1 then ((laws_toServer.f k l0_0 a0_1 a0_2).bind fun bt749 => ((impl_ServerSync.f k bt749.1 bt749.2.1 bt749.2.2).bind fun bt754 => ((laws_eqServer.f k bt754.1 bt754.2.1 bt754.2.2.1 t716 t719 t720).bind fun t761 => (if t761 = true then (if (bt754.2.2.2 != t721) = true then (none) else ((laws_heldServer.f k bt746.2 t732 t733 1).bind fun t762 => (if t762 < 0 then (none) else (if t762 = bt746.1 then (some true) else (none))))) else (none))))) else (none))))) else (none))))) = some r := by rw [if_pos rfl] at H; exact H
          clear H
          have H := H1
          clear H1
          replace H := Option.bind_eq_some_iff.mp H
          obtain ⟨⟨t743, t744⟩, A170, H⟩ := H
          replace H : (if t743 < 0 then (none) else ((laws_eqServer.f k t729 t732 t733 t716 t719 t720).bind fun t745 => (if t745 = true then ((laws_markServer.f k t729 t732 t733 1).bind fun bt746 => ((laws_heldServer.f k bt746.2 t732 t733 1).bind fun t748 => (if t748 < 0 then (none) else (if t748 = bt746.1 then ((laws_toServer.f k l0_0 a0_1 a0_2).bind fun bt749 => ((impl_ServerSync.f k bt749.1 bt749.2.1 bt749.2.2).bind fun bt754 => ((laws_eqServer.f k bt754.1 bt754.2.1 bt754.2.2.1 t716 t719 t720).bind fun t761 => (if t761 = true then (if (bt754.2.2.2 != t721) = true then (none) else ((laws_heldServer.f k bt746.2 t732 t733 1).bind fun t762 => (if t762 < 0 then (none) else (if t762 = bt746.1 then (some true) else (none))))) else (none))))) else (none))))) else (none)))) = some r := H
          have A17 := Aside0.mk A170
          clear A170
          by_cases c18 : t743 < 0
          · rw [if_pos c18] at H
            exact absurd H (by simp)
          · rw [if_neg c18] at H
            have c18b0 : decide (t743 < 0) = false := decide_eq_false c18
            clear c18
            replace H := Option.bind_eq_some_iff.mp H
            obtain ⟨t745, A190, H⟩ := H
            replace H : (if t745 = true then ((laws_markServer.f k t729 t732 t733 1).bind fun bt746 => ((laws_heldServer.f k bt746.2 t732 t733 1).bind fun t748 => (if t748 < 0 then (none) else (if t748 = bt746.1 then ((laws_toServer.f k l0_0 a0_1 a0_2).bind fun bt749 => ((impl_ServerSync.f k bt749.1 bt749.2.1 bt749.2.2).bind fun bt754 => ((laws_eqServer.f k bt754.1 bt754.2.1 bt754.2.2.1 t716 t719 t720).bind fun t761 => (if t761 = true then (if (bt754.2.2.2 != t721) = true then (none) else ((laws_heldServer.f k bt746.2 t732 t733 1).bind fun t762 => (if t762 < 0 then (none) else (if t762 = bt746.1 then (some true) else (none))))) else (none))))) else (none))))) else (none)) = some r := H
            have A19 := Aside0.mk A190
            clear A190
            by_cases c20 : t745 = true
            · subst c20
              have H1 : ((laws_markServer.f k t729 t732 t733 1).bind fun bt746 => ((laws_heldServer.f k bt746.2 t732 t733 1).bind fun t748 => (if t748 < 0 then (none) else (if t748 = bt746.1 then ((laws_toServer.f k l0_0 a0_1 a0_2).bind fun bt749 => ((impl_ServerSync.f k bt749.1 bt749.2.1 bt749.2.2).bind fun bt754 => ((laws_eqServer.f k bt754.1 bt754.2.1 bt754.2.2.1 t716 t719 t720).bind fun t761 => (if t761 = true then (if (bt754.2.2.2 != t721) = true then (none) else ((laws_heldServer.f k bt746.2 t732 t733 1).bind fun t762 => (if t762 < 0 then (none) else (if t762 = bt746.1 then (some true) else (none))))) else (none))))) else (none))))) = some r := by rw [if_pos rfl] at H; exact H
              clear H
              have H := H1
              clear H1
              replace H := Option.bind_eq_some_iff.mp H
              obtain ⟨⟨t746, t747⟩, A210, H⟩ := H
              replace H : ((laws_heldServer.f k t747 t732 t733 1).bind fun t748 => (if t748 < 0 then (none) else (if t748 = t746 then ((laws_toServer.f k l0_0 a0_1 a0_2).bind fun bt749 => ((impl_ServerSync.f k bt749.1 bt749.2.1 bt749.2.2).bind fun bt754 => ((laws_eqServer.f k bt754.1 bt754.2.1 bt754.2.2.1 t716 t719 t720).bind fun t761 => (if t761 = true then (if (bt754.2.2.2 != t721) = true then (none) else ((laws_heldServer.f k t747 t732 t733 1).bind fun t762 => (if t762 < 0 then (none) else (if t762 = t746 then (some true) else (none))))) else (none))))) else (none)))) = some r := H
              have A21 := Aside0.mk A210
              clear A210
              replace H := Option.bind_eq_some_iff.mp H
              obtain ⟨t748, A220, H⟩ := H
              replace H : (if t748 < 0 then (none) else (if t748 = t746 then ((laws_toServer.f k l0_0 a0_1 a0_2).bind fun bt749 => ((impl_ServerSync.f k bt749.1 bt749.2.1 bt749.2.2).bind fun bt754 => ((laws_eqServer.f k bt754.1 bt754.2.1 bt754.2.2.1 t716 t719 t720).bind fun t761 => (if t761 = true then (if (bt754.2.2.2 != t721) = true then (none) else ((laws_heldServer.f k t747 t732 t733 1).bind fun t762 => (if t762 < 0 then (none) else (if t762 = t746 then (some true) else (none))))) else (none))))) else (none))) = some r := H
              have A22 := Aside0.mk A220
              clear A220
              by_cases c23 : t748 < 0
              · rw [if_pos c23] at H
                exact absurd H (by simp)
              · rw [if_neg c23] at H
                have c23b0 : decide (t748 < 0) = false := decide_eq_false c23
                clear c23
                by_cases c24 : t748 = t746
                · rw [if_pos c24] at H
                  have c24b0 : (t748 == t746) = true := beq_iff_eq.mpr c24
                  have c24b1 : (t748 != t746) = false := bne_eq_false_iff_eq.mpr c24
                  clear c24
                  replace H := Option.bind_eq_some_iff.mp H
                  obtain ⟨⟨t749, t752, t753⟩, A250, H⟩ := H
                  replace H : ((impl_ServerSync.f k t749 t752 t753).bind fun bt754 => ((laws_eqServer.f k bt754.1 bt754.2.1 bt754.2.2.1 t716 t719 t720).bind fun t761 => (if t761 = true then (if (bt754.2.2.2 != t721) = true then (none) else ((laws_heldServer.f k t747 t732 t733 1).bind fun t762 => (if t762 < 0 then (none) else (if t762 = t746 then (some true) else (none))))) else (none)))) = some r := H
                  have A25 := Aside0.mk A250
                  clear A250
                  replace H := Option.bind_eq_some_iff.mp H
                  obtain ⟨⟨t754, t757, t758, t759⟩, A260, H⟩ := H
                  replace H : ((laws_eqServer.f k t754 t757 t758 t716 t719 t720).bind fun t761 => (if t761 = true then (if (t759 != t721) = true then (none) else ((laws_heldServer.f k t747 t732 t733 1).bind fun t762 => (if t762 < 0 then (none) else (if t762 = t746 then (some true) else (none))))) else (none))) = some r := H
                  have A26 := Aside0.mk A260
                  clear A260
                  replace H := Option.bind_eq_some_iff.mp H
                  obtain ⟨t761, A270, H⟩ := H
                  replace H : (if t761 = true then (if (t759 != t721) = true then (none) else ((laws_heldServer.f k t747 t732 t733 1).bind fun t762 => (if t762 < 0 then (none) else (if t762 = t746 then (some true) else (none))))) else (none)) = some r := H
                  have A27 := Aside0.mk A270
                  clear A270
                  by_cases c28 : t761 = true
                  · subst c28
                    have H1 : (if (t759 != t721) = true then (none) else ((laws_heldServer.f k t747 t732 t733 1).bind fun t762 => (if t762 < 0 then (none) else (if t762 = t746 then (some true) else (none))))) = some r := by rw [if_pos rfl] at H; exact H
                    clear H
                    have H := H1
                    clear H1
                    by_cases c29 : (t759 != t721) = true
                    · rw [if_pos c29] at H
                      exact absurd H (by simp)
                    · rw [if_neg c29] at H
                      have c29b0 : (t759 != t721) = false := by simpa using c29
                      (try (have c29b1 : decide (t759 = t721) = true := by simpa using c29))
                      (try (have c29b2 : (t759 == t721) = true := by simpa using c29))
                      clear c29
                      replace H := Option.bind_eq_some_iff.mp H
                      obtain ⟨t762, A300, H⟩ := H
                      replace H : (if t762 < 0 then (none) else (if t762 = t746 then (some true) else (none))) = some r := H
                      have A30 := Aside0.mk A300
                      clear A300
                      by_cases c31 : t762 < 0
                      · rw [if_pos c31] at H
                        exact absurd H (by simp)
                      · rw [if_neg c31] at H
                        have c31b0 : decide (t762 < 0) = false := decide_eq_false c31
                        clear c31
                        by_cases c32 : t762 = t746
                        · rw [if_pos c32] at H
                          have c32b0 : (t762 == t746) = true := beq_iff_eq.mpr c32
                          have c32b1 : (t762 != t746) = false := bne_eq_false_iff_eq.mpr c32
                          clear c32
                          obtain rfl := Option.some.inj H
                          go_enter Tryd.func6, Tryd.ntmps6
                          try go_wp2_with (first | ((with_reducible refine gate_dst (N := 1) rfl ?_); refine box_event ?hg (N := 1) ?hd (cs := #[.slice A0_0 l0_0.length c0_0, .int .i64 a0_1, .bool a0_2]) (t := 24) ?hr ?_; (case hd => rfl); (case hg => rfl); (case hr => first | (go_simp; done) | (go_simp; rfl)); intro gb709 hg w33 hbox hb; have n0_ := Aside0.mk (below_step (by repeat (first | (with_reducible first | exact HB.out | apply below_alloc | apply pw_below_drewN | apply below_drew1) | exact HB.out)) hb); have n1_ := Aside0.mk (hbox); have n2_ := Aside0.mk ((by rw [hg]; exact (below_size (by repeat (first | (with_reducible first | exact HB.out | apply below_alloc | apply pw_below_drewN | apply below_drew1) | exact HB.out))) : w.heap.size ≤ gb709)); have n3_ := Aside0.mk ((by rw [hg]; exact (below_size (by repeat (first | (with_reducible first | exact HB.out | apply below_alloc | apply pw_below_drewN | apply below_drew1) | exact HB.out))) : w.heap.size ≤ gb709)); clear HB; have HB := n0_; have BK709 := n1_; have GW709 := n2_; have GE709 := n3_; clear n0_ n1_ n2_ n3_; clear hb hbox hg; have hcz34_0 : w33.cell? ⟨gb709, 0, none⟩ = some (.slice A0_0 l0_0.length c0_0) := (blk_cell BK709.out 0).trans rfl; have hcz34_1 : w33.cell? ⟨gb709, 1, none⟩ = some (.int .i64 a0_1) := (blk_cell BK709.out 1).trans rfl; have hcz34_2 : w33.cell? ⟨gb709, 2, none⟩ = some (.bool a0_2) := (blk_cell BK709.out 2).trans rfl; have hfz34_0 := blk_frozen BK709.out 0; have hfz34_1 := blk_frozen BK709.out 1; have hfz34_2 := blk_frozen BK709.out 2) | ((with_reducible refine gate_callee (f := 16) rfl ?_); refine goesL_ (some 16) rfl rfl Tryd.func16 (by kernel_rfl) rfl #[.agg #[.slice A0_0 l0_0.length c0_0, .int .i64 a0_1, .bool a0_2], .int .i64 1048576] rfl (by (try simp only [List.map_toArray, List.map_cons, List.map_nil]); first | done | rfl | (simp only [List.length_drop, List.length_take]; rfl)) ?_; (with_reducible refine (laws_szServer.calls k _ _ l0_0 a0_1 a0_2 1048576 t710 _ ?side1 ?side2 A2.out).mono ?_); (case side1 => repeat (first | exact (Kd.C_below HR0_0.out HB.out) | (with_reducible refine Kd.C_alloc ?_ _) | (with_reducible refine Kd.C_drewN ?_ _) | (with_reducible refine Kd.C_drew ?_))); (case side2 => exact HC0_0.out); rintro e w35 ⟨rfl, hb⟩; refine ⟨_, rfl, ?_⟩; have n0_ := Aside0.mk (blk_below (g := gb709) (o := .cells #[.slice A0_0 l0_0.length c0_0, .int .i64 a0_1, .bool a0_2] 24 (0, 0)) (by (with_reducible repeat (first | refine blk_drewN ?_ _ | refine blk_drew ?_ | refine blk_alloc ?_ _)); exact BK709.out) hb); have n1_ := Aside0.mk (below_step (by repeat (first | (with_reducible first | exact HB.out | apply below_alloc | apply pw_below_drewN | apply below_drew1 | refine below_set ?_ GE709.out) | exact HB.out)) hb); clear BK709; clear HB; have BK709 := n0_; have HB := n1_; clear n0_ n1_; (try clear hb); (try clear hb2); (try clear hk); (try clear hi); have hcz36_0 : w35.cell? ⟨gb709, 0, none⟩ = some (.slice A0_0 l0_0.length c0_0) := (blk_cell BK709.out 0).trans rfl; have hcz36_1 : w35.cell? ⟨gb709, 1, none⟩ = some (.int .i64 a0_1) := (blk_cell BK709.out 1).trans rfl; have hcz36_2 : w35.cell? ⟨gb709, 2, none⟩ = some (.bool a0_2) := (blk_cell BK709.out 2).trans rfl; have hfz36_0 := blk_frozen BK709.out 0; have hfz36_1 := blk_frozen BK709.out 1; have hfz36_2 := blk_frozen BK709.out 2) | ((with_reducible refine gate_callee (f := 18) rfl ?_); refine goesL_ (some 21) rfl rfl Tryd.func18 (by kernel_rfl) rfl #[.agg #[.slice A0_0 l0_0.length c0_0, .int .i64 a0_1, .bool a0_2]] rfl (by (try simp only [List.map_toArray, List.map_cons, List.map_nil]); first | done | rfl | (simp only [List.length_drop, List.length_take]; rfl)) ?_; (with_reducible refine (laws_toServer.calls k _ _ l0_0 a0_1 a0_2 t711 t714 t715 _ ?side1 ?side2 A7.out).mono ?_); (case side1 => repeat (first | exact (Kd.C_below HR0_0.out HB.out) | (with_reducible refine Kd.C_alloc ?_ _) | (with_reducible refine Kd.C_drewN ?_ _) | (with_reducible refine Kd.C_drew ?_))); (case side2 => exact HC0_0.out); rintro e w37 ⟨v712, rfl, ho0, hb⟩; refine ⟨_, rfl, ?_⟩; have n0_ := Aside0.mk (Kd.R_lower ho0 (below_size (by repeat (first | (with_reducible first | exact HB.out | apply below_alloc | apply pw_below_drewN | apply below_drew1 | refine below_set ?_ GE709.out) | exact HB.out)))); have n1_ := Aside0.mk (blk_below (g := gb709) (o := .cells #[.slice A0_0 l0_0.length c0_0, .int .i64 a0_1, .bool a0_2] 24 (0, 0)) (by (with_reducible repeat (first | refine blk_drewN ?_ _ | refine blk_drew ?_ | refine blk_alloc ?_ _)); exact BK709.out) hb); have n2_ := Aside0.mk (below_step (by repeat (first | (with_reducible first | exact HB.out | apply below_alloc | apply pw_below_drewN | apply below_drew1 | refine below_set ?_ GE709.out) | exact HB.out)) hb); clear BK709; clear HB; have HO713 := n0_; have BK709 := n1_; have HB := n2_; clear n0_ n1_ n2_; (try clear hb); (try clear hb2); (try clear hk); (try clear hi); (try clear ho0); obtain ⟨Ao38, co38, eo38⟩ := Kd.R_slice HO713.out; subst eo38) | ((with_reducible refine gate_callee (f := 32) rfl ?_); refine goesL_ (some 22) rfl rfl Tryd.func32 (by kernel_rfl) rfl #[.agg #[.slice Ao38 t711.length co38, .int .i64 t714, .bool t715]] rfl (by (try simp only [List.map_toArray, List.map_cons, List.map_nil]); first | done | rfl | (simp only [List.length_drop, List.length_take]; rfl)) ?_; (with_reducible refine (spec_ServerSync.calls k _ _ t711 t714 t715 t716 t719 t720 t721 _ ?side1 ?side2 A8.out).mono ?_); (case side1 => repeat (first | exact (Kd.R_reads' HO713.out).2.2 | (with_reducible refine Kd.C_alloc ?_ _) | (with_reducible refine Kd.C_drewN ?_ _) | (with_reducible refine Kd.C_drew ?_))); (case side2 => exact (Kd.R_reads' HO713.out).2.1); rintro e w39 ⟨v717, rfl, ho0, hb⟩; refine ⟨_, rfl, ?_⟩; have n0_ := Aside0.mk (Kd.R_elder' (by (with_reducible repeat (first | apply Kd.R_alloc | apply Kd.R_drewN | apply Kd.R_drew)); exact HO713.out) (Kd.R_base ho0) hb); have n1_ := Aside0.mk (Kd.R_lower (Kd.R_new' ho0 (Kd.R_lt (by (with_reducible repeat (first | apply Kd.R_alloc | apply Kd.R_drewN | apply Kd.R_drew)); exact HO713.out))) (below_size (by repeat (first | (with_reducible first | exact HB.out | apply below_alloc | apply pw_below_drewN | apply below_drew1 | refine below_set ?_ GE709.out) | exact HB.out)))); have n2_ := Aside0.mk (blk_below (g := gb709) (o := .cells #[.slice A0_0 l0_0.length c0_0, .int .i64 a0_1, .bool a0_2] 24 (0, 0)) (by (with_reducible repeat (first | refine blk_drewN ?_ _ | refine blk_drew ?_ | refine blk_alloc ?_ _)); exact BK709.out) hb); have n3_ := Aside0.mk (below_step (by repeat (first | (with_reducible first | exact HB.out | apply below_alloc | apply pw_below_drewN | apply below_drew1 | refine below_set ?_ GE709.out) | exact HB.out)) hb); clear HO713; clear BK709; clear HB; have HO713 := n0_; have HO718 := n1_; have BK709 := n2_; have HB := n3_; clear n0_ n1_ n2_ n3_; (try clear hb); (try clear hb2); (try clear hk); (try clear hi); (try clear ho0)) | ((with_reducible refine gate_dst (N := 4) rfl ?_); refine box_event ?hg (N := 4) ?hd (cs := #[.slice none 0 0, .int .i64 0, .bool false]) (t := 29) ?hr ?_; (case hd => rfl); (case hg => rfl); (case hr => first | (go_simp; done) | (go_simp; rfl)); intro gb722 hg w40 hbox hb; have n0_ := Aside0.mk (Kd.R_below (by (with_reducible repeat (first | apply Kd.R_alloc | apply Kd.R_drewN | apply Kd.R_drew)); exact HO713.out) hb); have n1_ := Aside0.mk (Kd.R_below (by (with_reducible repeat (first | apply Kd.R_alloc | apply Kd.R_drewN | apply Kd.R_drew)); exact HO718.out) hb); have n2_ := Aside0.mk (blk_below (g := gb709) (o := .cells #[.slice A0_0 l0_0.length c0_0, .int .i64 a0_1, .bool a0_2] 24 (0, 0)) (by (with_reducible repeat (first | refine blk_drewN ?_ _ | refine blk_drew ?_ | refine blk_alloc ?_ _)); exact BK709.out) hb); have n3_ := Aside0.mk (below_step (by repeat (first | (with_reducible first | exact HB.out | apply below_alloc | apply pw_below_drewN | apply below_drew1 | refine below_set ?_ GE709.out) | exact HB.out)) hb); have n4_ := Aside0.mk (hbox); have n5_ := Aside0.mk ((by rw [hg]; exact (below_size (by repeat (first | (with_reducible first | exact HB.out | apply below_alloc | apply pw_below_drewN | apply below_drew1 | refine below_set ?_ GE709.out) | exact HB.out))) : w.heap.size ≤ gb722)); have n6_ := Aside0.mk ((by rw [hg]; exact (below_size (by repeat (first | (with_reducible first | exact HB.out | apply below_alloc | apply pw_below_drewN | apply below_drew1 | refine below_set ?_ GE709.out) | exact HB.out))) : w.heap.size ≤ gb722)); have n7_ := Aside0.mk ((by rw [hg]; exact Nat.ne_of_lt (blk_lt (g := gb709) (o := .cells #[.slice A0_0 l0_0.length c0_0, .int .i64 a0_1, .bool a0_2] 24 (0, 0)) (by (with_reducible repeat (first | refine blk_drewN ?_ _ | refine blk_drew ?_ | refine blk_alloc ?_ _)); exact BK709.out)) : gb709 ≠ gb722)); have n8_ := Aside0.mk ((by rw [hg]; exact Nat.ne_of_gt (blk_lt (g := gb709) (o := .cells #[.slice A0_0 l0_0.length c0_0, .int .i64 a0_1, .bool a0_2] 24 (0, 0)) (by (with_reducible repeat (first | refine blk_drewN ?_ _ | refine blk_drew ?_ | refine blk_alloc ?_ _)); exact BK709.out)) : gb722 ≠ gb709)); clear HO713; clear HO718; clear BK709; clear HB; have HO713 := n0_; have HO718 := n1_; have BK709 := n2_; have HB := n3_; have BK722 := n4_; have GW722 := n5_; have GE722 := n6_; have NB709_722 := n7_; have NB722_709 := n8_; clear n0_ n1_ n2_ n3_ n4_ n5_ n6_ n7_ n8_; clear hb hbox hg; obtain ⟨Ao41, co41, eo41⟩ := Kd.R_slice HO718.out; subst eo41; have hnb42 := NB722_709.out; have hnc42 := NB709_722.out; have hcz43_0 : w40.cell? ⟨gb722, 0, none⟩ = some (.slice none 0 0) := (blk_cell BK722.out 0).trans rfl; have hcz43_1 : w40.cell? ⟨gb722, 1, none⟩ = some (.int .i64 0) := (blk_cell BK722.out 1).trans rfl; have hcz43_2 : w40.cell? ⟨gb722, 2, none⟩ = some (.bool false) := (blk_cell BK722.out 2).trans rfl; have hfz43_0 := blk_frozen BK722.out 0; have hfz43_1 := blk_frozen BK722.out 1; have hfz43_2 := blk_frozen BK722.out 2; have hcz44_0 : w40.cell? ⟨gb709, 0, none⟩ = some (.slice A0_0 l0_0.length c0_0) := (blk_cell BK709.out 0).trans rfl; have hcz44_1 : w40.cell? ⟨gb709, 1, none⟩ = some (.int .i64 a0_1) := (blk_cell BK709.out 1).trans rfl; have hcz44_2 : w40.cell? ⟨gb709, 2, none⟩ = some (.bool a0_2) := (blk_cell BK709.out 2).trans rfl; have hfz44_0 := blk_frozen BK709.out 0; have hfz44_1 := blk_frozen BK709.out 1; have hfz44_2 := blk_frozen BK709.out 2) | ((with_reducible refine gate_callee (f := 18) rfl ?_); refine goesL_ (some 26) rfl rfl Tryd.func18 (by kernel_rfl) rfl #[.agg #[.slice A0_0 l0_0.length c0_0, .int .i64 a0_1, .bool a0_2]] rfl (by (try simp only [List.map_toArray, List.map_cons, List.map_nil]); first | done | rfl | (simp only [List.length_drop, List.length_take]; rfl)) ?_; (with_reducible refine (laws_toServer.calls k _ _ l0_0 a0_1 a0_2 t723 t726 t727 _ ?side1 ?side2 A9.out).mono ?_); (case side1 => exact Kd.C_below HR0_0.out (by repeat (first | (with_reducible first | exact HB.out | apply below_alloc | apply pw_below_drewN | apply below_drew1 | refine below_set ?_ GE709.out | refine below_set ?_ GE722.out) | exact HB.out))); (case side2 => exact HC0_0.out); rintro e w45 ⟨v724, rfl, ho0, hb⟩; refine ⟨_, rfl, ?_⟩; have n0_ := Aside0.mk (Kd.R_elder' (by (with_reducible repeat (first | apply Kd.R_alloc | apply Kd.R_drewN | apply Kd.R_drew)); exact (Kd.R_mono (Kd.R_far (p := ⟨gb722, 2, none⟩) (Kd.R_far (p := ⟨gb722, 1, none⟩) (Kd.R_far (p := ⟨gb722, 0, none⟩) (Kd.R_types HO713.out BK722.out (by decide)) (fun _ hk => hk.2) (.slice Ao41 t716.length co41)) (fun _ hk => hk.2) (.int .i64 t719)) (fun _ hk => hk.2) (.bool t720)) (fun _ h_ => h_.1))) (Kd.R_base ho0) hb); have n1_ := Aside0.mk (Kd.R_elder' (by (with_reducible repeat (first | apply Kd.R_alloc | apply Kd.R_drewN | apply Kd.R_drew)); exact (Kd.R_mono (Kd.R_far (p := ⟨gb722, 2, none⟩) (Kd.R_far (p := ⟨gb722, 1, none⟩) (Kd.R_far (p := ⟨gb722, 0, none⟩) (Kd.R_types HO718.out BK722.out (by decide)) (fun _ hk => hk.2) (.slice Ao41 t716.length co41)) (fun _ hk => hk.2) (.int .i64 t719)) (fun _ hk => hk.2) (.bool t720)) (fun _ h_ => h_.1))) (Kd.R_base ho0) hb); have n2_ := Aside0.mk (Kd.R_lower (Kd.R_new' (Kd.R_new' ho0 (Kd.R_lt (by (with_reducible repeat (first | apply Kd.R_alloc | apply Kd.R_drewN | apply Kd.R_drew)); exact (Kd.R_mono (Kd.R_far (p := ⟨gb722, 2, none⟩) (Kd.R_far (p := ⟨gb722, 1, none⟩) (Kd.R_far (p := ⟨gb722, 0, none⟩) (Kd.R_types HO713.out BK722.out (by decide)) (fun _ hk => hk.2) (.slice Ao41 t716.length co41)) (fun _ hk => hk.2) (.int .i64 t719)) (fun _ hk => hk.2) (.bool t720)) (fun _ h_ => h_.1))))) (Kd.R_lt (by (with_reducible repeat (first | apply Kd.R_alloc | apply Kd.R_drewN | apply Kd.R_drew)); exact (Kd.R_mono (Kd.R_far (p := ⟨gb722, 2, none⟩) (Kd.R_far (p := ⟨gb722, 1, none⟩) (Kd.R_far (p := ⟨gb722, 0, none⟩) (Kd.R_types HO718.out BK722.out (by decide)) (fun _ hk => hk.2) (.slice Ao41 t716.length co41)) (fun _ hk => hk.2) (.int .i64 t719)) (fun _ hk => hk.2) (.bool t720)) (fun _ h_ => h_.1))))) (below_size (by repeat (first | (with_reducible first | exact HB.out | apply below_alloc | apply pw_below_drewN | apply below_drew1 | refine below_set ?_ GE709.out | refine below_set ?_ GE722.out) | exact HB.out)))); have n3_ := Aside0.mk (blk_below (g := gb709) (o := .cells #[.slice A0_0 l0_0.length c0_0, .int .i64 a0_1, .bool a0_2] 24 (0, 0)) (by (with_reducible repeat (first | refine blk_drewN ?_ _ | refine blk_drew ?_ | refine blk_alloc ?_ _)); refine blk_far ?_ NB709_722.out _; (with_reducible repeat (first | refine blk_drewN ?_ _ | refine blk_drew ?_ | refine blk_alloc ?_ _)); refine blk_far ?_ NB709_722.out _; (with_reducible repeat (first | refine blk_drewN ?_ _ | refine blk_drew ?_ | refine blk_alloc ?_ _)); refine blk_far ?_ NB709_722.out _; (with_reducible repeat (first | refine blk_drewN ?_ _ | refine blk_drew ?_ | refine blk_alloc ?_ _)); exact BK709.out) hb); have n4_ := Aside0.mk (blk_below (g := gb722) (o := .cells #[.slice Ao41 t716.length co41, .int .i64 t719, .bool t720] 29 (0, 0)) (by (with_reducible repeat (first | refine blk_drewN ?_ _ | refine blk_drew ?_ | refine blk_alloc ?_ _)); refine blk_put (cs := #[.slice Ao41 t716.length co41, .int .i64 t719, .bool false]) ?_ 2 _ rfl; (with_reducible repeat (first | refine blk_drewN ?_ _ | refine blk_drew ?_ | refine blk_alloc ?_ _)); refine blk_put (cs := #[.slice Ao41 t716.length co41, .int .i64 0, .bool false]) ?_ 1 _ rfl; (with_reducible repeat (first | refine blk_drewN ?_ _ | refine blk_drew ?_ | refine blk_alloc ?_ _)); refine blk_put (cs := #[.slice none 0 0, .int .i64 0, .bool false]) ?_ 0 _ rfl; (with_reducible repeat (first | refine blk_drewN ?_ _ | refine blk_drew ?_ | refine blk_alloc ?_ _)); exact BK722.out) hb); have n5_ := Aside0.mk (below_step (by repeat (first | (with_reducible first | exact HB.out | apply below_alloc | apply pw_below_drewN | apply below_drew1 | refine below_set ?_ GE709.out | refine below_set ?_ GE722.out) | exact HB.out)) hb); clear HO713; clear HO718; clear BK709; clear BK722; clear HB; have HO713 := n0_; have HO718 := n1_; have HO725 := n2_; have BK709 := n3_; have BK722 := n4_; have HB := n5_; clear n0_ n1_ n2_ n3_ n4_ n5_; (try clear hb); (try clear hb2); (try clear hk); (try clear hi); (try clear ho0)) | ((with_reducible refine gate_dst (N := 6) rfl ?_); refine box_event ?hg (N := 6) ?hd (cs := #[.slice none 0 0, .int .i64 0, .bool false]) (t := 29) ?hr ?_; (case hd => rfl); (case hg => rfl); (case hr => first | (go_simp; done) | (go_simp; rfl)); intro gb728 hg w46 hbox hb; have n0_ := Aside0.mk (Kd.R_below (by (with_reducible repeat (first | apply Kd.R_alloc | apply Kd.R_drewN | apply Kd.R_drew)); exact HO713.out) hb); have n1_ := Aside0.mk (Kd.R_below (by (with_reducible repeat (first | apply Kd.R_alloc | apply Kd.R_drewN | apply Kd.R_drew)); exact HO718.out) hb); have n2_ := Aside0.mk (Kd.R_below (by (with_reducible repeat (first | apply Kd.R_alloc | apply Kd.R_drewN | apply Kd.R_drew)); exact HO725.out) hb); have n3_ := Aside0.mk (blk_below (g := gb709) (o := .cells #[.slice A0_0 l0_0.length c0_0, .int .i64 a0_1, .bool a0_2] 24 (0, 0)) (by (with_reducible repeat (first | refine blk_drewN ?_ _ | refine blk_drew ?_ | refine blk_alloc ?_ _)); exact BK709.out) hb); have n4_ := Aside0.mk (blk_below (g := gb722) (o := .cells #[.slice Ao41 t716.length co41, .int .i64 t719, .bool t720] 29 (0, 0)) (by (with_reducible repeat (first | refine blk_drewN ?_ _ | refine blk_drew ?_ | refine blk_alloc ?_ _)); exact BK722.out) hb); have n5_ := Aside0.mk (below_step (by repeat (first | (with_reducible first | exact HB.out | apply below_alloc | apply pw_below_drewN | apply below_drew1 | refine below_set ?_ GE709.out | refine below_set ?_ GE722.out) | exact HB.out)) hb); have n6_ := Aside0.mk (hbox); have n7_ := Aside0.mk ((by rw [hg]; exact (below_size (by repeat (first | (with_reducible first | exact HB.out | apply below_alloc | apply pw_below_drewN | apply below_drew1 | refine below_set ?_ GE709.out | refine below_set ?_ GE722.out) | exact HB.out))) : w.heap.size ≤ gb728)); have n8_ := Aside0.mk ((by rw [hg]; exact (below_size (by repeat (first | (with_reducible first | exact HB.out | apply below_alloc | apply pw_below_drewN | apply below_drew1 | refine below_set ?_ GE709.out | refine below_set ?_ GE722.out) | exact HB.out))) : w.heap.size ≤ gb728)); have n9_ := Aside0.mk ((by rw [hg]; exact Nat.ne_of_lt (blk_lt (g := gb709) (o := .cells #[.slice A0_0 l0_0.length c0_0, .int .i64 a0_1, .bool a0_2] 24 (0, 0)) (by (with_reducible repeat (first | refine blk_drewN ?_ _ | refine blk_drew ?_ | refine blk_alloc ?_ _)); exact BK709.out)) : gb709 ≠ gb728)); have n10_ := Aside0.mk ((by rw [hg]; exact Nat.ne_of_gt (blk_lt (g := gb709) (o := .cells #[.slice A0_0 l0_0.length c0_0, .int .i64 a0_1, .bool a0_2] 24 (0, 0)) (by (with_reducible repeat (first | refine blk_drewN ?_ _ | refine blk_drew ?_ | refine blk_alloc ?_ _)); exact BK709.out)) : gb728 ≠ gb709)); have n11_ := Aside0.mk ((by rw [hg]; exact Nat.ne_of_lt (blk_lt (g := gb722) (o := .cells #[.slice Ao41 t716.length co41, .int .i64 t719, .bool t720] 29 (0, 0)) (by (with_reducible repeat (first | refine blk_drewN ?_ _ | refine blk_drew ?_ | refine blk_alloc ?_ _)); exact BK722.out)) : gb722 ≠ gb728)); have n12_ := Aside0.mk ((by rw [hg]; exact Nat.ne_of_gt (blk_lt (g := gb722) (o := .cells #[.slice Ao41 t716.length co41, .int .i64 t719, .bool t720] 29 (0, 0)) (by (with_reducible repeat (first | refine blk_drewN ?_ _ | refine blk_drew ?_ | refine blk_alloc ?_ _)); exact BK722.out)) : gb728 ≠ gb722)); clear HO713; clear HO718; clear HO725; clear BK709; clear BK722; clear HB; have HO713 := n0_; have HO718 := n1_; have HO725 := n2_; have BK709 := n3_; have BK722 := n4_; have HB := n5_; have BK728 := n6_; have GW728 := n7_; have GE728 := n8_; have NB709_728 := n9_; have NB728_709 := n10_; have NB722_728 := n11_; have NB728_722 := n12_; clear n0_ n1_ n2_ n3_ n4_ n5_ n6_ n7_ n8_ n9_ n10_ n11_ n12_; clear hb hbox hg; obtain ⟨Ao47, co47, eo47⟩ := Kd.R_slice HO725.out; subst eo47; have hnb48 := NB728_709.out; have hnc48 := NB709_728.out; have hnb49 := NB728_722.out; have hnc49 := NB722_728.out; have hcz50_0 : w46.cell? ⟨gb728, 0, none⟩ = some (.slice none 0 0) := (blk_cell BK728.out 0).trans rfl; have hcz50_1 : w46.cell? ⟨gb728, 1, none⟩ = some (.int .i64 0) := (blk_cell BK728.out 1).trans rfl; have hcz50_2 : w46.cell? ⟨gb728, 2, none⟩ = some (.bool false) := (blk_cell BK728.out 2).trans rfl; have hfz50_0 := blk_frozen BK728.out 0; have hfz50_1 := blk_frozen BK728.out 1; have hfz50_2 := blk_frozen BK728.out 2) | ((with_reducible refine gate_callee (f := 33) rfl ?_); refine goesL_ (some 29) rfl rfl Tryd.func33 (by kernel_rfl) rfl #[.agg #[.slice Ao47 t723.length co47, .int .i64 t726, .bool t727]] rfl (by (try simp only [List.map_toArray, List.map_cons, List.map_nil]); first | done | rfl | (simp only [List.length_drop, List.length_take]; rfl)) ?_; (with_reducible refine (impl_ServerSync.calls k _ _ t723 t726 t727 t729 t732 t733 t734 _ ?side1 ?side2 A10.out ?side3).mono ?_); (case side1 => refine (Kd.R_reads' (e := 56) (base := w.heap.size) (ok := fun k_ => ((True ∧ some k_ ≠ (.slice Ao38 t711.length co38 : Value).ownBlock) ∧ some k_ ≠ (.slice Ao41 t716.length co41 : Value).ownBlock)) (n := t723.length) (c := co47) ?_).2.2; exact (by (with_reducible repeat (first | apply Kd.R_alloc | apply Kd.R_drewN | apply Kd.R_drew)); exact (Kd.R_mono (Kd.R_far (p := ⟨gb728, 2, none⟩) (Kd.R_far (p := ⟨gb728, 1, none⟩) (Kd.R_far (p := ⟨gb728, 0, none⟩) (Kd.R_types HO725.out BK728.out (by decide)) (fun _ hk => hk.2) (.slice Ao47 t723.length co47)) (fun _ hk => hk.2) (.int .i64 t726)) (fun _ hk => hk.2) (.bool t727)) (fun _ h_ => h_.1)))); (case side2 => exact (Kd.R_reads' HO725.out).2.1); (case side3 => exact Glob.below HG.out (by repeat (first | (with_reducible first | exact HB.out | apply below_alloc | apply pw_below_drewN | apply below_drew1 | refine below_set ?_ GE709.out | refine below_set ?_ GE722.out | refine below_set ?_ GE728.out) | exact HB.out))); rintro e w51 ⟨v730, rfl, ho0, hb⟩; refine ⟨_, rfl, ?_⟩; have n0_ := Aside0.mk (Kd.R_elder' (by (with_reducible repeat (first | apply Kd.R_alloc | apply Kd.R_drewN | apply Kd.R_drew)); exact (Kd.R_mono (Kd.R_far (p := ⟨gb728, 2, none⟩) (Kd.R_far (p := ⟨gb728, 1, none⟩) (Kd.R_far (p := ⟨gb728, 0, none⟩) (Kd.R_types HO713.out BK728.out (by decide)) (fun _ hk => hk.2) (.slice Ao47 t723.length co47)) (fun _ hk => hk.2) (.int .i64 t726)) (fun _ hk => hk.2) (.bool t727)) (fun _ h_ => h_.1))) (Kd.R_base ho0) hb); have n1_ := Aside0.mk (Kd.R_elder' (by (with_reducible repeat (first | apply Kd.R_alloc | apply Kd.R_drewN | apply Kd.R_drew)); exact (Kd.R_mono (Kd.R_far (p := ⟨gb728, 2, none⟩) (Kd.R_far (p := ⟨gb728, 1, none⟩) (Kd.R_far (p := ⟨gb728, 0, none⟩) (Kd.R_types HO718.out BK728.out (by decide)) (fun _ hk => hk.2) (.slice Ao47 t723.length co47)) (fun _ hk => hk.2) (.int .i64 t726)) (fun _ hk => hk.2) (.bool t727)) (fun _ h_ => h_.1))) (Kd.R_base ho0) hb); have n2_ := Aside0.mk (Kd.R_elder' (by (with_reducible repeat (first | apply Kd.R_alloc | apply Kd.R_drewN | apply Kd.R_drew)); exact (Kd.R_mono (Kd.R_far (p := ⟨gb728, 2, none⟩) (Kd.R_far (p := ⟨gb728, 1, none⟩) (Kd.R_far (p := ⟨gb728, 0, none⟩) (Kd.R_types HO725.out BK728.out (by decide)) (fun _ hk => hk.2) (.slice Ao47 t723.length co47)) (fun _ hk => hk.2) (.int .i64 t726)) (fun _ hk => hk.2) (.bool t727)) (fun _ h_ => h_.1))) (Kd.R_base ho0) hb); have n3_ := Aside0.mk (Kd.R_lower (Kd.R_new' (Kd.R_new' (Kd.R_new' ho0 (Kd.R_lt (by (with_reducible repeat (first | apply Kd.R_alloc | apply Kd.R_drewN | apply Kd.R_drew)); exact (Kd.R_mono (Kd.R_far (p := ⟨gb728, 2, none⟩) (Kd.R_far (p := ⟨gb728, 1, none⟩) (Kd.R_far (p := ⟨gb728, 0, none⟩) (Kd.R_types HO713.out BK728.out (by decide)) (fun _ hk => hk.2) (.slice Ao47 t723.length co47)) (fun _ hk => hk.2) (.int .i64 t726)) (fun _ hk => hk.2) (.bool t727)) (fun _ h_ => h_.1))))) (Kd.R_lt (by (with_reducible repeat (first | apply Kd.R_alloc | apply Kd.R_drewN | apply Kd.R_drew)); exact (Kd.R_mono (Kd.R_far (p := ⟨gb728, 2, none⟩) (Kd.R_far (p := ⟨gb728, 1, none⟩) (Kd.R_far (p := ⟨gb728, 0, none⟩) (Kd.R_types HO718.out BK728.out (by decide)) (fun _ hk => hk.2) (.slice Ao47 t723.length co47)) (fun _ hk => hk.2) (.int .i64 t726)) (fun _ hk => hk.2) (.bool t727)) (fun _ h_ => h_.1))))) (Kd.R_lt (by (with_reducible repeat (first | apply Kd.R_alloc | apply Kd.R_drewN | apply Kd.R_drew)); exact (Kd.R_mono (Kd.R_far (p := ⟨gb728, 2, none⟩) (Kd.R_far (p := ⟨gb728, 1, none⟩) (Kd.R_far (p := ⟨gb728, 0, none⟩) (Kd.R_types HO725.out BK728.out (by decide)) (fun _ hk => hk.2) (.slice Ao47 t723.length co47)) (fun _ hk => hk.2) (.int .i64 t726)) (fun _ hk => hk.2) (.bool t727)) (fun _ h_ => h_.1))))) (below_size (by repeat (first | (with_reducible first | exact HB.out | apply below_alloc | apply pw_below_drewN | apply below_drew1 | refine below_set ?_ GE709.out | refine below_set ?_ GE722.out | refine below_set ?_ GE728.out) | exact HB.out)))); have n4_ := Aside0.mk (blk_below (g := gb709) (o := .cells #[.slice A0_0 l0_0.length c0_0, .int .i64 a0_1, .bool a0_2] 24 (0, 0)) (by (with_reducible repeat (first | refine blk_drewN ?_ _ | refine blk_drew ?_ | refine blk_alloc ?_ _)); refine blk_far ?_ NB709_728.out _; (with_reducible repeat (first | refine blk_drewN ?_ _ | refine blk_drew ?_ | refine blk_alloc ?_ _)); refine blk_far ?_ NB709_728.out _; (with_reducible repeat (first | refine blk_drewN ?_ _ | refine blk_drew ?_ | refine blk_alloc ?_ _)); refine blk_far ?_ NB709_728.out _; (with_reducible repeat (first | refine blk_drewN ?_ _ | refine blk_drew ?_ | refine blk_alloc ?_ _)); exact BK709.out) hb); have n5_ := Aside0.mk (blk_below (g := gb722) (o := .cells #[.slice Ao41 t716.length co41, .int .i64 t719, .bool t720] 29 (0, 0)) (by (with_reducible repeat (first | refine blk_drewN ?_ _ | refine blk_drew ?_ | refine blk_alloc ?_ _)); refine blk_far ?_ NB722_728.out _; (with_reducible repeat (first | refine blk_drewN ?_ _ | refine blk_drew ?_ | refine blk_alloc ?_ _)); refine blk_far ?_ NB722_728.out _; (with_reducible repeat (first | refine blk_drewN ?_ _ | refine blk_drew ?_ | refine blk_alloc ?_ _)); refine blk_far ?_ NB722_728.out _; (with_reducible repeat (first | refine blk_drewN ?_ _ | refine blk_drew ?_ | refine blk_alloc ?_ _)); exact BK722.out) hb); have n6_ := Aside0.mk (blk_below (g := gb728) (o := .cells #[.slice Ao47 t723.length co47, .int .i64 t726, .bool t727] 29 (0, 0)) (by (with_reducible repeat (first | refine blk_drewN ?_ _ | refine blk_drew ?_ | refine blk_alloc ?_ _)); refine blk_put (cs := #[.slice Ao47 t723.length co47, .int .i64 t726, .bool false]) ?_ 2 _ rfl; (with_reducible repeat (first | refine blk_drewN ?_ _ | refine blk_drew ?_ | refine blk_alloc ?_ _)); refine blk_put (cs := #[.slice Ao47 t723.length co47, .int .i64 0, .bool false]) ?_ 1 _ rfl; (with_reducible repeat (first | refine blk_drewN ?_ _ | refine blk_drew ?_ | refine blk_alloc ?_ _)); refine blk_put (cs := #[.slice none 0 0, .int .i64 0, .bool false]) ?_ 0 _ rfl; (with_reducible repeat (first | refine blk_drewN ?_ _ | refine blk_drew ?_ | refine blk_alloc ?_ _)); exact BK728.out) hb); have n7_ := Aside0.mk (below_step (by repeat (first | (with_reducible first | exact HB.out | apply below_alloc | apply pw_below_drewN | apply below_drew1 | refine below_set ?_ GE709.out | refine below_set ?_ GE722.out | refine below_set ?_ GE728.out) | exact HB.out)) hb); clear HO713; clear HO718; clear HO725; clear BK709; clear BK722; clear BK728; clear HB; have HO713 := n0_; have HO718 := n1_; have HO725 := n2_; have HO731 := n3_; have BK709 := n4_; have BK722 := n5_; have BK728 := n6_; have HB := n7_; clear n0_ n1_ n2_ n3_ n4_ n5_ n6_ n7_; (try clear hb); (try clear hb2); (try clear hk); (try clear hi); (try clear ho0)) | ((with_reducible refine gate_dst (N := 7) rfl ?_); refine box_event ?hg (N := 7) ?hd (cs := #[.slice none 0 0, .int .i64 0, .bool false]) (t := 29) ?hr ?_; (case hd => rfl); (case hg => rfl); (case hr => first | (go_simp; done) | (go_simp; rfl)); intro gb735 hg w52 hbox hb; have n0_ := Aside0.mk (Kd.R_below (by (with_reducible repeat (first | apply Kd.R_alloc | apply Kd.R_drewN | apply Kd.R_drew)); exact HO713.out) hb); have n1_ := Aside0.mk (Kd.R_below (by (with_reducible repeat (first | apply Kd.R_alloc | apply Kd.R_drewN | apply Kd.R_drew)); exact HO718.out) hb); have n2_ := Aside0.mk (Kd.R_below (by (with_reducible repeat (first | apply Kd.R_alloc | apply Kd.R_drewN | apply Kd.R_drew)); exact HO725.out) hb); have n3_ := Aside0.mk (Kd.R_below (by (with_reducible repeat (first | apply Kd.R_alloc | apply Kd.R_drewN | apply Kd.R_drew)); exact HO731.out) hb); have n4_ := Aside0.mk (blk_below (g := gb709) (o := .cells #[.slice A0_0 l0_0.length c0_0, .int .i64 a0_1, .bool a0_2] 24 (0, 0)) (by (with_reducible repeat (first | refine blk_drewN ?_ _ | refine blk_drew ?_ | refine blk_alloc ?_ _)); exact BK709.out) hb); have n5_ := Aside0.mk (blk_below (g := gb722) (o := .cells #[.slice Ao41 t716.length co41, .int .i64 t719, .bool t720] 29 (0, 0)) (by (with_reducible repeat (first | refine blk_drewN ?_ _ | refine blk_drew ?_ | refine blk_alloc ?_ _)); exact BK722.out) hb); have n6_ := Aside0.mk (blk_below (g := gb728) (o := .cells #[.slice Ao47 t723.length co47, .int .i64 t726, .bool t727] 29 (0, 0)) (by (with_reducible repeat (first | refine blk_drewN ?_ _ | refine blk_drew ?_ | refine blk_alloc ?_ _)); exact BK728.out) hb); have n7_ := Aside0.mk (below_step (by repeat (first | (with_reducible first | exact HB.out | apply below_alloc | apply pw_below_drewN | apply below_drew1 | refine below_set ?_ GE709.out | refine below_set ?_ GE722.out | refine below_set ?_ GE728.out) | exact HB.out)) hb); have n8_ := Aside0.mk (hbox); have n9_ := Aside0.mk ((by rw [hg]; exact (below_size (by repeat (first | (with_reducible first | exact HB.out | apply below_alloc | apply pw_below_drewN | apply below_drew1 | refine below_set ?_ GE709.out | refine below_set ?_ GE722.out | refine below_set ?_ GE728.out) | exact HB.out))) : w.heap.size ≤ gb735)); have n10_ := Aside0.mk ((by rw [hg]; exact (below_size (by repeat (first | (with_reducible first | exact HB.out | apply below_alloc | apply pw_below_drewN | apply below_drew1 | refine below_set ?_ GE709.out | refine below_set ?_ GE722.out | refine below_set ?_ GE728.out) | exact HB.out))) : w.heap.size ≤ gb735)); have n11_ := Aside0.mk ((by rw [hg]; exact Nat.ne_of_lt (blk_lt (g := gb709) (o := .cells #[.slice A0_0 l0_0.length c0_0, .int .i64 a0_1, .bool a0_2] 24 (0, 0)) (by (with_reducible repeat (first | refine blk_drewN ?_ _ | refine blk_drew ?_ | refine blk_alloc ?_ _)); exact BK709.out)) : gb709 ≠ gb735)); have n12_ := Aside0.mk ((by rw [hg]; exact Nat.ne_of_gt (blk_lt (g := gb709) (o := .cells #[.slice A0_0 l0_0.length c0_0, .int .i64 a0_1, .bool a0_2] 24 (0, 0)) (by (with_reducible repeat (first | refine blk_drewN ?_ _ | refine blk_drew ?_ | refine blk_alloc ?_ _)); exact BK709.out)) : gb735 ≠ gb709)); have n13_ := Aside0.mk ((by rw [hg]; exact Nat.ne_of_lt (blk_lt (g := gb722) (o := .cells #[.slice Ao41 t716.length co41, .int .i64 t719, .bool t720] 29 (0, 0)) (by (with_reducible repeat (first | refine blk_drewN ?_ _ | refine blk_drew ?_ | refine blk_alloc ?_ _)); exact BK722.out)) : gb722 ≠ gb735)); have n14_ := Aside0.mk ((by rw [hg]; exact Nat.ne_of_gt (blk_lt (g := gb722) (o := .cells #[.slice Ao41 t716.length co41, .int .i64 t719, .bool t720] 29 (0, 0)) (by (with_reducible repeat (first | refine blk_drewN ?_ _ | refine blk_drew ?_ | refine blk_alloc ?_ _)); exact BK722.out)) : gb735 ≠ gb722)); have n15_ := Aside0.mk ((by rw [hg]; exact Nat.ne_of_lt (blk_lt (g := gb728) (o := .cells #[.slice Ao47 t723.length co47, .int .i64 t726, .bool t727] 29 (0, 0)) (by (with_reducible repeat (first | refine blk_drewN ?_ _ | refine blk_drew ?_ | refine blk_alloc ?_ _)); exact BK728.out)) : gb728 ≠ gb735)); have n16_ := Aside0.mk ((by rw [hg]; exact Nat.ne_of_gt (blk_lt (g := gb728) (o := .cells #[.slice Ao47 t723.length co47, .int .i64 t726, .bool t727] 29 (0, 0)) (by (with_reducible repeat (first | refine blk_drewN ?_ _ | refine blk_drew ?_ | refine blk_alloc ?_ _)); exact BK728.out)) : gb735 ≠ gb728)); clear HO713; clear HO718; clear HO725; clear HO731; clear BK709; clear BK722; clear BK728; clear HB; have HO713 := n0_; have HO718 := n1_; have HO725 := n2_; have HO731 := n3_; have BK709 := n4_; have BK722 := n5_; have BK728 := n6_; have HB := n7_; have BK735 := n8_; have GW735 := n9_; have GE735 := n10_; have NB709_735 := n11_; have NB735_709 := n12_; have NB722_735 := n13_; have NB735_722 := n14_; have NB728_735 := n15_; have NB735_728 := n16_; clear n0_ n1_ n2_ n3_ n4_ n5_ n6_ n7_ n8_ n9_ n10_ n11_ n12_ n13_ n14_ n15_ n16_; clear hb hbox hg; obtain ⟨Ao53, co53, eo53⟩ := Kd.R_slice HO731.out; subst eo53; have hnb54 := NB735_709.out; have hnc54 := NB709_735.out; have hnb55 := NB735_722.out; have hnc55 := NB722_735.out; have hnb56 := NB735_728.out; have hnc56 := NB728_735.out; have hcz57_0 : w52.cell? ⟨gb735, 0, none⟩ = some (.slice none 0 0) := (blk_cell BK735.out 0).trans rfl; have hcz57_1 : w52.cell? ⟨gb735, 1, none⟩ = some (.int .i64 0) := (blk_cell BK735.out 1).trans rfl; have hcz57_2 : w52.cell? ⟨gb735, 2, none⟩ = some (.bool false) := (blk_cell BK735.out 2).trans rfl; have hfz57_0 := blk_frozen BK735.out 0; have hfz57_1 := blk_frozen BK735.out 1; have hfz57_2 := blk_frozen BK735.out 2; have hcz58_0 : w52.cell? ⟨gb722, 0, none⟩ = some (.slice Ao41 t716.length co41) := (blk_cell BK722.out 0).trans rfl; have hcz58_1 : w52.cell? ⟨gb722, 1, none⟩ = some (.int .i64 t719) := (blk_cell BK722.out 1).trans rfl; have hcz58_2 : w52.cell? ⟨gb722, 2, none⟩ = some (.bool t720) := (blk_cell BK722.out 2).trans rfl; have hfz58_0 := blk_frozen BK722.out 0; have hfz58_1 := blk_frozen BK722.out 1; have hfz58_2 := blk_frozen BK722.out 2) | ((with_reducible refine gate_callee (f := 21) rfl ?_); refine goesL_ (some 34) rfl rfl Tryd.func21 (by kernel_rfl) rfl #[.agg #[.slice Ao53 t729.length co53, .int .i64 t732, .bool t733], .agg #[.slice Ao41 t716.length co41, .int .i64 t719, .bool t720]] rfl (by (try simp only [List.map_toArray, List.map_cons, List.map_nil]); first | done | rfl | (simp only [List.length_drop, List.length_take]; rfl)) ?_; (with_reducible refine (laws_eqServer.calls k _ _ t729 t732 t733 _ _ t716 t719 t720 true _ ?side1 ?side2 ?side3 ?side4 A11.out).mono ?_); (case side1 => refine (Kd.R_reads' (e := 56) (base := w.heap.size) (ok := fun k_ => (((True ∧ some k_ ≠ (.slice Ao38 t711.length co38 : Value).ownBlock) ∧ some k_ ≠ (.slice Ao41 t716.length co41 : Value).ownBlock) ∧ some k_ ≠ (.slice Ao47 t723.length co47 : Value).ownBlock)) (n := t729.length) (c := co53) ?_).2.2; exact (by (with_reducible repeat (first | apply Kd.R_alloc | apply Kd.R_drewN | apply Kd.R_drew)); exact (Kd.R_mono (Kd.R_far (p := ⟨gb735, 2, none⟩) (Kd.R_far (p := ⟨gb735, 1, none⟩) (Kd.R_far (p := ⟨gb735, 0, none⟩) (Kd.R_types HO731.out BK735.out (by decide)) (fun _ hk => hk.2) (.slice Ao53 t729.length co53)) (fun _ hk => hk.2) (.int .i64 t732)) (fun _ hk => hk.2) (.bool t733)) (fun _ h_ => h_.1)))); (case side2 => exact (Kd.R_reads' HO731.out).2.1); (case side3 => refine (Kd.R_reads' (e := 56) (base := w.heap.size) (ok := fun k_ => (((True ∧ some k_ ≠ (.slice Ao38 t711.length co38 : Value).ownBlock) ∧ some k_ ≠ (.slice Ao47 t723.length co47 : Value).ownBlock) ∧ some k_ ≠ (.slice Ao53 t729.length co53 : Value).ownBlock)) (n := t716.length) (c := co41) ?_).2.2; exact (by (with_reducible repeat (first | apply Kd.R_alloc | apply Kd.R_drewN | apply Kd.R_drew)); exact (Kd.R_mono (Kd.R_far (p := ⟨gb735, 2, none⟩) (Kd.R_far (p := ⟨gb735, 1, none⟩) (Kd.R_far (p := ⟨gb735, 0, none⟩) (Kd.R_types HO718.out BK735.out (by decide)) (fun _ hk => hk.2) (.slice Ao53 t729.length co53)) (fun _ hk => hk.2) (.int .i64 t732)) (fun _ hk => hk.2) (.bool t733)) (fun _ h_ => h_.1)))); (case side4 => exact (Kd.R_reads' HO718.out).2.1); rintro e w59 ⟨rfl, hb⟩; refine ⟨_, rfl, ?_⟩; have n0_ := Aside0.mk (Kd.R_below (by (with_reducible repeat (first | apply Kd.R_alloc | apply Kd.R_drewN | apply Kd.R_drew)); exact (Kd.R_mono (Kd.R_far (p := ⟨gb735, 2, none⟩) (Kd.R_far (p := ⟨gb735, 1, none⟩) (Kd.R_far (p := ⟨gb735, 0, none⟩) (Kd.R_types HO713.out BK735.out (by decide)) (fun _ hk => hk.2) (.slice Ao53 t729.length co53)) (fun _ hk => hk.2) (.int .i64 t732)) (fun _ hk => hk.2) (.bool t733)) (fun _ h_ => h_.1))) hb); have n1_ := Aside0.mk (Kd.R_below (by (with_reducible repeat (first | apply Kd.R_alloc | apply Kd.R_drewN | apply Kd.R_drew)); exact (Kd.R_mono (Kd.R_far (p := ⟨gb735, 2, none⟩) (Kd.R_far (p := ⟨gb735, 1, none⟩) (Kd.R_far (p := ⟨gb735, 0, none⟩) (Kd.R_types HO718.out BK735.out (by decide)) (fun _ hk => hk.2) (.slice Ao53 t729.length co53)) (fun _ hk => hk.2) (.int .i64 t732)) (fun _ hk => hk.2) (.bool t733)) (fun _ h_ => h_.1))) hb); have n2_ := Aside0.mk (Kd.R_below (by (with_reducible repeat (first | apply Kd.R_alloc | apply Kd.R_drewN | apply Kd.R_drew)); exact (Kd.R_mono (Kd.R_far (p := ⟨gb735, 2, none⟩) (Kd.R_far (p := ⟨gb735, 1, none⟩) (Kd.R_far (p := ⟨gb735, 0, none⟩) (Kd.R_types HO725.out BK735.out (by decide)) (fun _ hk => hk.2) (.slice Ao53 t729.length co53)) (fun _ hk => hk.2) (.int .i64 t732)) (fun _ hk => hk.2) (.bool t733)) (fun _ h_ => h_.1))) hb); have n3_ := Aside0.mk (Kd.R_below (by (with_reducible repeat (first | apply Kd.R_alloc | apply Kd.R_drewN | apply Kd.R_drew)); exact (Kd.R_mono (Kd.R_far (p := ⟨gb735, 2, none⟩) (Kd.R_far (p := ⟨gb735, 1, none⟩) (Kd.R_far (p := ⟨gb735, 0, none⟩) (Kd.R_types HO731.out BK735.out (by decide)) (fun _ hk => hk.2) (.slice Ao53 t729.length co53)) (fun _ hk => hk.2) (.int .i64 t732)) (fun _ hk => hk.2) (.bool t733)) (fun _ h_ => h_.1))) hb); have n4_ := Aside0.mk (blk_below (g := gb709) (o := .cells #[.slice A0_0 l0_0.length c0_0, .int .i64 a0_1, .bool a0_2] 24 (0, 0)) (by (with_reducible repeat (first | refine blk_drewN ?_ _ | refine blk_drew ?_ | refine blk_alloc ?_ _)); refine blk_far ?_ NB709_735.out _; (with_reducible repeat (first | refine blk_drewN ?_ _ | refine blk_drew ?_ | refine blk_alloc ?_ _)); refine blk_far ?_ NB709_735.out _; (with_reducible repeat (first | refine blk_drewN ?_ _ | refine blk_drew ?_ | refine blk_alloc ?_ _)); refine blk_far ?_ NB709_735.out _; (with_reducible repeat (first | refine blk_drewN ?_ _ | refine blk_drew ?_ | refine blk_alloc ?_ _)); exact BK709.out) hb); have n5_ := Aside0.mk (blk_below (g := gb722) (o := .cells #[.slice Ao41 t716.length co41, .int .i64 t719, .bool t720] 29 (0, 0)) (by (with_reducible repeat (first | refine blk_drewN ?_ _ | refine blk_drew ?_ | refine blk_alloc ?_ _)); refine blk_far ?_ NB722_735.out _; (with_reducible repeat (first | refine blk_drewN ?_ _ | refine blk_drew ?_ | refine blk_alloc ?_ _)); refine blk_far ?_ NB722_735.out _; (with_reducible repeat (first | refine blk_drewN ?_ _ | refine blk_drew ?_ | refine blk_alloc ?_ _)); refine blk_far ?_ NB722_735.out _; (with_reducible repeat (first | refine blk_drewN ?_ _ | refine blk_drew ?_ | refine blk_alloc ?_ _)); exact BK722.out) hb); have n6_ := Aside0.mk (blk_below (g := gb728) (o := .cells #[.slice Ao47 t723.length co47, .int .i64 t726, .bool t727] 29 (0, 0)) (by (with_reducible repeat (first | refine blk_drewN ?_ _ | refine blk_drew ?_ | refine blk_alloc ?_ _)); refine blk_far ?_ NB728_735.out _; (with_reducible repeat (first | refine blk_drewN ?_ _ | refine blk_drew ?_ | refine blk_alloc ?_ _)); refine blk_far ?_ NB728_735.out _; (with_reducible repeat (first | refine blk_drewN ?_ _ | refine blk_drew ?_ | refine blk_alloc ?_ _)); refine blk_far ?_ NB728_735.out _; (with_reducible repeat (first | refine blk_drewN ?_ _ | refine blk_drew ?_ | refine blk_alloc ?_ _)); exact BK728.out) hb); have n7_ := Aside0.mk (blk_below (g := gb735) (o := .cells #[.slice Ao53 t729.length co53, .int .i64 t732, .bool t733] 29 (0, 0)) (by (with_reducible repeat (first | refine blk_drewN ?_ _ | refine blk_drew ?_ | refine blk_alloc ?_ _)); refine blk_put (cs := #[.slice Ao53 t729.length co53, .int .i64 t732, .bool false]) ?_ 2 _ rfl; (with_reducible repeat (first | refine blk_drewN ?_ _ | refine blk_drew ?_ | refine blk_alloc ?_ _)); refine blk_put (cs := #[.slice Ao53 t729.length co53, .int .i64 0, .bool false]) ?_ 1 _ rfl; (with_reducible repeat (first | refine blk_drewN ?_ _ | refine blk_drew ?_ | refine blk_alloc ?_ _)); refine blk_put (cs := #[.slice none 0 0, .int .i64 0, .bool false]) ?_ 0 _ rfl; (with_reducible repeat (first | refine blk_drewN ?_ _ | refine blk_drew ?_ | refine blk_alloc ?_ _)); exact BK735.out) hb); have n8_ := Aside0.mk (below_step (by repeat (first | (with_reducible first | exact HB.out | apply below_alloc | apply pw_below_drewN | apply below_drew1 | refine below_set ?_ GE709.out | refine below_set ?_ GE722.out | refine below_set ?_ GE728.out | refine below_set ?_ GE735.out) | exact HB.out)) hb); clear HO713; clear HO718; clear HO725; clear HO731; clear BK709; clear BK722; clear BK728; clear BK735; clear HB; have HO713 := n0_; have HO718 := n1_; have HO725 := n2_; have HO731 := n3_; have BK709 := n4_; have BK722 := n5_; have BK728 := n6_; have BK735 := n7_; have HB := n8_; clear n0_ n1_ n2_ n3_ n4_ n5_ n6_ n7_ n8_; (try clear hb); (try clear hb2); (try clear hk); (try clear hi)))
                          have n0_ := Aside0.mk (Kd.R_drew HO713.out)
                          have n1_ := Aside0.mk (Kd.R_drew HO718.out)
                          have n2_ := Aside0.mk (Kd.R_drew HO725.out)
                          have n3_ := Aside0.mk (Kd.R_drew HO731.out)
                          have n4_ := Aside0.mk (blk_drew BK709.out)
                          have n5_ := Aside0.mk (blk_drew BK722.out)
                          have n6_ := Aside0.mk (blk_drew BK728.out)
                          have n7_ := Aside0.mk (blk_drew BK735.out)
                          have n8_ := Aside0.mk (below_drew1 HB.out)
                          clear HO713
                          clear HO718
                          clear HO725
                          clear HO731
                          clear BK709
                          clear BK722
                          clear BK728
                          clear BK735
                          clear HB
                          have HO713 := n0_
                          have HO718 := n1_
                          have HO725 := n2_
                          have HO731 := n3_
                          have BK709 := n4_
                          have BK722 := n5_
                          have BK728 := n6_
                          have BK735 := n7_
                          have HB := n8_
                          clear n0_ n1_ n2_ n3_ n4_ n5_ n6_ n7_ n8_
                          refine start_ (n := 5) (S := fun w' => w'.cell? ⟨gb728, 0, none⟩ = some (.slice Ao47 t723.length co47) ∧ w'.cell? ⟨gb728, 1, none⟩ = some (.int .i64 t726) ∧ w'.cell? ⟨gb728, 2, none⟩ = some (.bool t727) ∧ w'.cell? ⟨gb709, 0, none⟩ = some (.slice A0_0 l0_0.length c0_0) ∧ w'.cell? ⟨gb709, 1, none⟩ = some (.int .i64 a0_1) ∧ w'.cell? ⟨gb709, 2, none⟩ = some (.bool a0_2)) (ds := []) #[false, false, false, false, false] (by kernel_rfl) rfl rfl ⟨(blk_cell BK728.out 0).trans rfl, (blk_cell BK728.out 1).trans rfl, (blk_cell BK728.out 2).trans rfl, (blk_cell BK709.out 0).trans rfl, (blk_cell BK709.out 1).trans rfl, (blk_cell BK709.out 2).trans rfl⟩ (fun hHeld => ?_)
                          generalize w59.drew = w60 at HO713 HO718 HO725 HO731 BK709 BK722 BK728 BK735 HB hHeld ⊢
                          refine take_ (i := 0) (N := some 41) (v := ?_) (a' := ?_) #[true, false, false, false, false] rfl rfl (by kernel_rfl) (fun _ _ _ h => h) (Or.inl ⟨by rfl, ?_⟩) hHeld ?_ ?_
                          rotate_left
                          · rintro w' ⟨s0, s1, s2, s3, s4, s5⟩
                            go_simp
                            with_reducible rfl
                          rotate_left
                          · simp only [Act.put, List.setIfInBounds_toArray, List.set_cons_zero, List.set_cons_succ, i64_w, i32_w]
                            rfl
                          refine take_ (i := 1) (N := some 42) (v := ?_) (a' := ?_) #[true, true, false, false, false] rfl rfl (by kernel_rfl) (fun _ _ _ h => h) (Or.inl ⟨by rfl, ?_⟩) hHeld ?_ ?_
                          rotate_left
                          · rintro w' ⟨s0, s1, s2, s3, s4, s5⟩
                            go_simp
                            with_reducible rfl
                          rotate_left
                          · simp only [Act.put, List.setIfInBounds_toArray, List.set_cons_zero, List.set_cons_succ, i64_w, i32_w]
                            rfl
                          refine one_ (i := 2) (N := some 43) #[true, true, true, false, false] rfl rfl (by kernel_rfl) (by decide) (fun K hK => ?_)
                          refine goes_ Tryd.func18 (by kernel_rfl) rfl #[.agg #[.slice A0_0 l0_0.length c0_0, .int .i64 a0_1, .bool a0_2]] (by rfl) rfl rfl (by (try simp only [List.map_toArray, List.map_cons, List.map_nil]); first | done | rfl | (simp only [List.length_drop, List.length_take]; rfl)) ?_
                          with_reducible refine (laws_toServer.calls k _ _ l0_0 a0_1 a0_2 t737 t740 t741 _ ?side1 ?side2 A14.out).mono ?_
                          (case side1 => repeat (first | exact (Kd.C_below HR0_0.out HB.out) | (with_reducible refine Kd.C_alloc ?_ _) | (with_reducible refine Kd.C_drewN ?_ _) | (with_reducible refine Kd.C_drew ?_)))
                          (case side2 => exact HC0_0.out)
                          rintro e w61 ⟨v738, rfl, ho0, hb⟩
                          refine ⟨_, rfl, ?_⟩
                          have n0_ := Aside0.mk (Kd.R_elder' (by (with_reducible repeat (first | apply Kd.R_alloc | apply Kd.R_drewN | apply Kd.R_drew)); exact HO713.out) (Kd.R_base ho0) hb)
                          have n1_ := Aside0.mk (Kd.R_elder' (by (with_reducible repeat (first | apply Kd.R_alloc | apply Kd.R_drewN | apply Kd.R_drew)); exact HO718.out) (Kd.R_base ho0) hb)
                          have n2_ := Aside0.mk (Kd.R_elder' (by (with_reducible repeat (first | apply Kd.R_alloc | apply Kd.R_drewN | apply Kd.R_drew)); exact HO725.out) (Kd.R_base ho0) hb)
                          have n3_ := Aside0.mk (Kd.R_elder' (by (with_reducible repeat (first | apply Kd.R_alloc | apply Kd.R_drewN | apply Kd.R_drew)); exact HO731.out) (Kd.R_base ho0) hb)
                          have n4_ := Aside0.mk (Kd.R_lower (Kd.R_new' (Kd.R_new' (Kd.R_new' (Kd.R_new' ho0 (Kd.R_lt (by (with_reducible repeat (first | apply Kd.R_alloc | apply Kd.R_drewN | apply Kd.R_drew)); exact HO713.out))) (Kd.R_lt (by (with_reducible repeat (first | apply Kd.R_alloc | apply Kd.R_drewN | apply Kd.R_drew)); exact HO718.out))) (Kd.R_lt (by (with_reducible repeat (first | apply Kd.R_alloc | apply Kd.R_drewN | apply Kd.R_drew)); exact HO725.out))) (Kd.R_lt (by (with_reducible repeat (first | apply Kd.R_alloc | apply Kd.R_drewN | apply Kd.R_drew)); exact HO731.out))) (below_size (by repeat (first | (with_reducible first | exact HB.out | apply below_alloc | apply pw_below_drewN | apply below_drew1 | refine below_set ?_ GE709.out | refine below_set ?_ GE722.out | refine below_set ?_ GE728.out | refine below_set ?_ GE735.out) | exact HB.out))))
                          have n5_ := Aside0.mk (blk_below (g := gb709) (o := .cells #[.slice A0_0 l0_0.length c0_0, .int .i64 a0_1, .bool a0_2] 24 (0, 0)) (by (with_reducible repeat (first | refine blk_drewN ?_ _ | refine blk_drew ?_ | refine blk_alloc ?_ _)); exact BK709.out) hb)
                          have n6_ := Aside0.mk (blk_below (g := gb722) (o := .cells #[.slice Ao41 t716.length co41, .int .i64 t719, .bool t720] 29 (0, 0)) (by (with_reducible repeat (first | refine blk_drewN ?_ _ | refine blk_drew ?_ | refine blk_alloc ?_ _)); exact BK722.out) hb)
                          have n7_ := Aside0.mk (blk_below (g := gb728) (o := .cells #[.slice Ao47 t723.length co47, .int .i64 t726, .bool t727] 29 (0, 0)) (by (with_reducible repeat (first | refine blk_drewN ?_ _ | refine blk_drew ?_ | refine blk_alloc ?_ _)); exact BK728.out) hb)
                          have n8_ := Aside0.mk (blk_below (g := gb735) (o := .cells #[.slice Ao53 t729.length co53, .int .i64 t732, .bool t733] 29 (0, 0)) (by (with_reducible repeat (first | refine blk_drewN ?_ _ | refine blk_drew ?_ | refine blk_alloc ?_ _)); exact BK735.out) hb)
                          have n9_ := Aside0.mk (below_step (by repeat (first | (with_reducible first | exact HB.out | apply below_alloc | apply pw_below_drewN | apply below_drew1 | refine below_set ?_ GE709.out | refine below_set ?_ GE722.out | refine below_set ?_ GE728.out | refine below_set ?_ GE735.out) | exact HB.out)) hb)
                          clear HO713
                          clear HO718
                          clear HO725
                          clear HO731
                          clear BK709
                          clear BK722
                          clear BK728
                          clear BK735
                          clear HB
                          have HO713 := n0_
                          have HO718 := n1_
                          have HO725 := n2_
                          have HO731 := n3_
                          have HO739 := n4_
                          have BK709 := n5_
                          have BK722 := n6_
                          have BK728 := n7_
                          have BK735 := n8_
                          have HB := n9_
                          clear n0_ n1_ n2_ n3_ n4_ n5_ n6_ n7_ n8_ n9_
                          (try clear hb)
                          (try clear hb2)
                          (try clear hk)
                          (try clear hi)
                          (try clear ho0)
                          obtain ⟨Ao62, co62, eo62⟩ := Kd.R_slice HO739.out
                          (first | subst eo62 | (injection eo62 with f1_ f2_ f3_; have f4_ := f1_.symm; have f5_ := f3_.symm; clear f1_ f2_ f3_; subst f4_; subst f5_))
                          refine hK.out _ _ ⟨(blk_cell BK728.out 0).trans rfl, (blk_cell BK728.out 1).trans rfl, (blk_cell BK728.out 2).trans rfl, (blk_cell BK709.out 0).trans rfl, (blk_cell BK709.out 1).trans rfl, (blk_cell BK709.out 2).trans rfl⟩ (fun hHeld => ?_)
                          clear hK K
                          refine norm_ (a' := ?_) ?_ ?_
                          rotate_left
                          · show Act.put _ (some 43) _ = _
                            simp only [Act.put, List.setIfInBounds_toArray, List.set_cons_zero, List.set_cons_succ, i64_w, i32_w]
                            rfl
                          refine one_ (i := 3) (N := some 44) #[true, true, true, true, false] rfl rfl (by kernel_rfl) (by decide) (fun K hK => ?_)
                          refine goes_ Tryd.func21 (by kernel_rfl) rfl #[.agg #[.slice Ao47 t723.length co47, .int .i64 t726, .bool t727], .agg #[.slice Ao62 t737.length co62, .int .i64 t740, .bool t741]] (by rfl) rfl rfl (by (try simp only [List.map_toArray, List.map_cons, List.map_nil]); first | done | rfl | (simp only [List.length_drop, List.length_take]; rfl)) ?_
                          with_reducible refine (laws_eqServer.calls k _ _ t723 t726 t727 _ _ t737 t740 t741 true _ ?side1 ?side2 ?side3 ?side4 A15.out).mono ?_
                          (case side1 => repeat (first | exact (Kd.R_reads' HO725.out).2.2 | (with_reducible refine Kd.C_alloc ?_ _) | (with_reducible refine Kd.C_drewN ?_ _) | (with_reducible refine Kd.C_drew ?_)))
                          (case side2 => exact (Kd.R_reads' HO725.out).2.1)
                          (case side3 => repeat (first | exact (Kd.R_reads' HO739.out).2.2 | (with_reducible refine Kd.C_alloc ?_ _) | (with_reducible refine Kd.C_drewN ?_ _) | (with_reducible refine Kd.C_drew ?_)))
                          (case side4 => exact (Kd.R_reads' HO739.out).2.1)
                          rintro e w63 ⟨rfl, hb⟩
                          refine ⟨_, rfl, ?_⟩
                          have n0_ := Aside0.mk (Kd.R_below (by (with_reducible repeat (first | apply Kd.R_alloc | apply Kd.R_drewN | apply Kd.R_drew)); exact HO713.out) hb)
                          have n1_ := Aside0.mk (Kd.R_below (by (with_reducible repeat (first | apply Kd.R_alloc | apply Kd.R_drewN | apply Kd.R_drew)); exact HO718.out) hb)
                          have n2_ := Aside0.mk (Kd.R_below (by (with_reducible repeat (first | apply Kd.R_alloc | apply Kd.R_drewN | apply Kd.R_drew)); exact HO725.out) hb)
                          have n3_ := Aside0.mk (Kd.R_below (by (with_reducible repeat (first | apply Kd.R_alloc | apply Kd.R_drewN | apply Kd.R_drew)); exact HO731.out) hb)
                          have n4_ := Aside0.mk (Kd.R_below (by (with_reducible repeat (first | apply Kd.R_alloc | apply Kd.R_drewN | apply Kd.R_drew)); exact HO739.out) hb)
                          have n5_ := Aside0.mk (blk_below (g := gb709) (o := .cells #[.slice A0_0 l0_0.length c0_0, .int .i64 a0_1, .bool a0_2] 24 (0, 0)) (by (with_reducible repeat (first | refine blk_drewN ?_ _ | refine blk_drew ?_ | refine blk_alloc ?_ _)); exact BK709.out) hb)
                          have n6_ := Aside0.mk (blk_below (g := gb722) (o := .cells #[.slice Ao41 t716.length co41, .int .i64 t719, .bool t720] 29 (0, 0)) (by (with_reducible repeat (first | refine blk_drewN ?_ _ | refine blk_drew ?_ | refine blk_alloc ?_ _)); exact BK722.out) hb)
                          have n7_ := Aside0.mk (blk_below (g := gb728) (o := .cells #[.slice Ao47 t723.length co47, .int .i64 t726, .bool t727] 29 (0, 0)) (by (with_reducible repeat (first | refine blk_drewN ?_ _ | refine blk_drew ?_ | refine blk_alloc ?_ _)); exact BK728.out) hb)
                          have n8_ := Aside0.mk (blk_below (g := gb735) (o := .cells #[.slice Ao53 t729.length co53, .int .i64 t732, .bool t733] 29 (0, 0)) (by (with_reducible repeat (first | refine blk_drewN ?_ _ | refine blk_drew ?_ | refine blk_alloc ?_ _)); exact BK735.out) hb)
                          have n9_ := Aside0.mk (below_step (by repeat (first | (with_reducible first | exact HB.out | apply below_alloc | apply pw_below_drewN | apply below_drew1 | refine below_set ?_ GE709.out | refine below_set ?_ GE722.out | refine below_set ?_ GE728.out | refine below_set ?_ GE735.out) | exact HB.out)) hb)
                          clear HO713
                          clear HO718
                          clear HO725
                          clear HO731
                          clear HO739
                          clear BK709
                          clear BK722
                          clear BK728
                          clear BK735
                          clear HB
                          have HO713 := n0_
                          have HO718 := n1_
                          have HO725 := n2_
                          have HO731 := n3_
                          have HO739 := n4_
                          have BK709 := n5_
                          have BK722 := n6_
                          have BK728 := n7_
                          have BK735 := n8_
                          have HB := n9_
                          clear n0_ n1_ n2_ n3_ n4_ n5_ n6_ n7_ n8_ n9_
                          (try clear hb)
                          (try clear hb2)
                          (try clear hk)
                          (try clear hi)
                          refine hK.out _ _ ⟨(blk_cell BK728.out 0).trans rfl, (blk_cell BK728.out 1).trans rfl, (blk_cell BK728.out 2).trans rfl, (blk_cell BK709.out 0).trans rfl, (blk_cell BK709.out 1).trans rfl, (blk_cell BK709.out 2).trans rfl⟩ (fun hHeld => ?_)
                          clear hK K
                          refine norm_ (a' := ?_) ?_ ?_
                          rotate_left
                          · show Act.put _ (some 44) _ = _
                            simp only [Act.put, List.setIfInBounds_toArray, List.set_cons_zero, List.set_cons_succ, i64_w, i32_w]
                            rfl
                          refine pure_ (i := 4) (N := some 45) (v := ?_) (a' := ?_) #[true, true, true, true, true] rfl rfl (by kernel_rfl) (fun _ _ _ h => h) (Or.inl ⟨by rfl, ?_⟩) ?_ ?_
                          rotate_left
                          · intro w'
                            go_simp
                            with_reducible rfl
                          rotate_left
                          · simp only [Act.put, List.setIfInBounds_toArray, List.set_cons_zero, List.set_cons_succ, i64_w, i32_w]
                            rfl
                          refine done_ (by kernel_rfl) ?_
                          have hcz64_0 : w63.cell? ⟨gb728, 0, none⟩ = some (.slice Ao47 t723.length co47) := (blk_cell BK728.out 0).trans rfl
                          have hcz64_1 : w63.cell? ⟨gb728, 1, none⟩ = some (.int .i64 t726) := (blk_cell BK728.out 1).trans rfl
                          have hcz64_2 : w63.cell? ⟨gb728, 2, none⟩ = some (.bool t727) := (blk_cell BK728.out 2).trans rfl
                          have hfz64_0 := blk_frozen BK728.out 0
                          have hfz64_1 := blk_frozen BK728.out 1
                          have hfz64_2 := blk_frozen BK728.out 2
                          try go_wp2_with (first | ((with_reducible refine gate_callee (f := 22) rfl ?_); refine goesL_ (some 48) rfl rfl Tryd.func22 (by kernel_rfl) rfl #[.agg #[.slice Ao47 t723.length co47, .int .i64 t726, .bool t727], .int .i64 1] rfl (by (try simp only [List.map_toArray, List.map_cons, List.map_nil]); first | done | rfl | (simp only [List.length_drop, List.length_take]; rfl)) ?_; (with_reducible refine (laws_markServer.calls k (fun k_ => some k_ = (.slice Ao47 t723.length co47 : Value).ownBlock) (.slice Ao47 t723.length co47) t723 t726 t727 1 t743 t744 w _ ?side1 ?side2 A17.out).mono ?_); (case side1 => repeat (first | (with_reducible first | exact HB.out | apply below_alloc | apply pw_below_drewN | apply below_drew1 | refine below_set ?_ GE709.out | refine below_set ?_ GE722.out | refine below_set ?_ GE728.out | refine below_set ?_ GE735.out) | exact HB.out)); (case side2 => exact Kd.R_tight rfl HO725.out); rintro e w65 ⟨rfl, hy0, hb, hkp⟩; refine ⟨_, rfl, ?_⟩; have n0_ := Aside0.mk (blk_kept (by (with_reducible repeat (first | refine blk_drewN ?_ _ | refine blk_drew ?_ | refine blk_alloc ?_ _)); exact BK709.out) hkp (fun hs_ => (fun e_ => (Kd.R_ne HO725.out BK709.out (by decide)) e_) hs_)); have n1_ := Aside0.mk (Kd.R_mono (ok' := fun k_ => some k_ ≠ (.slice Ao41 t716.length co41 : Value).ownBlock ∧ some k_ ≠ (.slice Ao47 t723.length co47 : Value).ownBlock ∧ some k_ ≠ (.slice Ao53 t729.length co53 : Value).ownBlock ∧ some k_ ≠ (.slice Ao62 t737.length co62 : Value).ownBlock) (Kd.R_keptB (HO713.out) hkp (fun k_ hk_ hs_ => (hk_.1.1.2) hs_)) (fun k_ hk_ => ⟨hk_.1.1.1.1.2, hk_.1.1.1.2, hk_.1.1.2, hk_.1.2⟩)); have n2_ := Aside0.mk (Kd.R_mono (ok' := fun k_ => some k_ ≠ (.slice Ao38 t711.length co38 : Value).ownBlock ∧ some k_ ≠ (.slice Ao47 t723.length co47 : Value).ownBlock ∧ some k_ ≠ (.slice Ao53 t729.length co53 : Value).ownBlock ∧ some k_ ≠ (.slice Ao62 t737.length co62 : Value).ownBlock) (Kd.R_keptB (HO718.out) hkp (fun k_ hk_ hs_ => (hk_.1.1.2) hs_)) (fun k_ hk_ => ⟨hk_.1.1.1.1.2, hk_.1.1.1.2, hk_.1.1.2, hk_.1.2⟩)); have n3_ := Aside0.mk (blk_kept (by (with_reducible repeat (first | refine blk_drewN ?_ _ | refine blk_drew ?_ | refine blk_alloc ?_ _)); exact BK722.out) hkp (fun hs_ => (fun e_ => (Kd.R_ne HO725.out BK722.out (by decide)) e_) hs_)); have n4_ := Aside0.mk (Kd.R_reok rfl hy0 (fun k_ e_ => HO725.out.1 k_ e_)); have n5_ := Aside0.mk (blk_kept (by (with_reducible repeat (first | refine blk_drewN ?_ _ | refine blk_drew ?_ | refine blk_alloc ?_ _)); exact BK728.out) hkp (fun hs_ => (fun e_ => (Kd.R_ne HO725.out BK728.out (by decide)) e_) hs_)); have n6_ := Aside0.mk (Kd.R_mono (ok' := fun k_ => some k_ ≠ (.slice Ao38 t711.length co38 : Value).ownBlock ∧ some k_ ≠ (.slice Ao41 t716.length co41 : Value).ownBlock ∧ some k_ ≠ (.slice Ao47 t723.length co47 : Value).ownBlock ∧ some k_ ≠ (.slice Ao62 t737.length co62 : Value).ownBlock) (Kd.R_keptB (HO731.out) hkp (fun k_ hk_ hs_ => (hk_.1.2) hs_)) (fun k_ hk_ => ⟨hk_.1.1.1.1.2, hk_.1.1.1.2, hk_.1.1.2, hk_.1.2⟩)); have n7_ := Aside0.mk (blk_kept (by (with_reducible repeat (first | refine blk_drewN ?_ _ | refine blk_drew ?_ | refine blk_alloc ?_ _)); exact BK735.out) hkp (fun hs_ => (fun e_ => (Kd.R_ne HO725.out BK735.out (by decide)) e_) hs_)); have n8_ := Aside0.mk (Kd.R_mono (ok' := fun k_ => some k_ ≠ (.slice Ao38 t711.length co38 : Value).ownBlock ∧ some k_ ≠ (.slice Ao41 t716.length co41 : Value).ownBlock ∧ some k_ ≠ (.slice Ao47 t723.length co47 : Value).ownBlock ∧ some k_ ≠ (.slice Ao53 t729.length co53 : Value).ownBlock) (Kd.R_keptB (HO739.out) hkp (fun k_ hk_ hs_ => (hk_.1.2) hs_)) (fun k_ hk_ => ⟨hk_.1.1.1.1.2, hk_.1.1.1.2, hk_.1.1.2, hk_.1.2⟩)); have n9_ := Aside0.mk (hb); clear BK709; clear HO713; clear HO718; clear BK722; clear HO725; clear BK728; clear HO731; clear BK735; clear HO739; clear HB; have BK709 := n0_; have HO713 := n1_; have HO718 := n2_; have BK722 := n3_; have HO725 := n4_; have BK728 := n5_; have HO731 := n6_; have BK735 := n7_; have HO739 := n8_; have HB := n9_; clear n0_ n1_ n2_ n3_ n4_ n5_ n6_ n7_ n8_ n9_; (try clear hb); (try clear hkp); (try clear hy0); have hcz66_0 : w65.cell? ⟨gb735, 0, none⟩ = some (.slice Ao53 t729.length co53) := (blk_cell BK735.out 0).trans rfl; have hcz66_1 : w65.cell? ⟨gb735, 1, none⟩ = some (.int .i64 t732) := (blk_cell BK735.out 1).trans rfl; have hcz66_2 : w65.cell? ⟨gb735, 2, none⟩ = some (.bool t733) := (blk_cell BK735.out 2).trans rfl; have hfz66_0 := blk_frozen BK735.out 0; have hfz66_1 := blk_frozen BK735.out 1; have hfz66_2 := blk_frozen BK735.out 2; have hcz67_0 : w65.cell? ⟨gb722, 0, none⟩ = some (.slice Ao41 t716.length co41) := (blk_cell BK722.out 0).trans rfl; have hcz67_1 : w65.cell? ⟨gb722, 1, none⟩ = some (.int .i64 t719) := (blk_cell BK722.out 1).trans rfl; have hcz67_2 : w65.cell? ⟨gb722, 2, none⟩ = some (.bool t720) := (blk_cell BK722.out 2).trans rfl; have hfz67_0 := blk_frozen BK722.out 0; have hfz67_1 := blk_frozen BK722.out 1; have hfz67_2 := blk_frozen BK722.out 2) | (go_at_call 21; (with_reducible refine (laws_eqServer.calls k _ _ t729 t732 t733 _ _ t716 t719 t720 true _ ?side1 ?side2 ?side3 ?side4 A19.out).mono ?_); (case side1 => repeat (first | exact (Kd.R_reads' HO731.out).2.2 | (with_reducible refine Kd.C_alloc ?_ _) | (with_reducible refine Kd.C_drewN ?_ _) | (with_reducible refine Kd.C_drew ?_))); (case side2 => exact (Kd.R_reads' HO731.out).2.1); (case side3 => repeat (first | exact (Kd.R_reads' HO718.out).2.2 | (with_reducible refine Kd.C_alloc ?_ _) | (with_reducible refine Kd.C_drewN ?_ _) | (with_reducible refine Kd.C_drew ?_))); (case side4 => exact (Kd.R_reads' HO718.out).2.1); rintro e w68 ⟨rfl, hb⟩; have n0_ := Aside0.mk (Kd.R_below (by (with_reducible repeat (first | apply Kd.R_alloc | apply Kd.R_drewN | apply Kd.R_drew)); exact HO713.out) hb); have n1_ := Aside0.mk (Kd.R_below (by (with_reducible repeat (first | apply Kd.R_alloc | apply Kd.R_drewN | apply Kd.R_drew)); exact HO718.out) hb); have n2_ := Aside0.mk (Kd.R_below (by (with_reducible repeat (first | apply Kd.R_alloc | apply Kd.R_drewN | apply Kd.R_drew)); exact HO725.out) hb); have n3_ := Aside0.mk (Kd.R_below (by (with_reducible repeat (first | apply Kd.R_alloc | apply Kd.R_drewN | apply Kd.R_drew)); exact HO731.out) hb); have n4_ := Aside0.mk (Kd.R_below (by (with_reducible repeat (first | apply Kd.R_alloc | apply Kd.R_drewN | apply Kd.R_drew)); exact HO739.out) hb); have n5_ := Aside0.mk (blk_below (g := gb709) (o := .cells #[.slice A0_0 l0_0.length c0_0, .int .i64 a0_1, .bool a0_2] 24 (0, 0)) (by (with_reducible repeat (first | refine blk_drewN ?_ _ | refine blk_drew ?_ | refine blk_alloc ?_ _)); exact BK709.out) hb); have n6_ := Aside0.mk (blk_below (g := gb722) (o := .cells #[.slice Ao41 t716.length co41, .int .i64 t719, .bool t720] 29 (0, 0)) (by (with_reducible repeat (first | refine blk_drewN ?_ _ | refine blk_drew ?_ | refine blk_alloc ?_ _)); exact BK722.out) hb); have n7_ := Aside0.mk (blk_below (g := gb728) (o := .cells #[.slice Ao47 t723.length co47, .int .i64 t726, .bool t727] 29 (0, 0)) (by (with_reducible repeat (first | refine blk_drewN ?_ _ | refine blk_drew ?_ | refine blk_alloc ?_ _)); exact BK728.out) hb); have n8_ := Aside0.mk (blk_below (g := gb735) (o := .cells #[.slice Ao53 t729.length co53, .int .i64 t732, .bool t733] 29 (0, 0)) (by (with_reducible repeat (first | refine blk_drewN ?_ _ | refine blk_drew ?_ | refine blk_alloc ?_ _)); exact BK735.out) hb); have n9_ := Aside0.mk (below_step (by repeat (first | (with_reducible first | exact HB.out | apply below_alloc | apply pw_below_drewN | apply below_drew1 | refine below_set ?_ GE709.out | refine below_set ?_ GE722.out | refine below_set ?_ GE728.out | refine below_set ?_ GE735.out) | exact HB.out)) hb); clear HO713; clear HO718; clear HO725; clear HO731; clear HO739; clear BK709; clear BK722; clear BK728; clear BK735; clear HB; have HO713 := n0_; have HO718 := n1_; have HO725 := n2_; have HO731 := n3_; have HO739 := n4_; have BK709 := n5_; have BK722 := n6_; have BK728 := n7_; have BK735 := n8_; have HB := n9_; clear n0_ n1_ n2_ n3_ n4_ n5_ n6_ n7_ n8_ n9_; (try clear hb); (try clear hb2); (try clear hk); (try clear hi); have hcz69_0 : w68.cell? ⟨gb735, 0, none⟩ = some (.slice Ao53 t729.length co53) := (blk_cell BK735.out 0).trans rfl; have hcz69_1 : w68.cell? ⟨gb735, 1, none⟩ = some (.int .i64 t732) := (blk_cell BK735.out 1).trans rfl; have hcz69_2 : w68.cell? ⟨gb735, 2, none⟩ = some (.bool t733) := (blk_cell BK735.out 2).trans rfl; have hfz69_0 := blk_frozen BK735.out 0; have hfz69_1 := blk_frozen BK735.out 1; have hfz69_2 := blk_frozen BK735.out 2) | ((with_reducible refine gate_callee (f := 22) rfl ?_); refine goesL_ (some 64) rfl rfl Tryd.func22 (by kernel_rfl) rfl #[.agg #[.slice Ao53 t729.length co53, .int .i64 t732, .bool t733], .int .i64 1] rfl (by (try simp only [List.map_toArray, List.map_cons, List.map_nil]); first | done | rfl | (simp only [List.length_drop, List.length_take]; rfl)) ?_; (with_reducible refine (laws_markServer.calls k (fun k_ => some k_ = (.slice Ao53 t729.length co53 : Value).ownBlock) (.slice Ao53 t729.length co53) t729 t732 t733 1 t746 t747 w _ ?side1 ?side2 A21.out).mono ?_); (case side1 => repeat (first | (with_reducible first | exact HB.out | apply below_alloc | apply pw_below_drewN | apply below_drew1 | refine below_set ?_ GE709.out | refine below_set ?_ GE722.out | refine below_set ?_ GE728.out | refine below_set ?_ GE735.out) | exact HB.out)); (case side2 => exact Kd.R_tight rfl HO731.out); rintro e w70 ⟨rfl, hy0, hb, hkp⟩; refine ⟨_, rfl, ?_⟩; have n0_ := Aside0.mk (blk_kept (by (with_reducible repeat (first | refine blk_drewN ?_ _ | refine blk_drew ?_ | refine blk_alloc ?_ _)); exact BK709.out) hkp (fun hs_ => (fun e_ => (Kd.R_ne HO731.out BK709.out (by decide)) e_) hs_)); have n1_ := Aside0.mk (Kd.R_mono (ok' := fun k_ => some k_ ≠ (.slice Ao41 t716.length co41 : Value).ownBlock ∧ some k_ ≠ (.slice Ao47 t723.length co47 : Value).ownBlock ∧ some k_ ≠ (.slice Ao53 t729.length co53 : Value).ownBlock ∧ some k_ ≠ (.slice Ao62 t737.length co62 : Value).ownBlock) (Kd.R_keptB (HO713.out) hkp (fun k_ hk_ hs_ => (hk_.2.2.1) hs_)) (fun k_ hk_ => ⟨hk_.1.1, hk_.1.2.1, hk_.1.2.2.1, hk_.1.2.2.2⟩)); have n2_ := Aside0.mk (Kd.R_mono (ok' := fun k_ => some k_ ≠ (.slice Ao38 t711.length co38 : Value).ownBlock ∧ some k_ ≠ (.slice Ao47 t723.length co47 : Value).ownBlock ∧ some k_ ≠ (.slice Ao53 t729.length co53 : Value).ownBlock ∧ some k_ ≠ (.slice Ao62 t737.length co62 : Value).ownBlock) (Kd.R_keptB (HO718.out) hkp (fun k_ hk_ hs_ => (hk_.2.2.1) hs_)) (fun k_ hk_ => ⟨hk_.1.1, hk_.1.2.1, hk_.1.2.2.1, hk_.1.2.2.2⟩)); have n3_ := Aside0.mk (blk_kept (by (with_reducible repeat (first | refine blk_drewN ?_ _ | refine blk_drew ?_ | refine blk_alloc ?_ _)); exact BK722.out) hkp (fun hs_ => (fun e_ => (Kd.R_ne HO731.out BK722.out (by decide)) e_) hs_)); have n4_ := Aside0.mk (Kd.R_mono (ok' := fun k_ => some k_ ≠ (.slice Ao38 t711.length co38 : Value).ownBlock ∧ some k_ ≠ (.slice Ao41 t716.length co41 : Value).ownBlock ∧ some k_ ≠ (.slice Ao53 t729.length co53 : Value).ownBlock ∧ some k_ ≠ (.slice Ao62 t737.length co62 : Value).ownBlock) (Kd.R_keptB (HO725.out) hkp (fun k_ hk_ hs_ => (hk_.1.2) hs_)) (fun k_ hk_ => ⟨hk_.1.1.1.1.2, hk_.1.1.1.2, hk_.1.1.2, hk_.1.2⟩)); have n5_ := Aside0.mk (blk_kept (by (with_reducible repeat (first | refine blk_drewN ?_ _ | refine blk_drew ?_ | refine blk_alloc ?_ _)); exact BK728.out) hkp (fun hs_ => (fun e_ => (Kd.R_ne HO731.out BK728.out (by decide)) e_) hs_)); have n6_ := Aside0.mk (Kd.R_reok rfl hy0 (fun k_ e_ => HO731.out.1 k_ e_)); have n7_ := Aside0.mk (blk_kept (by (with_reducible repeat (first | refine blk_drewN ?_ _ | refine blk_drew ?_ | refine blk_alloc ?_ _)); exact BK735.out) hkp (fun hs_ => (fun e_ => (Kd.R_ne HO731.out BK735.out (by decide)) e_) hs_)); have n8_ := Aside0.mk (Kd.R_mono (ok' := fun k_ => some k_ ≠ (.slice Ao38 t711.length co38 : Value).ownBlock ∧ some k_ ≠ (.slice Ao41 t716.length co41 : Value).ownBlock ∧ some k_ ≠ (.slice Ao47 t723.length co47 : Value).ownBlock ∧ some k_ ≠ (.slice Ao53 t729.length co53 : Value).ownBlock) (Kd.R_keptB (HO739.out) hkp (fun k_ hk_ hs_ => (hk_.2.2.2) hs_)) (fun k_ hk_ => ⟨hk_.1.1, hk_.1.2.1, hk_.1.2.2.1, hk_.1.2.2.2⟩)); have n9_ := Aside0.mk (hb); clear BK709; clear HO713; clear HO718; clear BK722; clear HO725; clear BK728; clear HO731; clear BK735; clear HO739; clear HB; have BK709 := n0_; have HO713 := n1_; have HO718 := n2_; have BK722 := n3_; have HO725 := n4_; have BK728 := n5_; have HO731 := n6_; have BK735 := n7_; have HO739 := n8_; have HB := n9_; clear n0_ n1_ n2_ n3_ n4_ n5_ n6_ n7_ n8_ n9_; (try clear hb); (try clear hkp); (try clear hy0); have hcz71_0 : w70.cell? ⟨gb735, 0, none⟩ = some (.slice Ao53 t729.length co53) := (blk_cell BK735.out 0).trans rfl; have hcz71_1 : w70.cell? ⟨gb735, 1, none⟩ = some (.int .i64 t732) := (blk_cell BK735.out 1).trans rfl; have hcz71_2 : w70.cell? ⟨gb735, 2, none⟩ = some (.bool t733) := (blk_cell BK735.out 2).trans rfl; have hfz71_0 := blk_frozen BK735.out 0; have hfz71_1 := blk_frozen BK735.out 1; have hfz71_2 := blk_frozen BK735.out 2) | ((with_reducible refine gate_callee (f := 31) rfl ?_); refine goesL_ (some 67) rfl rfl Tryd.func31 (by kernel_rfl) rfl #[.agg #[.slice Ao53 t747.length co53, .int .i64 t732, .bool t733], .int .i64 1] rfl (by (try simp only [List.map_toArray, List.map_cons, List.map_nil]); first | done | (rw [show t747.length = t729.length from (Kd.R_reads' HO731.out).1.symm] <;> rfl) | rfl | (simp only [List.length_drop, List.length_take]; rfl)) ?_; (with_reducible refine (laws_heldServer.calls k _ _ t747 t732 t733 1 t748 _ ?side1 ?side2 A22.out).mono ?_); (case side1 => repeat (first | exact (Kd.R_reads' HO731.out).2.2 | (with_reducible refine Kd.C_alloc ?_ _) | (with_reducible refine Kd.C_drewN ?_ _) | (with_reducible refine Kd.C_drew ?_))); (case side2 => rw [show t747.length = t729.length from (Kd.R_reads' HO731.out).1.symm]; exact (Kd.R_reads' HO731.out).2.1); rintro e w72 ⟨rfl, hb⟩; refine ⟨_, rfl, ?_⟩; have n0_ := Aside0.mk (Kd.R_below (by (with_reducible repeat (first | apply Kd.R_alloc | apply Kd.R_drewN | apply Kd.R_drew)); exact HO713.out) hb); have n1_ := Aside0.mk (Kd.R_below (by (with_reducible repeat (first | apply Kd.R_alloc | apply Kd.R_drewN | apply Kd.R_drew)); exact HO718.out) hb); have n2_ := Aside0.mk (Kd.R_below (by (with_reducible repeat (first | apply Kd.R_alloc | apply Kd.R_drewN | apply Kd.R_drew)); exact HO725.out) hb); have n3_ := Aside0.mk (Kd.R_below (by (with_reducible repeat (first | apply Kd.R_alloc | apply Kd.R_drewN | apply Kd.R_drew)); exact HO731.out) hb); have n4_ := Aside0.mk (Kd.R_below (by (with_reducible repeat (first | apply Kd.R_alloc | apply Kd.R_drewN | apply Kd.R_drew)); exact HO739.out) hb); have n5_ := Aside0.mk (blk_below (g := gb709) (o := .cells #[.slice A0_0 l0_0.length c0_0, .int .i64 a0_1, .bool a0_2] 24 (0, 0)) (by (with_reducible repeat (first | refine blk_drewN ?_ _ | refine blk_drew ?_ | refine blk_alloc ?_ _)); exact BK709.out) hb); have n6_ := Aside0.mk (blk_below (g := gb722) (o := .cells #[.slice Ao41 t716.length co41, .int .i64 t719, .bool t720] 29 (0, 0)) (by (with_reducible repeat (first | refine blk_drewN ?_ _ | refine blk_drew ?_ | refine blk_alloc ?_ _)); exact BK722.out) hb); have n7_ := Aside0.mk (blk_below (g := gb728) (o := .cells #[.slice Ao47 t723.length co47, .int .i64 t726, .bool t727] 29 (0, 0)) (by (with_reducible repeat (first | refine blk_drewN ?_ _ | refine blk_drew ?_ | refine blk_alloc ?_ _)); exact BK728.out) hb); have n8_ := Aside0.mk (blk_below (g := gb735) (o := .cells #[.slice Ao53 t729.length co53, .int .i64 t732, .bool t733] 29 (0, 0)) (by (with_reducible repeat (first | refine blk_drewN ?_ _ | refine blk_drew ?_ | refine blk_alloc ?_ _)); exact BK735.out) hb); have n9_ := Aside0.mk (below_step (by repeat (first | (with_reducible first | exact HB.out | apply below_alloc | apply pw_below_drewN | apply below_drew1 | refine below_set ?_ GE709.out | refine below_set ?_ GE722.out | refine below_set ?_ GE728.out | refine below_set ?_ GE735.out) | exact HB.out)) hb); clear HO713; clear HO718; clear HO725; clear HO731; clear HO739; clear BK709; clear BK722; clear BK728; clear BK735; clear HB; have HO713 := n0_; have HO718 := n1_; have HO725 := n2_; have HO731 := n3_; have HO739 := n4_; have BK709 := n5_; have BK722 := n6_; have BK728 := n7_; have BK735 := n8_; have HB := n9_; clear n0_ n1_ n2_ n3_ n4_ n5_ n6_ n7_ n8_ n9_; (try clear hb); (try clear hb2); (try clear hk); (try clear hi); have hcz73_0 : w72.cell? ⟨gb709, 0, none⟩ = some (.slice A0_0 l0_0.length c0_0) := (blk_cell BK709.out 0).trans rfl; have hcz73_1 : w72.cell? ⟨gb709, 1, none⟩ = some (.int .i64 a0_1) := (blk_cell BK709.out 1).trans rfl; have hcz73_2 : w72.cell? ⟨gb709, 2, none⟩ = some (.bool a0_2) := (blk_cell BK709.out 2).trans rfl; have hfz73_0 := blk_frozen BK709.out 0; have hfz73_1 := blk_frozen BK709.out 1; have hfz73_2 := blk_frozen BK709.out 2) | ((with_reducible refine gate_callee (f := 18) rfl ?_); refine goesL_ (some 75) rfl rfl Tryd.func18 (by kernel_rfl) rfl #[.agg #[.slice A0_0 l0_0.length c0_0, .int .i64 a0_1, .bool a0_2]] rfl (by (try simp only [List.map_toArray, List.map_cons, List.map_nil]); first | done | rfl | (simp only [List.length_drop, List.length_take]; rfl)) ?_; (with_reducible refine (laws_toServer.calls k _ _ l0_0 a0_1 a0_2 t749 t752 t753 _ ?side1 ?side2 A25.out).mono ?_); (case side1 => repeat (first | exact (Kd.C_below HR0_0.out HB.out) | (with_reducible refine Kd.C_alloc ?_ _) | (with_reducible refine Kd.C_drewN ?_ _) | (with_reducible refine Kd.C_drew ?_))); (case side2 => exact HC0_0.out); rintro e w74 ⟨v750, rfl, ho0, hb⟩; refine ⟨_, rfl, ?_⟩; have n0_ := Aside0.mk (Kd.R_elder' (by (with_reducible repeat (first | apply Kd.R_alloc | apply Kd.R_drewN | apply Kd.R_drew)); exact HO713.out) (Kd.R_base ho0) hb); have n1_ := Aside0.mk (Kd.R_elder' (by (with_reducible repeat (first | apply Kd.R_alloc | apply Kd.R_drewN | apply Kd.R_drew)); exact HO718.out) (Kd.R_base ho0) hb); have n2_ := Aside0.mk (Kd.R_elder' (by (with_reducible repeat (first | apply Kd.R_alloc | apply Kd.R_drewN | apply Kd.R_drew)); exact HO725.out) (Kd.R_base ho0) hb); have n3_ := Aside0.mk (Kd.R_elder' (by (with_reducible repeat (first | apply Kd.R_alloc | apply Kd.R_drewN | apply Kd.R_drew)); exact HO731.out) (Kd.R_base ho0) hb); have n4_ := Aside0.mk (Kd.R_elder' (by (with_reducible repeat (first | apply Kd.R_alloc | apply Kd.R_drewN | apply Kd.R_drew)); exact HO739.out) (Kd.R_base ho0) hb); have n5_ := Aside0.mk (Kd.R_lower (Kd.R_new' (Kd.R_new' (Kd.R_new' (Kd.R_new' (Kd.R_new' ho0 (Kd.R_lt (by (with_reducible repeat (first | apply Kd.R_alloc | apply Kd.R_drewN | apply Kd.R_drew)); exact HO713.out))) (Kd.R_lt (by (with_reducible repeat (first | apply Kd.R_alloc | apply Kd.R_drewN | apply Kd.R_drew)); exact HO718.out))) (Kd.R_lt (by (with_reducible repeat (first | apply Kd.R_alloc | apply Kd.R_drewN | apply Kd.R_drew)); exact HO725.out))) (Kd.R_lt (by (with_reducible repeat (first | apply Kd.R_alloc | apply Kd.R_drewN | apply Kd.R_drew)); exact HO731.out))) (Kd.R_lt (by (with_reducible repeat (first | apply Kd.R_alloc | apply Kd.R_drewN | apply Kd.R_drew)); exact HO739.out))) (below_size (by repeat (first | (with_reducible first | exact HB.out | apply below_alloc | apply pw_below_drewN | apply below_drew1 | refine below_set ?_ GE709.out | refine below_set ?_ GE722.out | refine below_set ?_ GE728.out | refine below_set ?_ GE735.out) | exact HB.out)))); have n6_ := Aside0.mk (blk_below (g := gb709) (o := .cells #[.slice A0_0 l0_0.length c0_0, .int .i64 a0_1, .bool a0_2] 24 (0, 0)) (by (with_reducible repeat (first | refine blk_drewN ?_ _ | refine blk_drew ?_ | refine blk_alloc ?_ _)); exact BK709.out) hb); have n7_ := Aside0.mk (blk_below (g := gb722) (o := .cells #[.slice Ao41 t716.length co41, .int .i64 t719, .bool t720] 29 (0, 0)) (by (with_reducible repeat (first | refine blk_drewN ?_ _ | refine blk_drew ?_ | refine blk_alloc ?_ _)); exact BK722.out) hb); have n8_ := Aside0.mk (blk_below (g := gb728) (o := .cells #[.slice Ao47 t723.length co47, .int .i64 t726, .bool t727] 29 (0, 0)) (by (with_reducible repeat (first | refine blk_drewN ?_ _ | refine blk_drew ?_ | refine blk_alloc ?_ _)); exact BK728.out) hb); have n9_ := Aside0.mk (blk_below (g := gb735) (o := .cells #[.slice Ao53 t729.length co53, .int .i64 t732, .bool t733] 29 (0, 0)) (by (with_reducible repeat (first | refine blk_drewN ?_ _ | refine blk_drew ?_ | refine blk_alloc ?_ _)); exact BK735.out) hb); have n10_ := Aside0.mk (below_step (by repeat (first | (with_reducible first | exact HB.out | apply below_alloc | apply pw_below_drewN | apply below_drew1 | refine below_set ?_ GE709.out | refine below_set ?_ GE722.out | refine below_set ?_ GE728.out | refine below_set ?_ GE735.out) | exact HB.out)) hb); clear HO713; clear HO718; clear HO725; clear HO731; clear HO739; clear BK709; clear BK722; clear BK728; clear BK735; clear HB; have HO713 := n0_; have HO718 := n1_; have HO725 := n2_; have HO731 := n3_; have HO739 := n4_; have HO751 := n5_; have BK709 := n6_; have BK722 := n7_; have BK728 := n8_; have BK735 := n9_; have HB := n10_; clear n0_ n1_ n2_ n3_ n4_ n5_ n6_ n7_ n8_ n9_ n10_; (try clear hb); (try clear hb2); (try clear hk); (try clear hi); (try clear ho0); obtain ⟨Ao75, co75, eo75⟩ := Kd.R_slice HO751.out; subst eo75) | ((with_reducible refine gate_callee (f := 33) rfl ?_); refine goesL_ (some 76) rfl rfl Tryd.func33 (by kernel_rfl) rfl #[.agg #[.slice Ao75 t749.length co75, .int .i64 t752, .bool t753]] rfl (by (try simp only [List.map_toArray, List.map_cons, List.map_nil]); first | done | rfl | (simp only [List.length_drop, List.length_take]; rfl)) ?_; (with_reducible refine (impl_ServerSync.calls k _ _ t749 t752 t753 t754 t757 t758 t759 _ ?side1 ?side2 A26.out ?side3).mono ?_); (case side1 => repeat (first | exact (Kd.R_reads' HO751.out).2.2 | (with_reducible refine Kd.C_alloc ?_ _) | (with_reducible refine Kd.C_drewN ?_ _) | (with_reducible refine Kd.C_drew ?_))); (case side2 => exact (Kd.R_reads' HO751.out).2.1); (case side3 => exact Glob.below HG.out (by repeat (first | (with_reducible first | exact HB.out | apply below_alloc | apply pw_below_drewN | apply below_drew1 | refine below_set ?_ GE709.out | refine below_set ?_ GE722.out | refine below_set ?_ GE728.out | refine below_set ?_ GE735.out) | exact HB.out))); rintro e w76 ⟨v755, rfl, ho0, hb⟩; refine ⟨_, rfl, ?_⟩; have n0_ := Aside0.mk (Kd.R_elder' (by (with_reducible repeat (first | apply Kd.R_alloc | apply Kd.R_drewN | apply Kd.R_drew)); exact HO713.out) (Kd.R_base ho0) hb); have n1_ := Aside0.mk (Kd.R_elder' (by (with_reducible repeat (first | apply Kd.R_alloc | apply Kd.R_drewN | apply Kd.R_drew)); exact HO718.out) (Kd.R_base ho0) hb); have n2_ := Aside0.mk (Kd.R_elder' (by (with_reducible repeat (first | apply Kd.R_alloc | apply Kd.R_drewN | apply Kd.R_drew)); exact HO725.out) (Kd.R_base ho0) hb); have n3_ := Aside0.mk (Kd.R_elder' (by (with_reducible repeat (first | apply Kd.R_alloc | apply Kd.R_drewN | apply Kd.R_drew)); exact HO731.out) (Kd.R_base ho0) hb); have n4_ := Aside0.mk (Kd.R_elder' (by (with_reducible repeat (first | apply Kd.R_alloc | apply Kd.R_drewN | apply Kd.R_drew)); exact HO739.out) (Kd.R_base ho0) hb); have n5_ := Aside0.mk (Kd.R_elder' (by (with_reducible repeat (first | apply Kd.R_alloc | apply Kd.R_drewN | apply Kd.R_drew)); exact HO751.out) (Kd.R_base ho0) hb); have n6_ := Aside0.mk (Kd.R_lower (Kd.R_new' (Kd.R_new' (Kd.R_new' (Kd.R_new' (Kd.R_new' (Kd.R_new' ho0 (Kd.R_lt (by (with_reducible repeat (first | apply Kd.R_alloc | apply Kd.R_drewN | apply Kd.R_drew)); exact HO713.out))) (Kd.R_lt (by (with_reducible repeat (first | apply Kd.R_alloc | apply Kd.R_drewN | apply Kd.R_drew)); exact HO718.out))) (Kd.R_lt (by (with_reducible repeat (first | apply Kd.R_alloc | apply Kd.R_drewN | apply Kd.R_drew)); exact HO725.out))) (Kd.R_lt (by (with_reducible repeat (first | apply Kd.R_alloc | apply Kd.R_drewN | apply Kd.R_drew)); exact HO731.out))) (Kd.R_lt (by (with_reducible repeat (first | apply Kd.R_alloc | apply Kd.R_drewN | apply Kd.R_drew)); exact HO739.out))) (Kd.R_lt (by (with_reducible repeat (first | apply Kd.R_alloc | apply Kd.R_drewN | apply Kd.R_drew)); exact HO751.out))) (below_size (by repeat (first | (with_reducible first | exact HB.out | apply below_alloc | apply pw_below_drewN | apply below_drew1 | refine below_set ?_ GE709.out | refine below_set ?_ GE722.out | refine below_set ?_ GE728.out | refine below_set ?_ GE735.out) | exact HB.out)))); have n7_ := Aside0.mk (blk_below (g := gb709) (o := .cells #[.slice A0_0 l0_0.length c0_0, .int .i64 a0_1, .bool a0_2] 24 (0, 0)) (by (with_reducible repeat (first | refine blk_drewN ?_ _ | refine blk_drew ?_ | refine blk_alloc ?_ _)); exact BK709.out) hb); have n8_ := Aside0.mk (blk_below (g := gb722) (o := .cells #[.slice Ao41 t716.length co41, .int .i64 t719, .bool t720] 29 (0, 0)) (by (with_reducible repeat (first | refine blk_drewN ?_ _ | refine blk_drew ?_ | refine blk_alloc ?_ _)); exact BK722.out) hb); have n9_ := Aside0.mk (blk_below (g := gb728) (o := .cells #[.slice Ao47 t723.length co47, .int .i64 t726, .bool t727] 29 (0, 0)) (by (with_reducible repeat (first | refine blk_drewN ?_ _ | refine blk_drew ?_ | refine blk_alloc ?_ _)); exact BK728.out) hb); have n10_ := Aside0.mk (blk_below (g := gb735) (o := .cells #[.slice Ao53 t729.length co53, .int .i64 t732, .bool t733] 29 (0, 0)) (by (with_reducible repeat (first | refine blk_drewN ?_ _ | refine blk_drew ?_ | refine blk_alloc ?_ _)); exact BK735.out) hb); have n11_ := Aside0.mk (below_step (by repeat (first | (with_reducible first | exact HB.out | apply below_alloc | apply pw_below_drewN | apply below_drew1 | refine below_set ?_ GE709.out | refine below_set ?_ GE722.out | refine below_set ?_ GE728.out | refine below_set ?_ GE735.out) | exact HB.out)) hb); clear HO713; clear HO718; clear HO725; clear HO731; clear HO739; clear HO751; clear BK709; clear BK722; clear BK728; clear BK735; clear HB; have HO713 := n0_; have HO718 := n1_; have HO725 := n2_; have HO731 := n3_; have HO739 := n4_; have HO751 := n5_; have HO756 := n6_; have BK709 := n7_; have BK722 := n8_; have BK728 := n9_; have BK735 := n10_; have HB := n11_; clear n0_ n1_ n2_ n3_ n4_ n5_ n6_ n7_ n8_ n9_ n10_ n11_; (try clear hb); (try clear hb2); (try clear hk); (try clear hi); (try clear ho0)) | ((with_reducible refine gate_dst (N := 12) rfl ?_); refine box_event ?hg (N := 12) ?hd (cs := #[.slice none 0 0, .int .i64 0, .bool false]) (t := 29) ?hr ?_; (case hd => rfl); (case hg => rfl); (case hr => first | (go_simp; done) | (go_simp; rfl)); intro gb760 hg w77 hbox hb; have n0_ := Aside0.mk (Kd.R_below (by (with_reducible repeat (first | apply Kd.R_alloc | apply Kd.R_drewN | apply Kd.R_drew)); exact HO713.out) hb); have n1_ := Aside0.mk (Kd.R_below (by (with_reducible repeat (first | apply Kd.R_alloc | apply Kd.R_drewN | apply Kd.R_drew)); exact HO718.out) hb); have n2_ := Aside0.mk (Kd.R_below (by (with_reducible repeat (first | apply Kd.R_alloc | apply Kd.R_drewN | apply Kd.R_drew)); exact HO725.out) hb); have n3_ := Aside0.mk (Kd.R_below (by (with_reducible repeat (first | apply Kd.R_alloc | apply Kd.R_drewN | apply Kd.R_drew)); exact HO731.out) hb); have n4_ := Aside0.mk (Kd.R_below (by (with_reducible repeat (first | apply Kd.R_alloc | apply Kd.R_drewN | apply Kd.R_drew)); exact HO739.out) hb); have n5_ := Aside0.mk (Kd.R_below (by (with_reducible repeat (first | apply Kd.R_alloc | apply Kd.R_drewN | apply Kd.R_drew)); exact HO751.out) hb); have n6_ := Aside0.mk (Kd.R_below (by (with_reducible repeat (first | apply Kd.R_alloc | apply Kd.R_drewN | apply Kd.R_drew)); exact HO756.out) hb); have n7_ := Aside0.mk (blk_below (g := gb709) (o := .cells #[.slice A0_0 l0_0.length c0_0, .int .i64 a0_1, .bool a0_2] 24 (0, 0)) (by (with_reducible repeat (first | refine blk_drewN ?_ _ | refine blk_drew ?_ | refine blk_alloc ?_ _)); exact BK709.out) hb); have n8_ := Aside0.mk (blk_below (g := gb722) (o := .cells #[.slice Ao41 t716.length co41, .int .i64 t719, .bool t720] 29 (0, 0)) (by (with_reducible repeat (first | refine blk_drewN ?_ _ | refine blk_drew ?_ | refine blk_alloc ?_ _)); exact BK722.out) hb); have n9_ := Aside0.mk (blk_below (g := gb728) (o := .cells #[.slice Ao47 t723.length co47, .int .i64 t726, .bool t727] 29 (0, 0)) (by (with_reducible repeat (first | refine blk_drewN ?_ _ | refine blk_drew ?_ | refine blk_alloc ?_ _)); exact BK728.out) hb); have n10_ := Aside0.mk (blk_below (g := gb735) (o := .cells #[.slice Ao53 t729.length co53, .int .i64 t732, .bool t733] 29 (0, 0)) (by (with_reducible repeat (first | refine blk_drewN ?_ _ | refine blk_drew ?_ | refine blk_alloc ?_ _)); exact BK735.out) hb); have n11_ := Aside0.mk (below_step (by repeat (first | (with_reducible first | exact HB.out | apply below_alloc | apply pw_below_drewN | apply below_drew1 | refine below_set ?_ GE709.out | refine below_set ?_ GE722.out | refine below_set ?_ GE728.out | refine below_set ?_ GE735.out) | exact HB.out)) hb); have n12_ := Aside0.mk (hbox); have n13_ := Aside0.mk ((by rw [hg]; exact (below_size (by repeat (first | (with_reducible first | exact HB.out | apply below_alloc | apply pw_below_drewN | apply below_drew1 | refine below_set ?_ GE709.out | refine below_set ?_ GE722.out | refine below_set ?_ GE728.out | refine below_set ?_ GE735.out) | exact HB.out))) : w.heap.size ≤ gb760)); have n14_ := Aside0.mk ((by rw [hg]; exact (below_size (by repeat (first | (with_reducible first | exact HB.out | apply below_alloc | apply pw_below_drewN | apply below_drew1 | refine below_set ?_ GE709.out | refine below_set ?_ GE722.out | refine below_set ?_ GE728.out | refine below_set ?_ GE735.out) | exact HB.out))) : w.heap.size ≤ gb760)); have n15_ := Aside0.mk ((by rw [hg]; exact Nat.ne_of_lt (blk_lt (g := gb709) (o := .cells #[.slice A0_0 l0_0.length c0_0, .int .i64 a0_1, .bool a0_2] 24 (0, 0)) (by (with_reducible repeat (first | refine blk_drewN ?_ _ | refine blk_drew ?_ | refine blk_alloc ?_ _)); exact BK709.out)) : gb709 ≠ gb760)); have n16_ := Aside0.mk ((by rw [hg]; exact Nat.ne_of_gt (blk_lt (g := gb709) (o := .cells #[.slice A0_0 l0_0.length c0_0, .int .i64 a0_1, .bool a0_2] 24 (0, 0)) (by (with_reducible repeat (first | refine blk_drewN ?_ _ | refine blk_drew ?_ | refine blk_alloc ?_ _)); exact BK709.out)) : gb760 ≠ gb709)); have n17_ := Aside0.mk ((by rw [hg]; exact Nat.ne_of_lt (blk_lt (g := gb722) (o := .cells #[.slice Ao41 t716.length co41, .int .i64 t719, .bool t720] 29 (0, 0)) (by (with_reducible repeat (first | refine blk_drewN ?_ _ | refine blk_drew ?_ | refine blk_alloc ?_ _)); exact BK722.out)) : gb722 ≠ gb760)); have n18_ := Aside0.mk ((by rw [hg]; exact Nat.ne_of_gt (blk_lt (g := gb722) (o := .cells #[.slice Ao41 t716.length co41, .int .i64 t719, .bool t720] 29 (0, 0)) (by (with_reducible repeat (first | refine blk_drewN ?_ _ | refine blk_drew ?_ | refine blk_alloc ?_ _)); exact BK722.out)) : gb760 ≠ gb722)); have n19_ := Aside0.mk ((by rw [hg]; exact Nat.ne_of_lt (blk_lt (g := gb728) (o := .cells #[.slice Ao47 t723.length co47, .int .i64 t726, .bool t727] 29 (0, 0)) (by (with_reducible repeat (first | refine blk_drewN ?_ _ | refine blk_drew ?_ | refine blk_alloc ?_ _)); exact BK728.out)) : gb728 ≠ gb760)); have n20_ := Aside0.mk ((by rw [hg]; exact Nat.ne_of_gt (blk_lt (g := gb728) (o := .cells #[.slice Ao47 t723.length co47, .int .i64 t726, .bool t727] 29 (0, 0)) (by (with_reducible repeat (first | refine blk_drewN ?_ _ | refine blk_drew ?_ | refine blk_alloc ?_ _)); exact BK728.out)) : gb760 ≠ gb728)); have n21_ := Aside0.mk ((by rw [hg]; exact Nat.ne_of_lt (blk_lt (g := gb735) (o := .cells #[.slice Ao53 t729.length co53, .int .i64 t732, .bool t733] 29 (0, 0)) (by (with_reducible repeat (first | refine blk_drewN ?_ _ | refine blk_drew ?_ | refine blk_alloc ?_ _)); exact BK735.out)) : gb735 ≠ gb760)); have n22_ := Aside0.mk ((by rw [hg]; exact Nat.ne_of_gt (blk_lt (g := gb735) (o := .cells #[.slice Ao53 t729.length co53, .int .i64 t732, .bool t733] 29 (0, 0)) (by (with_reducible repeat (first | refine blk_drewN ?_ _ | refine blk_drew ?_ | refine blk_alloc ?_ _)); exact BK735.out)) : gb760 ≠ gb735)); clear HO713; clear HO718; clear HO725; clear HO731; clear HO739; clear HO751; clear HO756; clear BK709; clear BK722; clear BK728; clear BK735; clear HB; have HO713 := n0_; have HO718 := n1_; have HO725 := n2_; have HO731 := n3_; have HO739 := n4_; have HO751 := n5_; have HO756 := n6_; have BK709 := n7_; have BK722 := n8_; have BK728 := n9_; have BK735 := n10_; have HB := n11_; have BK760 := n12_; have GW760 := n13_; have GE760 := n14_; have NB709_760 := n15_; have NB760_709 := n16_; have NB722_760 := n17_; have NB760_722 := n18_; have NB728_760 := n19_; have NB760_728 := n20_; have NB735_760 := n21_; have NB760_735 := n22_; clear n0_ n1_ n2_ n3_ n4_ n5_ n6_ n7_ n8_ n9_ n10_ n11_ n12_ n13_ n14_ n15_ n16_ n17_ n18_ n19_ n20_ n21_ n22_; clear hb hbox hg; obtain ⟨Ao78, co78, eo78⟩ := Kd.R_slice HO756.out; subst eo78; have hnb79 := NB760_709.out; have hnc79 := NB709_760.out; have hnb80 := NB760_722.out; have hnc80 := NB722_760.out; have hnb81 := NB760_728.out; have hnc81 := NB728_760.out; have hnb82 := NB760_735.out; have hnc82 := NB735_760.out; have hcz83_0 : w77.cell? ⟨gb760, 0, none⟩ = some (.slice none 0 0) := (blk_cell BK760.out 0).trans rfl; have hcz83_1 : w77.cell? ⟨gb760, 1, none⟩ = some (.int .i64 0) := (blk_cell BK760.out 1).trans rfl; have hcz83_2 : w77.cell? ⟨gb760, 2, none⟩ = some (.bool false) := (blk_cell BK760.out 2).trans rfl; have hfz83_0 := blk_frozen BK760.out 0; have hfz83_1 := blk_frozen BK760.out 1; have hfz83_2 := blk_frozen BK760.out 2; have hcz84_0 : w77.cell? ⟨gb722, 0, none⟩ = some (.slice Ao41 t716.length co41) := (blk_cell BK722.out 0).trans rfl; have hcz84_1 : w77.cell? ⟨gb722, 1, none⟩ = some (.int .i64 t719) := (blk_cell BK722.out 1).trans rfl; have hcz84_2 : w77.cell? ⟨gb722, 2, none⟩ = some (.bool t720) := (blk_cell BK722.out 2).trans rfl; have hfz84_0 := blk_frozen BK722.out 0; have hfz84_1 := blk_frozen BK722.out 1; have hfz84_2 := blk_frozen BK722.out 2) | ((with_reducible refine gate_callee (f := 21) rfl ?_); refine goesL_ (some 81) rfl rfl Tryd.func21 (by kernel_rfl) rfl #[.agg #[.slice Ao78 t754.length co78, .int .i64 t757, .bool t758], .agg #[.slice Ao41 t716.length co41, .int .i64 t719, .bool t720]] rfl (by (try simp only [List.map_toArray, List.map_cons, List.map_nil]); first | done | rfl | (simp only [List.length_drop, List.length_take]; rfl)) ?_; (with_reducible refine (laws_eqServer.calls k _ _ t754 t757 t758 _ _ t716 t719 t720 true _ ?side1 ?side2 ?side3 ?side4 A27.out).mono ?_); (case side1 => refine (Kd.R_reads' (e := 56) (base := w.heap.size) (ok := fun k_ => ((((((True ∧ some k_ ≠ (.slice Ao38 t711.length co38 : Value).ownBlock) ∧ some k_ ≠ (.slice Ao41 t716.length co41 : Value).ownBlock) ∧ some k_ ≠ (.slice Ao47 t723.length co47 : Value).ownBlock) ∧ some k_ ≠ (.slice Ao53 t729.length co53 : Value).ownBlock) ∧ some k_ ≠ (.slice Ao62 t737.length co62 : Value).ownBlock) ∧ some k_ ≠ (.slice Ao75 t749.length co75 : Value).ownBlock)) (n := t754.length) (c := co78) ?_).2.2; exact (by (with_reducible repeat (first | apply Kd.R_alloc | apply Kd.R_drewN | apply Kd.R_drew)); exact (Kd.R_mono (Kd.R_far (p := ⟨gb760, 2, none⟩) (Kd.R_far (p := ⟨gb760, 1, none⟩) (Kd.R_far (p := ⟨gb760, 0, none⟩) (Kd.R_types HO756.out BK760.out (by decide)) (fun _ hk => hk.2) (.slice Ao78 t754.length co78)) (fun _ hk => hk.2) (.int .i64 t757)) (fun _ hk => hk.2) (.bool t758)) (fun _ h_ => h_.1)))); (case side2 => exact (Kd.R_reads' HO756.out).2.1); (case side3 => refine (Kd.R_reads' (e := 56) (base := w.heap.size) (ok := fun k_ => (((some k_ ≠ (.slice Ao38 t711.length co38 : Value).ownBlock ∧ (some k_ ≠ (.slice Ao47 t723.length co47 : Value).ownBlock ∧ (some k_ ≠ (.slice Ao53 t729.length co53 : Value).ownBlock ∧ some k_ ≠ (.slice Ao62 t737.length co62 : Value).ownBlock))) ∧ some k_ ≠ (.slice Ao75 t749.length co75 : Value).ownBlock) ∧ some k_ ≠ (.slice Ao78 t754.length co78 : Value).ownBlock)) (n := t716.length) (c := co41) ?_).2.2; exact (by (with_reducible repeat (first | apply Kd.R_alloc | apply Kd.R_drewN | apply Kd.R_drew)); exact (Kd.R_mono (Kd.R_far (p := ⟨gb760, 2, none⟩) (Kd.R_far (p := ⟨gb760, 1, none⟩) (Kd.R_far (p := ⟨gb760, 0, none⟩) (Kd.R_types HO718.out BK760.out (by decide)) (fun _ hk => hk.2) (.slice Ao78 t754.length co78)) (fun _ hk => hk.2) (.int .i64 t757)) (fun _ hk => hk.2) (.bool t758)) (fun _ h_ => h_.1)))); (case side4 => exact (Kd.R_reads' HO718.out).2.1); rintro e w85 ⟨rfl, hb⟩; refine ⟨_, rfl, ?_⟩; have n0_ := Aside0.mk (Kd.R_below (by (with_reducible repeat (first | apply Kd.R_alloc | apply Kd.R_drewN | apply Kd.R_drew)); exact (Kd.R_mono (Kd.R_far (p := ⟨gb760, 2, none⟩) (Kd.R_far (p := ⟨gb760, 1, none⟩) (Kd.R_far (p := ⟨gb760, 0, none⟩) (Kd.R_types HO713.out BK760.out (by decide)) (fun _ hk => hk.2) (.slice Ao78 t754.length co78)) (fun _ hk => hk.2) (.int .i64 t757)) (fun _ hk => hk.2) (.bool t758)) (fun _ h_ => h_.1))) hb); have n1_ := Aside0.mk (Kd.R_below (by (with_reducible repeat (first | apply Kd.R_alloc | apply Kd.R_drewN | apply Kd.R_drew)); exact (Kd.R_mono (Kd.R_far (p := ⟨gb760, 2, none⟩) (Kd.R_far (p := ⟨gb760, 1, none⟩) (Kd.R_far (p := ⟨gb760, 0, none⟩) (Kd.R_types HO718.out BK760.out (by decide)) (fun _ hk => hk.2) (.slice Ao78 t754.length co78)) (fun _ hk => hk.2) (.int .i64 t757)) (fun _ hk => hk.2) (.bool t758)) (fun _ h_ => h_.1))) hb); have n2_ := Aside0.mk (Kd.R_below (by (with_reducible repeat (first | apply Kd.R_alloc | apply Kd.R_drewN | apply Kd.R_drew)); exact (Kd.R_mono (Kd.R_far (p := ⟨gb760, 2, none⟩) (Kd.R_far (p := ⟨gb760, 1, none⟩) (Kd.R_far (p := ⟨gb760, 0, none⟩) (Kd.R_types HO725.out BK760.out (by decide)) (fun _ hk => hk.2) (.slice Ao78 t754.length co78)) (fun _ hk => hk.2) (.int .i64 t757)) (fun _ hk => hk.2) (.bool t758)) (fun _ h_ => h_.1))) hb); have n3_ := Aside0.mk (Kd.R_below (by (with_reducible repeat (first | apply Kd.R_alloc | apply Kd.R_drewN | apply Kd.R_drew)); exact (Kd.R_mono (Kd.R_far (p := ⟨gb760, 2, none⟩) (Kd.R_far (p := ⟨gb760, 1, none⟩) (Kd.R_far (p := ⟨gb760, 0, none⟩) (Kd.R_types HO731.out BK760.out (by decide)) (fun _ hk => hk.2) (.slice Ao78 t754.length co78)) (fun _ hk => hk.2) (.int .i64 t757)) (fun _ hk => hk.2) (.bool t758)) (fun _ h_ => h_.1))) hb); have n4_ := Aside0.mk (Kd.R_below (by (with_reducible repeat (first | apply Kd.R_alloc | apply Kd.R_drewN | apply Kd.R_drew)); exact (Kd.R_mono (Kd.R_far (p := ⟨gb760, 2, none⟩) (Kd.R_far (p := ⟨gb760, 1, none⟩) (Kd.R_far (p := ⟨gb760, 0, none⟩) (Kd.R_types HO739.out BK760.out (by decide)) (fun _ hk => hk.2) (.slice Ao78 t754.length co78)) (fun _ hk => hk.2) (.int .i64 t757)) (fun _ hk => hk.2) (.bool t758)) (fun _ h_ => h_.1))) hb); have n5_ := Aside0.mk (Kd.R_below (by (with_reducible repeat (first | apply Kd.R_alloc | apply Kd.R_drewN | apply Kd.R_drew)); exact (Kd.R_mono (Kd.R_far (p := ⟨gb760, 2, none⟩) (Kd.R_far (p := ⟨gb760, 1, none⟩) (Kd.R_far (p := ⟨gb760, 0, none⟩) (Kd.R_types HO751.out BK760.out (by decide)) (fun _ hk => hk.2) (.slice Ao78 t754.length co78)) (fun _ hk => hk.2) (.int .i64 t757)) (fun _ hk => hk.2) (.bool t758)) (fun _ h_ => h_.1))) hb); have n6_ := Aside0.mk (Kd.R_below (by (with_reducible repeat (first | apply Kd.R_alloc | apply Kd.R_drewN | apply Kd.R_drew)); exact (Kd.R_mono (Kd.R_far (p := ⟨gb760, 2, none⟩) (Kd.R_far (p := ⟨gb760, 1, none⟩) (Kd.R_far (p := ⟨gb760, 0, none⟩) (Kd.R_types HO756.out BK760.out (by decide)) (fun _ hk => hk.2) (.slice Ao78 t754.length co78)) (fun _ hk => hk.2) (.int .i64 t757)) (fun _ hk => hk.2) (.bool t758)) (fun _ h_ => h_.1))) hb); have n7_ := Aside0.mk (blk_below (g := gb709) (o := .cells #[.slice A0_0 l0_0.length c0_0, .int .i64 a0_1, .bool a0_2] 24 (0, 0)) (by (with_reducible repeat (first | refine blk_drewN ?_ _ | refine blk_drew ?_ | refine blk_alloc ?_ _)); refine blk_far ?_ NB709_760.out _; (with_reducible repeat (first | refine blk_drewN ?_ _ | refine blk_drew ?_ | refine blk_alloc ?_ _)); refine blk_far ?_ NB709_760.out _; (with_reducible repeat (first | refine blk_drewN ?_ _ | refine blk_drew ?_ | refine blk_alloc ?_ _)); refine blk_far ?_ NB709_760.out _; (with_reducible repeat (first | refine blk_drewN ?_ _ | refine blk_drew ?_ | refine blk_alloc ?_ _)); exact BK709.out) hb); have n8_ := Aside0.mk (blk_below (g := gb722) (o := .cells #[.slice Ao41 t716.length co41, .int .i64 t719, .bool t720] 29 (0, 0)) (by (with_reducible repeat (first | refine blk_drewN ?_ _ | refine blk_drew ?_ | refine blk_alloc ?_ _)); refine blk_far ?_ NB722_760.out _; (with_reducible repeat (first | refine blk_drewN ?_ _ | refine blk_drew ?_ | refine blk_alloc ?_ _)); refine blk_far ?_ NB722_760.out _; (with_reducible repeat (first | refine blk_drewN ?_ _ | refine blk_drew ?_ | refine blk_alloc ?_ _)); refine blk_far ?_ NB722_760.out _; (with_reducible repeat (first | refine blk_drewN ?_ _ | refine blk_drew ?_ | refine blk_alloc ?_ _)); exact BK722.out) hb); have n9_ := Aside0.mk (blk_below (g := gb728) (o := .cells #[.slice Ao47 t723.length co47, .int .i64 t726, .bool t727] 29 (0, 0)) (by (with_reducible repeat (first | refine blk_drewN ?_ _ | refine blk_drew ?_ | refine blk_alloc ?_ _)); refine blk_far ?_ NB728_760.out _; (with_reducible repeat (first | refine blk_drewN ?_ _ | refine blk_drew ?_ | refine blk_alloc ?_ _)); refine blk_far ?_ NB728_760.out _; (with_reducible repeat (first | refine blk_drewN ?_ _ | refine blk_drew ?_ | refine blk_alloc ?_ _)); refine blk_far ?_ NB728_760.out _; (with_reducible repeat (first | refine blk_drewN ?_ _ | refine blk_drew ?_ | refine blk_alloc ?_ _)); exact BK728.out) hb); have n10_ := Aside0.mk (blk_below (g := gb735) (o := .cells #[.slice Ao53 t729.length co53, .int .i64 t732, .bool t733] 29 (0, 0)) (by (with_reducible repeat (first | refine blk_drewN ?_ _ | refine blk_drew ?_ | refine blk_alloc ?_ _)); refine blk_far ?_ NB735_760.out _; (with_reducible repeat (first | refine blk_drewN ?_ _ | refine blk_drew ?_ | refine blk_alloc ?_ _)); refine blk_far ?_ NB735_760.out _; (with_reducible repeat (first | refine blk_drewN ?_ _ | refine blk_drew ?_ | refine blk_alloc ?_ _)); refine blk_far ?_ NB735_760.out _; (with_reducible repeat (first | refine blk_drewN ?_ _ | refine blk_drew ?_ | refine blk_alloc ?_ _)); exact BK735.out) hb); have n11_ := Aside0.mk (blk_below (g := gb760) (o := .cells #[.slice Ao78 t754.length co78, .int .i64 t757, .bool t758] 29 (0, 0)) (by (with_reducible repeat (first | refine blk_drewN ?_ _ | refine blk_drew ?_ | refine blk_alloc ?_ _)); refine blk_put (cs := #[.slice Ao78 t754.length co78, .int .i64 t757, .bool false]) ?_ 2 _ rfl; (with_reducible repeat (first | refine blk_drewN ?_ _ | refine blk_drew ?_ | refine blk_alloc ?_ _)); refine blk_put (cs := #[.slice Ao78 t754.length co78, .int .i64 0, .bool false]) ?_ 1 _ rfl; (with_reducible repeat (first | refine blk_drewN ?_ _ | refine blk_drew ?_ | refine blk_alloc ?_ _)); refine blk_put (cs := #[.slice none 0 0, .int .i64 0, .bool false]) ?_ 0 _ rfl; (with_reducible repeat (first | refine blk_drewN ?_ _ | refine blk_drew ?_ | refine blk_alloc ?_ _)); exact BK760.out) hb); have n12_ := Aside0.mk (below_step (by repeat (first | (with_reducible first | exact HB.out | apply below_alloc | apply pw_below_drewN | apply below_drew1 | refine below_set ?_ GE709.out | refine below_set ?_ GE722.out | refine below_set ?_ GE728.out | refine below_set ?_ GE735.out | refine below_set ?_ GE760.out) | exact HB.out)) hb); clear HO713; clear HO718; clear HO725; clear HO731; clear HO739; clear HO751; clear HO756; clear BK709; clear BK722; clear BK728; clear BK735; clear BK760; clear HB; have HO713 := n0_; have HO718 := n1_; have HO725 := n2_; have HO731 := n3_; have HO739 := n4_; have HO751 := n5_; have HO756 := n6_; have BK709 := n7_; have BK722 := n8_; have BK728 := n9_; have BK735 := n10_; have BK760 := n11_; have HB := n12_; clear n0_ n1_ n2_ n3_ n4_ n5_ n6_ n7_ n8_ n9_ n10_ n11_ n12_; (try clear hb); (try clear hb2); (try clear hk); (try clear hi); have hcz86_0 : w85.cell? ⟨gb735, 0, none⟩ = some (.slice Ao53 t729.length co53) := (blk_cell BK735.out 0).trans rfl; have hcz86_1 : w85.cell? ⟨gb735, 1, none⟩ = some (.int .i64 t732) := (blk_cell BK735.out 1).trans rfl; have hcz86_2 : w85.cell? ⟨gb735, 2, none⟩ = some (.bool t733) := (blk_cell BK735.out 2).trans rfl; have hfz86_0 := blk_frozen BK735.out 0; have hfz86_1 := blk_frozen BK735.out 1; have hfz86_2 := blk_frozen BK735.out 2) | ((with_reducible refine gate_callee (f := 31) rfl ?_); refine goesL_ (some 90) rfl rfl Tryd.func31 (by kernel_rfl) rfl #[.agg #[.slice Ao53 t747.length co53, .int .i64 t732, .bool t733], .int .i64 1] rfl (by (try simp only [List.map_toArray, List.map_cons, List.map_nil]); first | done | (rw [show t747.length = t729.length from (Kd.R_reads' HO731.out).1.symm] <;> rfl) | rfl | (simp only [List.length_drop, List.length_take]; rfl)) ?_; (with_reducible refine (laws_heldServer.calls k _ _ t747 t732 t733 1 t762 _ ?side1 ?side2 A30.out).mono ?_); (case side1 => repeat (first | exact (Kd.R_reads' HO731.out).2.2 | (with_reducible refine Kd.C_alloc ?_ _) | (with_reducible refine Kd.C_drewN ?_ _) | (with_reducible refine Kd.C_drew ?_))); (case side2 => rw [show t747.length = t729.length from (Kd.R_reads' HO731.out).1.symm]; exact (Kd.R_reads' HO731.out).2.1); rintro e w87 ⟨rfl, hb⟩; refine ⟨_, rfl, ?_⟩; have n0_ := Aside0.mk (Kd.R_below (by (with_reducible repeat (first | apply Kd.R_alloc | apply Kd.R_drewN | apply Kd.R_drew)); exact HO713.out) hb); have n1_ := Aside0.mk (Kd.R_below (by (with_reducible repeat (first | apply Kd.R_alloc | apply Kd.R_drewN | apply Kd.R_drew)); exact HO718.out) hb); have n2_ := Aside0.mk (Kd.R_below (by (with_reducible repeat (first | apply Kd.R_alloc | apply Kd.R_drewN | apply Kd.R_drew)); exact HO725.out) hb); have n3_ := Aside0.mk (Kd.R_below (by (with_reducible repeat (first | apply Kd.R_alloc | apply Kd.R_drewN | apply Kd.R_drew)); exact HO731.out) hb); have n4_ := Aside0.mk (Kd.R_below (by (with_reducible repeat (first | apply Kd.R_alloc | apply Kd.R_drewN | apply Kd.R_drew)); exact HO739.out) hb); have n5_ := Aside0.mk (Kd.R_below (by (with_reducible repeat (first | apply Kd.R_alloc | apply Kd.R_drewN | apply Kd.R_drew)); exact HO751.out) hb); have n6_ := Aside0.mk (Kd.R_below (by (with_reducible repeat (first | apply Kd.R_alloc | apply Kd.R_drewN | apply Kd.R_drew)); exact HO756.out) hb); have n7_ := Aside0.mk (blk_below (g := gb709) (o := .cells #[.slice A0_0 l0_0.length c0_0, .int .i64 a0_1, .bool a0_2] 24 (0, 0)) (by (with_reducible repeat (first | refine blk_drewN ?_ _ | refine blk_drew ?_ | refine blk_alloc ?_ _)); exact BK709.out) hb); have n8_ := Aside0.mk (blk_below (g := gb722) (o := .cells #[.slice Ao41 t716.length co41, .int .i64 t719, .bool t720] 29 (0, 0)) (by (with_reducible repeat (first | refine blk_drewN ?_ _ | refine blk_drew ?_ | refine blk_alloc ?_ _)); exact BK722.out) hb); have n9_ := Aside0.mk (blk_below (g := gb728) (o := .cells #[.slice Ao47 t723.length co47, .int .i64 t726, .bool t727] 29 (0, 0)) (by (with_reducible repeat (first | refine blk_drewN ?_ _ | refine blk_drew ?_ | refine blk_alloc ?_ _)); exact BK728.out) hb); have n10_ := Aside0.mk (blk_below (g := gb735) (o := .cells #[.slice Ao53 t729.length co53, .int .i64 t732, .bool t733] 29 (0, 0)) (by (with_reducible repeat (first | refine blk_drewN ?_ _ | refine blk_drew ?_ | refine blk_alloc ?_ _)); exact BK735.out) hb); have n11_ := Aside0.mk (blk_below (g := gb760) (o := .cells #[.slice Ao78 t754.length co78, .int .i64 t757, .bool t758] 29 (0, 0)) (by (with_reducible repeat (first | refine blk_drewN ?_ _ | refine blk_drew ?_ | refine blk_alloc ?_ _)); exact BK760.out) hb); have n12_ := Aside0.mk (below_step (by repeat (first | (with_reducible first | exact HB.out | apply below_alloc | apply pw_below_drewN | apply below_drew1 | refine below_set ?_ GE709.out | refine below_set ?_ GE722.out | refine below_set ?_ GE728.out | refine below_set ?_ GE735.out | refine below_set ?_ GE760.out) | exact HB.out)) hb); clear HO713; clear HO718; clear HO725; clear HO731; clear HO739; clear HO751; clear HO756; clear BK709; clear BK722; clear BK728; clear BK735; clear BK760; clear HB; have HO713 := n0_; have HO718 := n1_; have HO725 := n2_; have HO731 := n3_; have HO739 := n4_; have HO751 := n5_; have HO756 := n6_; have BK709 := n7_; have BK722 := n8_; have BK728 := n9_; have BK735 := n10_; have BK760 := n11_; have HB := n12_; clear n0_ n1_ n2_ n3_ n4_ n5_ n6_ n7_ n8_ n9_ n10_ n11_ n12_; (try clear hb); (try clear hb2); (try clear hk); (try clear hi)))
                          go_ret
                          exact ⟨by first | rfl | (simp [errW_none, errW_some] <;> rfl) | (simp [*, errW_none, errW_some] <;> rfl), by repeat (first | (with_reducible first | exact HB.out | apply below_alloc | apply pw_below_drewN | apply below_drew1 | refine below_set ?_ GE709.out | refine below_set ?_ GE722.out | refine below_set ?_ GE728.out | refine below_set ?_ GE735.out | refine below_set ?_ GE760.out) | exact HB.out)⟩
                        · rw [if_neg c32] at H
                          exact absurd H (by simp)
                  · replace c28 := Bool.eq_false_iff.mpr c28
                    subst c28
                    have H1 : (none) = some r := by rw [if_neg (show ¬ (false = true) by decide)] at H; exact H
                    clear H
                    have H := H1
                    clear H1
                    exact absurd H (by simp)
                · rw [if_neg c24] at H
                  exact absurd H (by simp)
            · replace c20 := Bool.eq_false_iff.mpr c20
              subst c20
              have H1 : (none) = some r := by rw [if_neg (show ¬ (false = true) by decide)] at H; exact H
              clear H
              have H := H1
              clear H1
              exact absurd H (by simp)
        · replace c16 := Bool.eq_false_iff.mpr c16
          subst c16
          have H1 : (none) = some r := by rw [if_neg (show ¬ (false = true) by decide)] at H; exact H
          clear H
          have H := H1
          clear H1
          exact absurd H (by simp)
    · replace c12 := Bool.eq_false_iff.mpr c12
      subst c12
      have H1 : (none) = some r := by rw [if_neg (show ¬ (false = true) by decide)] at H; exact H
      clear H
      have H := H1
      clear H1
      exact absurd H (by simp)

end Go.Proofs.YtnclcbjagleoeaaDoor.P
set_option linter.unusedVariables false
set_option linter.unusedSimpArgs false
namespace Go.Proofs.YtnclcbjagleoeaaDoor.PL
open Go.RowKit Go.Proofs.YtnclcbjagleoeaaDoor.P Go.Proofs.YtnclcbjagleoeaaDoorW.PrintWords Go.Proofs.YtnclcbjagleoeaaDoorW.PrintLast
theorem evnow {α : Type} (a : α) : Ev (fun _ => some a) a := ⟨0, fun _ _ => rfl⟩
theorem ev_neg {α : Type} {c : Prop} [Decidable c] {f g : Nat → Option α} {r : α} (h : ¬ c) (k : Ev g r) : Ev (fun n => if c then f n else g n) r := Ev.congr (fun _ => if_neg h) k
theorem ev_pos {α : Type} {c : Prop} [Decidable c] {f g : Nat → Option α} {r : α} (h : c) (k : Ev f r) : Ev (fun n => if c then f n else g n) r := Ev.congr (fun _ => if_pos h) k
theorem wrapS (i : Int) (h0 : 0 ≤ i) (h : i ≤ 4611686018427387904) : wrap64 (i + 1) = i + 1 := by unfold wrap64; omega
theorem wrapT (i : Int) (h0 : 0 ≤ i) (h : i + 1 ≤ 9223372036854775807) : wrap64 (i + 1) = i + 1 := by unfold wrap64; omega
/-- A number of 64 bits. -/
def I64 (a : Int) : Prop := -9223372036854775808 ≤ a ∧ a ≤ 9223372036854775807
/-- An entry whose numbers are of 64 bits, its text below 2^63 bytes. -/
def wfE (e : S56) : Prop := I64 e.f0 ∧ I64 e.f1 ∧ I64 e.f2.f0 ∧ I64 e.f2.f1 ∧ I64 e.f2.f2 ∧ I64 e.f2.f3 ∧ e.f2.f4.size ≤ 9223372036854775807

def madeB (a : Int) : Bool := decide (ownI a ≠ 0) && decide (ownI a ≠ 1)
def rootB (a : Int) : Bool := decide (1 ≤ a) && decide (a ≤ 3)
theorem in_f (a b c : Int) : spec_l6In.f a b c = some (decide (b ≤ a) && decide (a ≤ c)) := by
  unfold spec_l6In.f
  by_cases h : a ≥ b
  · rw [if_pos h]; simp [h]
  · rw [if_neg h]; simp [show ¬ b ≤ a from h]
theorem ownI_out (a : Int) (h : a < 0 ∨ 37 ≤ a) : ownI a = 0 := by
  unfold ownI
  rw [if_neg (by omega)]
theorem small_made : ∀ n : Nat, n < 37 → (decide (1 ≤ Int.tdiv (n : Int) 10) && decide (Int.tdiv (n : Int) 10 ≤ 3)) = true → (decide (1 ≤ Int.tmod (n : Int) 10) && decide (Int.tmod (n : Int) 10 ≤ 6)) = madeB n := by decide
theorem small_unmade : ∀ n : Nat, n < 37 → (decide (1 ≤ Int.tdiv (n : Int) 10) && decide (Int.tdiv (n : Int) 10 ≤ 3)) = false → madeB n = false := by decide
theorem small_who : ∀ n : Nat, n < 37 → madeB n = true → ownI n - 1 = Int.tdiv (n : Int) 10 := by decide
theorem small_root : ∀ n : Nat, n < 37 → (decide (ownI n ≠ 0) && decide (ownI n - 1 = 0)) = rootB n := by decide
theorem tdiv_wrap (a : Int) (h : I64 a) : wrap64 (Int.tdiv a 10) = Int.tdiv a 10 := by
  obtain ⟨h1, h2⟩ := h
  have : Int.tdiv a 10 ≤ 9223372036854775807 ∧ -9223372036854775808 ≤ Int.tdiv a 10 := by
    rcases Int.le_total 0 a with h0 | h0
    · rw [Int.tdiv_eq_ediv_of_nonneg h0]; omega
    · have e : Int.tdiv a 10 = -(Int.tdiv (-a) 10) := by rw [Int.neg_tdiv, Int.neg_neg]
      rw [e, Int.tdiv_eq_ediv_of_nonneg (by omega)]; omega
  unfold wrap64; omega
theorem made_f (a : Int) (h : I64 a) : spec_l1Made.f a = some (madeB a) := by
  unfold spec_l1Made.f
  rw [in_f, in_f, tdiv_wrap a h]
  simp only [Option.bind_some]
  by_cases hs : 0 ≤ a ∧ a < 37
  · obtain ⟨n, rfl⟩ : ∃ n : Nat, a = n := ⟨a.toNat, by omega⟩
    have hn : n < 37 := by omega
    cases hd : (decide (1 ≤ Int.tdiv (n : Int) 10) && decide (Int.tdiv (n : Int) 10 ≤ 3)) with
    | true => rw [if_pos rfl, small_made n hn hd]
    | false => rw [if_neg (by decide), small_unmade n hn hd]
  · have ho : madeB a = false := by unfold madeB; rw [ownI_out a (by omega)]; rfl
    rw [ho]
    rcases Int.lt_or_le a 0 with h0 | h0
    · have e : Int.tdiv a 10 = -(Int.tdiv (-a) 10) := by rw [Int.neg_tdiv, Int.neg_neg]
      have h1 : Int.tdiv a 10 ≤ 0 := by rw [e, Int.tdiv_eq_ediv_of_nonneg (by omega)]; omega
      have h2 : decide (1 ≤ Int.tdiv a 10) = false := decide_eq_false (by omega)
      rw [h2]
      simp
    · have e1 := Int.tdiv_eq_ediv_of_nonneg (b := 10) h0
      have e2 : Int.tmod a 10 = a % 10 := Int.tmod_eq_emod_of_nonneg h0
      rw [e1, e2]
      by_cases h3 : a / 10 ≤ 3
      · have h4 : decide (a % 10 ≤ 6) = false := decide_eq_false (by omega)
        rw [h4]
        simp
      · have h4 : decide (a / 10 ≤ 3) = false := decide_eq_false h3
        rw [h4]
        simp
theorem isMade_f (a : Int) : impl_isMade.f a = some (madeB a) := by
  unfold impl_isMade.f impl_RowWho.f madeB
  simp only [Option.bind_some]
  by_cases h0 : ownI a = 0
  · rw [if_pos h0]; simp [h0]
  · rw [if_neg h0]
    by_cases h1 : ownI a = 1
    · simp [h1]
    · simp [h0, h1]
      omega
theorem isRoot_f (a : Int) : impl_isRoot.f a = some (rootB a) := by
  unfold impl_isRoot.f impl_RowWho.f
  simp only [Option.bind_some]
  by_cases hs : 0 ≤ a ∧ a < 37
  · obtain ⟨n, rfl⟩ : ∃ n : Nat, a = n := ⟨a.toNat, by omega⟩
    have := small_root n (by omega)
    rw [← this]
    by_cases h0 : ownI (n : Int) = 0
    · rw [if_pos h0]; simp [h0]
    · rw [if_neg h0]
      by_cases h1 : ownI (n : Int) - 1 = 0 <;> simp [h0, h1]
  · rw [if_pos (ownI_out a (by omega))]
    have : rootB a = false := by unfold rootB; simp; omega
    rw [this]
    simp
theorem root_f (a : Int) : spec_l1Root.f a = some (rootB a) := by
  unfold spec_l1Root.f
  rw [in_f]
  rfl
def idB (a : Int) : Bool := rootB a || madeB a
theorem id_f (a : Int) (h : I64 a) : spec_l3Id.f a = some (idB a) := by
  unfold spec_l3Id.f idB
  rw [root_f, made_f a h]
  simp only [Option.bind_some]
  cases rootB a <;> simp
def placeB (u a : Int) : Bool := idB u && (decide (a = 0) || madeB a)
theorem place_f (u a : Int) : impl_placeOk.f u a = some (placeB u a) := by
  unfold impl_placeOk.f placeB idB
  rw [isMade_f, isMade_f, isRoot_f]
  simp only [Option.bind_some]
  by_cases h : a = 0
  · simp only [h, if_true]
    cases madeB u <;> cases rootB u <;> simp
  · simp only [h, if_false]
    cases madeB u <;> cases rootB u <;> simp
def textFrom (s : ByteArray) (i : Nat) : Nat → Bool
  | 0 => true
  | n + 1 => decide (97 ≤ bt s i) && decide (bt s i ≤ 100) && textFrom s (i + 1) n
def textB (s : ByteArray) : Bool := textFrom s 0 s.size && decide (s.size ≤ 4)
theorem bt_range (s : ByteArray) (i : Int) : 0 ≤ bt s i ∧ bt s i ≤ 255 := by
  unfold bt
  split
  · rename_i h
    have := (s[i.toNat]'h).toNat_lt
    omega
  · omega
theorem text_l0 (s : ByteArray) (hs : s.size ≤ 9223372036854775807) : ∀ (n : Nat) (i : Nat), i + n = s.size → Ev (fun k => spec_l1Text.l0 k s i) (textFrom s i n && decide (s.size ≤ 4))
  | 0, i, h => by
    refine Ev.step (f := fun _ => some (decide ((s.size : Int) ≤ 4))) (fun k => ?_) ?_
    · simp only [spec_l1Text.l0]; rw [if_neg (by omega)]
    · have : decide ((s.size : Int) ≤ 4) = (textFrom s i 0 && decide (s.size ≤ 4)) := by simp [textFrom]; omega
      rw [this]; exact evnow _
  | n + 1, i, h => by
    have hw : wrap64 (bt s i) = bt s i := by have := bt_range s i; unfold wrap64; omega
    unfold textFrom
    cases ht : (decide (97 ≤ bt s i) && decide (bt s i ≤ 100)) with
    | true =>
      rw [Bool.true_and]
      refine Ev.step (fun k => ?_) (text_l0 s hs n (i + 1) (by omega))
      simp only [spec_l1Text.l0]
      rw [if_pos (by omega), if_pos (by omega), hw, in_f, ht, Option.bind_some, if_pos rfl, wrapT i (by omega) (by omega)]
      rfl
    | false =>
      rw [Bool.false_and, Bool.false_and]
      refine Ev.step (f := fun _ => some false) (fun k => ?_) (evnow _)
      simp only [spec_l1Text.l0]
      rw [if_pos (by omega), if_pos (by omega), hw, in_f, ht, Option.bind_some, if_neg (by decide)]
theorem text_f (s : ByteArray) (hs : s.size ≤ 9223372036854775807) : Ev (fun k => spec_l1Text.f k s) (textB s) := text_l0 s hs s.size 0 (by omega)
theorem itext_l0 (s : ByteArray) (hs : s.size ≤ 9223372036854775807) : ∀ (n : Nat) (i : Nat), i + n = s.size → Ev (fun k => impl_textOk.l0 k s i) (textFrom s i n)
  | 0, i, h => by
    refine Ev.step (f := fun _ => some true) (fun k => ?_) (evnow _)
    simp only [impl_textOk.l0]; rw [if_neg (by omega)]
  | n + 1, i, h => by
    unfold textFrom
    by_cases h1 : bt s i < 97
    · have : decide (97 ≤ bt s i) = false := decide_eq_false (by omega)
      rw [this, Bool.false_and, Bool.false_and]
      refine Ev.step (f := fun _ => some false) (fun k => ?_) (evnow _)
      simp only [impl_textOk.l0]
      rw [if_pos (by omega), if_pos (by omega), if_pos h1]
    · by_cases h2 : bt s i > 100
      · have : decide (bt s i ≤ 100) = false := decide_eq_false (by omega)
        rw [this, Bool.and_false, Bool.false_and]
        refine Ev.step (f := fun _ => some false) (fun k => ?_) (evnow _)
        simp only [impl_textOk.l0]
        rw [if_pos (by omega), if_pos (by omega), if_neg h1, if_pos h2]
      · have e1 : decide (97 ≤ bt s i) = true := decide_eq_true (by omega)
        have e2 : decide (bt s i ≤ 100) = true := decide_eq_true (by omega)
        rw [e1, e2, Bool.true_and, Bool.true_and]
        refine Ev.step (fun k => ?_) (itext_l0 s hs n (i + 1) (by omega))
        simp only [impl_textOk.l0]
        rw [if_pos (by omega), if_pos (by omega), if_neg h1, if_neg h2, wrapT i (by omega) (by omega)]
        rfl
theorem itext_f (s : ByteArray) (hs : s.size ≤ 9223372036854775807) : Ev (fun k => impl_textOk.f k s) (textB s) := by
  unfold impl_textOk.f textB
  by_cases h : (s.size : Int) > 4
  · refine ev_pos h ?_
    have : decide (s.size ≤ 4) = false := decide_eq_false (by omega)
    rw [this, Bool.and_false]
    exact evnow _
  · refine ev_neg h ?_
    have : decide (s.size ≤ 4) = true := decide_eq_true (by omega)
    rw [this, Bool.and_true]
    exact itext_l0 s hs s.size 0 (by omega)
theorem text_nil (s : ByteArray) (h : s.toList.isEmpty = true) : textB s = true := by
  have : s.size = 0 := by
    have h2 := List.isEmpty_iff.1 h
    have h3 : s.toList.length = s.size := by rw [Go.ByteArray.toList_eq]; exact Array.length_toList
    rw [← h3, h2]; rfl
  unfold textB
  rw [this]
  rfl
def opB (k i u a : Int) (s : ByteArray) : Bool :=
  madeB i && (if k = 1 then placeB u a && textB s else if k = 2 then decide (u = 0) && decide (a = 0) && textB s else if k = 3 then placeB u a && s.toList.isEmpty else false)
theorem opOk_f (k i u a : Int) (s : ByteArray) (hs : s.size ≤ 9223372036854775807) : Ev (fun n => impl_OpOk.f n k i u a s) (opB k i u a s) := by
  unfold impl_OpOk.f impl_changeOf.f opB
  rw [isMade_f]
  simp only [Option.bind_some]
  cases madeB i with
  | false => simp only [Bool.false_eq_true, if_false, Bool.false_and]; exact evnow _
  | true =>
    simp only [if_true, Bool.true_and, place_f, Option.bind_some]
    by_cases h1 : k = 1
    · simp only [h1, if_true]
      cases placeB u a with
      | true => simp only [if_true, Bool.true_and]; exact itext_f s hs
      | false => simp only [Bool.false_eq_true, if_false, Bool.false_and]; exact evnow _
    · simp only [h1, if_false]
      by_cases h2 : k = 2
      · simp only [h2, if_true]
        by_cases h3 : u = 0
        · by_cases h4 : a = 0
          · simp only [h3, h4, if_true, decide_true, Bool.true_and]; exact itext_f s hs
          · simp only [h3, h4, if_true, if_false, decide_true, decide_false, Bool.true_and, Bool.false_and]; exact evnow _
        · simp only [h3, if_false, decide_false, Bool.false_and]; exact evnow _
      · simp only [h2, if_false]
        by_cases h3 : k = 3
        · simp only [h3, if_true]
          cases placeB u a with
          | true => simp only [if_true, Bool.true_and]; exact evnow _
          | false => simp only [Bool.false_eq_true, if_false, Bool.false_and]; exact evnow _
        · simp only [h3, if_false]; exact evnow _
theorem sop_f (k i u a : Int) (s : ByteArray) (hi : I64 i) (hu : I64 u) (ha : I64 a) (hs : s.size ≤ 9223372036854775807) : Ev (fun n => spec_OpOk.f n k i u a s) (opB k i u a s) := by
  unfold spec_OpOk.f opB
  rw [made_f i hi]
  simp only [Option.bind_some]
  cases madeB i with
  | false =>
    simp only [Bool.false_eq_true, if_false, Bool.false_and]
    refine Ev.step (f := fun _ => some false) (fun n => ?_) (evnow _)
    simp only [spec_OpOk.j0, if_true]
  | true =>
    simp only [if_true, Bool.true_and]
    refine Ev.bind (text_f s hs) ?_
    have hp : (idB u && (decide (a = 0) || madeB a)) = placeB u a := rfl
    cases ht : textB s with
    | false =>
      have hne : s.toList.isEmpty = false := by
        cases he : s.toList.isEmpty with
        | false => rfl
        | true => rw [text_nil s he] at ht; cases ht
      refine Ev.step (f := fun _ => some false) (fun n => ?_) ?_
      · simp only [spec_OpOk.j0, Bool.not_false, if_true]
      · simp only [hne, Bool.and_false, ite_self]
        exact evnow _
    | true =>
      refine Ev.step (f := fun _ => some (if k = 1 then placeB u a && true else if k = 2 then decide (u = 0) && decide (a = 0) && true else if k = 3 then placeB u a && s.toList.isEmpty else false)) (fun n => ?_) (evnow _)
      simp only [spec_OpOk.j0, Bool.not_true, Bool.false_eq_true, if_false]
      rw [id_f u hu, made_f a ha]
      simp only [Option.bind_some, Bool.and_true]
      rw [← hp]
      have hnil : (s.toList == ([] : List UInt8)) = s.toList.isEmpty := by cases s.toList <;> rfl
      rw [hnil]
      by_cases h1 : k = 1
      · simp only [h1, if_true]
        by_cases h4 : a = 0
        · simp only [h4, if_true, decide_true, Bool.true_or, Bool.and_true]; cases idB u <;> simp
        · simp only [h4, if_false, decide_false, Bool.false_or]; cases idB u <;> simp
      · simp only [h1, if_false]
        by_cases h2 : k = 2
        · simp only [h2, if_true]
          by_cases h3 : u = 0
          · simp [h3]; by_cases h4 : a = 0 <;> simp [h4]
          · simp [h3]
        · simp only [h2, if_false]
          by_cases h3 : k = 3
          · simp only [h3, if_true]
            by_cases h4 : a = 0
            · simp only [h4, if_true, decide_true, Bool.true_or, Bool.and_true]; cases idB u <;> simp
            · simp only [h4, if_false, decide_false, Bool.false_or]; cases idB u <;> cases madeB a <;> simp
          · simp only [h3, if_false]
def entB (e : S56) : Bool :=
  decide (1 ≤ e.f0) && decide (e.f0 ≤ 3) && (decide (1 ≤ e.f1) && decide (e.f1 ≤ 40)) && opB e.f2.f0 e.f2.f1 e.f2.f2 e.f2.f3 e.f2.f4 && (decide (e.f2.f0 ≠ 1) || decide (ownI e.f2.f1 - 1 = e.f0))
theorem made_small (a : Int) (h : madeB a = true) : 0 ≤ a ∧ a < 37 := by
  rcases Int.lt_or_le a 0 with h0 | h0
  · unfold madeB at h; rw [ownI_out a (by omega)] at h; simp at h
  · rcases Int.lt_or_le a 37 with h1 | h1
    · exact ⟨h0, h1⟩
    · unfold madeB at h; rw [ownI_out a (by omega)] at h; simp at h
theorem opB_made (k i u a : Int) (s : ByteArray) (h : opB k i u a s = true) : madeB i = true := by
  unfold opB at h
  simp only [Bool.and_eq_true] at h
  exact h.1
theorem who_made (i : Int) (h : madeB i = true) : ownI i - 1 = wrap64 (Int.tdiv i 10) := by
  obtain ⟨h0, h1⟩ := made_small i h
  obtain ⟨n, rfl⟩ : ∃ n : Nat, i = n := ⟨i.toNat, by omega⟩
  rw [tdiv_wrap _ ⟨by omega, by omega⟩]
  exact small_who n (by omega) h
theorem ent_f (e : S56) (h : wfE e) : Ev (fun n => impl_EntryOk.f n e.f0 e.f1 e.f2.f0 e.f2.f1 e.f2.f2 e.f2.f3 e.f2.f4) (entB e) := by
  obtain ⟨h0, h1, h2, h3, h4, h5, h6⟩ := h
  unfold impl_EntryOk.f impl_whoOk.f entB
  by_cases a1 : e.f0 ≥ 1
  · simp only [a1, if_true, Option.bind_some, ge_iff_le, decide_true, Bool.true_and]
    cases a2 : decide (e.f0 ≤ 3) with
    | false => simp only [Bool.false_eq_true, if_false, Bool.false_and]; exact evnow _
    | true =>
      simp only [if_true, Bool.true_and]
      by_cases a3 : e.f1 < 1
      · have : decide (1 ≤ e.f1) = false := decide_eq_false (by omega)
        simp only [a3, if_true, this, Bool.false_and]; exact evnow _
      · have e3 : decide (1 ≤ e.f1) = true := decide_eq_true (by omega)
        by_cases a4 : e.f1 > 40
        · have : decide (e.f1 ≤ 40) = false := decide_eq_false (by omega)
          simp only [a3, if_false, a4, if_true, this, Bool.and_false, Bool.false_and]; exact evnow _
        · have e4 : decide (e.f1 ≤ 40) = true := decide_eq_true (by omega)
          simp only [a3, if_false, a4, e3, e4, Bool.true_and]
          refine Ev.bind (opOk_f _ _ _ _ _ h6) ?_
          cases ho : opB e.f2.f0 e.f2.f1 e.f2.f2 e.f2.f3 e.f2.f4 with
          | false => simp only [Bool.false_eq_true, if_false, Bool.false_and]; exact evnow _
          | true =>
            simp only [if_true, Bool.true_and]
            have hm := opB_made _ _ _ _ _ ho
            unfold impl_RowWho.f
            have hn : ownI e.f2.f1 ≠ 0 := by
              intro hz
              unfold madeB at hm
              rw [hz] at hm
              simp at hm
            rw [if_neg hn]
            simp only [Option.bind_some]
            by_cases a5 : e.f2.f0 = 1
            · simp only [a5, if_true, ne_eq, not_true, decide_false, Bool.false_or]
              have : (ownI e.f2.f1 - 1 == e.f0) = decide (ownI e.f2.f1 - 1 = e.f0) := by by_cases hq : ownI e.f2.f1 - 1 = e.f0 <;> simp [hq]
              rw [this]; exact evnow _
            · simp only [a5, if_false, ne_eq, not_false_eq_true, decide_true, Bool.true_or]; exact evnow _
  · have : decide (1 ≤ e.f0) = false := decide_eq_false (by omega)
    simp only [a1, if_false, Option.bind_some, Bool.false_eq_true, this, Bool.false_and]; exact evnow _
theorem sent_f (e : S56) (h : wfE e) : Ev (fun n => spec_EntryOk.f n e.f0 e.f1 e.f2.f0 e.f2.f1 e.f2.f2 e.f2.f3 e.f2.f4) (entB e) := by
  obtain ⟨h0, h1, h2, h3, h4, h5, h6⟩ := h
  unfold spec_EntryOk.f entB
  rw [in_f, in_f]
  simp only [Option.bind_some]
  cases (decide (1 ≤ e.f0) && decide (e.f0 ≤ 3)) with
  | false => simp only [Bool.false_eq_true, if_false, Bool.false_and]; exact evnow _
  | true =>
    cases (decide (1 ≤ e.f1) && decide (e.f1 ≤ 40)) with
    | false => simp only [Bool.false_eq_true, if_true, if_false, Bool.true_and, Bool.false_and]; exact evnow _
    | true =>
      simp only [if_true, Bool.true_and]
      refine Ev.bind (sop_f _ _ _ _ _ h3 h4 h5 h6) ?_
      cases ho : opB e.f2.f0 e.f2.f1 e.f2.f2 e.f2.f3 e.f2.f4 with
      | false => simp only [Bool.false_eq_true, if_false, Bool.false_and]; exact evnow _
      | true =>
        simp only [if_true, Bool.true_and]
        have hm := who_made _ (opB_made _ _ _ _ _ ho)
        by_cases a5 : e.f2.f0 = 1
        · simp only [a5, if_true, ne_eq, not_true, decide_false, Bool.false_or]
          have : (wrap64 (Int.tdiv e.f2.f1 10) == e.f0) = decide (ownI e.f2.f1 - 1 = e.f0) := by rw [hm]; by_cases hq : wrap64 (Int.tdiv e.f2.f1 10) = e.f0 <;> simp [hq]
          rw [this]; exact evnow _
        · simp only [a5, if_false, ne_eq, not_false_eq_true, decide_true, Bool.true_or]; exact evnow _
def goB : List S56 → List S56 → Bool
  | _, [] => true
  | pre, e :: rest => entB e && decide (cntE pre e.f0 + 1 = e.f1) && goB (pre ++ [e]) rest
def logB (l : List S56) : Bool := decide (l.length ≤ 40) && goB [] l
def wfL (l : List S56) : Prop := ∀ e ∈ l, wfE e
theorem log_go : ∀ (rest pre : List S56), wfL rest → Ev (fun n => impl_LogOk.go n pre rest) (goB pre rest)
  | [], _, _ => Ev.congr (f := fun _ => some true) (fun n => by unfold impl_LogOk.go; rfl) (evnow _)
  | e :: rest, pre, h => by
    unfold goB
    refine Ev.congr (f := fun k => (impl_EntryOk.f k e.f0 e.f1 e.f2.f0 e.f2.f1 e.f2.f2 e.f2.f3 e.f2.f4).bind fun t => if t = true then (if cntE pre e.f0 + 1 = e.f1 then impl_LogOk.go k (pre ++ [e]) rest else some false) else some false) (fun n => by rw [impl_LogOk.go]) ?_
    refine Ev.bind (ent_f e (h e (List.mem_cons_self))) ?_
    cases entB e with
    | false => simp only [Bool.false_eq_true, if_false, Bool.false_and]; exact evnow _
    | true =>
      simp only [if_true, Bool.true_and]
      by_cases hq : cntE pre e.f0 + 1 = e.f1
      · simp only [hq, if_true, decide_true, Bool.true_and]; exact log_go rest _ (fun x hx => h x (List.mem_cons_of_mem _ hx))
      · simp only [hq, if_false, decide_false, Bool.false_and]; exact evnow _
theorem log_f (l : List S56) (h : wfL l) : Ev (fun n => impl_LogOk.f n l) (logB l) := by
  unfold impl_LogOk.f logB
  by_cases h40 : (l.length : Int) > 40
  · refine ev_pos h40 ?_
    have : decide (l.length ≤ 40) = false := decide_eq_false (by omega)
    rw [this, Bool.false_and]; exact evnow _
  · refine ev_neg h40 ?_
    have : decide (l.length ≤ 40) = true := decide_eq_true (by omega)
    rw [this, Bool.true_and]; exact log_go l [] h
theorem rdE_get (l : List S56) (i : Nat) (h : i < l.length) : rd_T56 l i = l[i] := by
  unfold rd_T56
  rw [List.getD_eq_getElem?_getD, show ((i : Int)).toNat = i from rfl, List.getElem?_eq_getElem h]
  rfl
theorem seq_l0 (l : List S56) (who : Int) (hl : l.length ≤ 281474976710656) : ∀ (n : Nat) (i : Nat) (c : Int), i + n = l.length → 0 ≤ c → c ≤ i → Ev (fun k => spec_l12Seq.l0 k l who c i) (c + cntE (l.drop i) who)
  | 0, i, c, h, h0, h1 => by
    refine Ev.step (f := fun _ => some c) (fun k => ?_) ?_
    · simp only [spec_l12Seq.l0]; rw [if_neg (by omega)]
    · have : c + cntE (l.drop i) who = c := by rw [List.drop_eq_nil_of_le (by omega)]; unfold cntE; simp
      rw [this]; exact evnow _
  | n + 1, i, c, h, h0, h1 => by
    have hi : i < l.length := by omega
    have hd := List.drop_eq_getElem_cons hi
    have hc : cntE (l.drop i) who = cntE (l.drop (i + 1)) who + (if l[i].f0 = who then 1 else 0) := by
      rw [hd]
      unfold cntE
      rw [List.countP_cons]
      by_cases hq : l[i].f0 = who <;> simp [hq]
    rw [hc]
    by_cases hq : l[i].f0 = who
    · rw [if_pos hq, show c + (cntE (l.drop (i + 1)) who + 1) = (c + 1) + cntE (l.drop (i + 1)) who by omega]
      refine Ev.step (fun k => ?_) (seq_l0 l who hl n (i + 1) (c + 1) (by omega) (by omega) (by omega))
      simp only [spec_l12Seq.l0]
      rw [if_pos (by omega), if_pos (by omega), rdE_get l i hi, if_pos hq, wrapS i (by omega) (by omega), wrapS c (by omega) (by omega)]
      rfl
    · rw [if_neg hq, Int.add_zero]
      refine Ev.step (fun k => ?_) (seq_l0 l who hl n (i + 1) c (by omega) (by omega) (by omega))
      simp only [spec_l12Seq.l0]
      rw [if_pos (by omega), if_pos (by omega), rdE_get l i hi, if_neg hq, wrapS i (by omega) (by omega)]
      rfl
theorem seq_f (l : List S56) (who : Int) (hl : l.length ≤ 281474976710656) : Ev (fun k => spec_l12Seq.f k l who) (cntE l who) := by
  have := seq_l0 l who hl l.length 0 0 (by omega) (by omega) (by omega)
  rw [Int.zero_add] at this
  exact this
theorem slog_l0 (l : List S56) (h : wfL l) (hl : l.length ≤ 281474976710656) : ∀ (n : Nat) (i : Nat), i + n = l.length → Ev (fun k => spec_LogOk.l0 k l i) (goB (l.take i) (l.drop i) && decide (l.length ≤ 40))
  | 0, i, hn => by
    rw [List.drop_eq_nil_of_le (by omega)]
    refine Ev.step (f := fun _ => some (decide ((l.length : Int) ≤ 40))) (fun k => ?_) ?_
    · simp only [spec_LogOk.l0]; rw [if_neg (by omega)]
    · have : decide ((l.length : Int) ≤ 40) = (goB (l.take i) [] && decide (l.length ≤ 40)) := by unfold goB; simp; omega
      rw [this]; exact evnow _
  | n + 1, i, hn => by
    have hi : i < l.length := by omega
    rw [List.drop_eq_getElem_cons hi]
    unfold goB
    rw [← List.take_succ_eq_append_getElem hi]
    refine Ev.step (f := fun k => (spec_EntryOk.f k l[i].f0 l[i].f1 l[i].f2.f0 l[i].f2.f1 l[i].f2.f2 l[i].f2.f3 l[i].f2.f4).bind fun t127 => (if t127 = true then ((spec_l12Seq.f k (l.take i) l[i].f0).bind fun t134 => (if l[i].f1 = (wrap64 (t134 + 1)) then (spec_LogOk.l0 k l ((i + 1 : Nat) : Int)) else (some false))) else (some false))) (fun k => ?_) ?_
    · simp only [spec_LogOk.l0]
      rw [if_pos (by omega), if_pos (by omega), rdE_get l i hi, if_pos (by omega), wrapS i (by omega) (by omega)]
      rfl
    · refine Ev.bind (sent_f _ (h _ (List.getElem_mem hi))) ?_
      cases entB l[i] with
      | false => simp only [Bool.false_eq_true, if_false, Bool.false_and]; exact evnow _
      | true =>
        simp only [if_true, Bool.true_and]
        refine Ev.bind (seq_f (l.take i) l[i].f0 (by rw [List.length_take]; omega)) ?_
        have hcn := cntE_le (l.take i) l[i].f0
        have hw : wrap64 (cntE (l.take i) l[i].f0 + 1) = cntE (l.take i) l[i].f0 + 1 := wrapS _ hcn.1 (by have := hcn.2; rw [List.length_take] at this; omega)
        rw [hw]
        by_cases hq : cntE (l.take i) l[i].f0 + 1 = l[i].f1
        · rw [decide_eq_true hq, Bool.true_and]
          refine ev_pos hq.symm ?_
          exact slog_l0 l h hl n (i + 1) (by omega)
        · rw [decide_eq_false hq, Bool.false_and, Bool.false_and]
          refine ev_neg (fun e => hq e.symm) ?_
          exact evnow _
theorem slog_f (l : List S56) (h : wfL l) (hl : l.length ≤ 281474976710656) : Ev (fun k => spec_LogOk.f k l) (logB l) := by
  have := slog_l0 l h hl l.length 0 (by omega)
  unfold logB
  rw [Bool.and_comm]
  exact this
theorem logB_len {l : List S56} (h : logB l = true) : l.length ≤ 40 := by
  unfold logB at h
  simp only [Bool.and_eq_true, decide_eq_true_eq] at h
  exact h.1
end Go.Proofs.YtnclcbjagleoeaaDoor.PL
set_option linter.unusedVariables false
set_option linter.unusedSimpArgs false
namespace Go.Proofs.YtnclcbjagleoeaaDoor.PL
open Go.RowKit Go.Proofs.YtnclcbjagleoeaaDoor.P Go.Proofs.YtnclcbjagleoeaaDoorW.PrintWords Go.Proofs.YtnclcbjagleoeaaDoorW.PrintLast
theorem one_size (xs : List Int) : (strOfNums xs).size = xs.length := by simp [strOfNums, ByteArray.size]
theorem mtl_ex (m : Nat) : ∀ (x : Int) (s : ByteArray), x < 10 ^ m → x ≤ 9223372036854775807 → s.size + m + 1 ≤ 9223372036854775807 → ∃ r, Ev (fun k => laws_markText.l0 k x s) r := by
  induction m with
  | zero =>
    intro x s hx _ hs
    refine ⟨_, Ev.step (f := fun _ => some ((⟨#[109]⟩ : ByteArray) ++ s)) (fun k => ?_) (evnow _)⟩
    simp only [laws_markText.l0]
    rw [if_neg (by simp at hx; omega), if_pos (by omega)]
  | succ m ih =>
    intro x s hx hb hs
    by_cases h0 : x > 0
    · have e : Int.tdiv x 10 = x / 10 := Int.tdiv_eq_ediv_of_nonneg (by omega)
      have e2 : wrap64 (Int.tdiv x 10) = x / 10 := by rw [e]; unfold wrap64; omega
      have e3 : (10 : Int) ^ (m + 1) = 10 ^ m * 10 := Int.pow_succ 10 m
      obtain ⟨r, hr⟩ := ih (wrap64 (Int.tdiv x 10)) ((strOfNums [(wrap64 (48 + (Int.tmod x 10))) % 256]) ++ s) (by rw [e2]; omega) (by rw [e2]; omega) (by rw [ByteArray.size_append, one_size]; simp; omega)
      refine ⟨r, Ev.step (fun k => ?_) hr⟩
      simp only [laws_markText.l0, Option.bind_some]
      rw [if_pos h0, if_pos (by rw [one_size]; simp; omega)]
    · refine ⟨_, Ev.step (f := fun _ => some ((⟨#[109]⟩ : ByteArray) ++ s)) (fun k => ?_) (evnow _)⟩
      simp only [laws_markText.l0]
      rw [if_neg h0, if_pos (by omega)]
theorem mt_ex (x : Int) (h : x ≤ 4611686018427387904) : ∃ r, Ev (fun k => laws_markText.f k x) r := by
  by_cases h0 : x ≤ 0
  · exact ⟨(⟨#[109, 48]⟩ : ByteArray), Ev.congr (f := fun _ => some (⟨#[109, 48]⟩ : ByteArray)) (fun k => by simp only [laws_markText.f]; rw [if_pos h0]) (evnow _)⟩
  · obtain ⟨r, hr⟩ := mtl_ex 19 x ⟨#[]⟩ (by omega) (by omega) (by decide)
    exact ⟨r, Ev.congr (fun k => by simp only [laws_markText.f]; rw [if_neg h0]) hr⟩
open Classical in
/-- The text of a number. -/
noncomputable def mt (x : Int) : ByteArray := if h : x ≤ 4611686018427387904 then (mt_ex x h).choose else ⟨#[]⟩
theorem mt_ev (x : Int) (h : x ≤ 4611686018427387904) : Ev (fun k => laws_markText.f k x) (mt x) := by
  unfold mt
  rw [dif_pos h]
  exact (mt_ex x h).choose_spec

theorem take_set_next {α : Type} (x : List α) (i : Int) (v : α) (h0 : 0 ≤ i) (h : i < x.length) : (x.set i.toNat v).take (i + 1).toNat = x.take i.toNat ++ [v] := by
  have e : (i + 1).toNat = i.toNat + 1 := by omega
  have hl : i.toNat < (x.set i.toNat v).length := by rw [List.length_set]; omega
  rw [e, List.take_succ_eq_append_getElem hl, List.getElem_set_self]
  congr 1
  rw [List.take_set_of_le (Nat.le_refl _)]
theorem set_set_ {α : Type} (x : List α) (i : Nat) (v u : α) : (x.set i v).set i u = x.set i u := by rw [List.set_set]
noncomputable def mkE (a : Int) : S56 := ⟨a, a + 1, ⟨a + 2, a + 3, a + 4, a + 5, mt (a + 6)⟩⟩
noncomputable def marksE : Int → Nat → List S56
  | _, 0 => []
  | a, n + 1 => mkE a :: marksE (a + 7) n
theorem marksE_len : ∀ (n : Nat) (a : Int), (marksE a n).length = n
  | 0, _ => rfl
  | n + 1, a => by rw [marksE, List.length_cons, marksE_len n]
theorem rdE_set (x : List S56) (i : Int) (v : S56) (h0 : 0 ≤ i) (h : i < x.length) : rd_T56 (x.set i.toNat v) i = v := by
  unfold rd_T56
  rw [List.getD_eq_getElem?_getD, List.getElem?_set_self (by omega)]
  rfl
theorem markE_ev (d : Nat) : ∀ (x : List S56) (a i : Int), 0 ≤ i → (x.length : Int) - i = d → x.length ≤ 1099511627776 → 0 ≤ a → a + 7 * d ≤ 1152921504606846976 →
    Ev (fun k => laws_markEntryS.l0 k x a i) (a + 7 * d, x.take i.toNat ++ marksE a d) := by
  induction d with
  | zero =>
    intro x a i h0 hd hl ha hb
    refine Ev.step (f := fun _ => some (a, x)) (fun k => ?_) ?_
    · simp only [laws_markEntryS.l0]; rw [if_neg (by omega)]
    · rw [List.take_of_length_le (by omega)]; simp only [marksE, List.append_nil]
      rw [show a + 7 * ((0 : Nat) : Int) = a by omega]; exact evnow _
  | succ d ih =>
    intro x a i h0 hd hl ha hb
    have hi : i < (x.length : Int) := by omega
    have e1 : wrap64 (a + 1) = a + 1 := wrapS a ha (by omega)
    have e2 : wrap64 (a + 1 + 1) = a + 2 := by rw [wrapS _ (by omega) (by omega)]; omega
    have e3 : wrap64 (a + 2 + 1) = a + 3 := by rw [wrapS _ (by omega) (by omega)]; omega
    have e4 : wrap64 (a + 3 + 1) = a + 4 := by rw [wrapS _ (by omega) (by omega)]; omega
    have e5 : wrap64 (a + 4 + 1) = a + 5 := by rw [wrapS _ (by omega) (by omega)]; omega
    have e6 : wrap64 (a + 5 + 1) = a + 6 := by rw [wrapS _ (by omega) (by omega)]; omega
    have e7 : wrap64 (a + 6 + 1) = a + 7 := by rw [wrapS _ (by omega) (by omega)]; omega
    have ei : wrap64 (i + 1) = i + 1 := wrapS i h0 (by omega)
    have H := ih (x.set i.toNat (mkE a)) (a + 7) (i + 1) (by omega) (by rw [List.length_set]; omega) (by rw [List.length_set]; omega) (by omega) (by omega)
    rw [take_set_next x i _ h0 hi, show a + 7 + 7 * (d : Int) = a + 7 * ((d + 1 : Nat) : Int) by omega, List.append_assoc] at H
    refine Ev.step (f := fun k => (laws_markText.f k (a + 6)).bind fun t => laws_markEntryS.l0 k (x.set i.toNat ⟨a, a + 1, ⟨a + 2, a + 3, a + 4, a + 5, t⟩⟩) (a + 7) (i + 1)) (fun k => ?_) (Ev.bind (mt_ev _ (by omega)) H)
    simp only [laws_markEntryS.l0, if_pos hi, if_pos h0, Option.bind_some, set_set_, rdE_set _ _ _ h0 hi, e1, e2, e3, e4, e5, e6, e7, ei]
theorem heldE_ev (d : Nat) : ∀ (x : List S56) (a i : Int), 0 ≤ i → (x.length : Int) - i = d → x.length ≤ 1099511627776 → 0 ≤ a → a + 7 * d ≤ 1152921504606846976 → x.drop i.toNat = marksE a d →
    Ev (fun k => laws_heldEntryS.l0 k x a i) (a + 7 * d) := by
  induction d with
  | zero =>
    intro x a i h0 hd hl ha hb he
    refine Ev.step (f := fun _ => some a) (fun k => ?_) ?_
    · simp only [laws_heldEntryS.l0]; rw [if_neg (by omega)]
    · rw [show a + 7 * ((0 : Nat) : Int) = a by omega]; exact evnow _
  | succ d ih =>
    intro x a i h0 hd hl ha hb he
    have hi : i < (x.length : Int) := by omega
    have e1 : wrap64 (a + 1) = a + 1 := wrapS a ha (by omega)
    have e2 : wrap64 (a + 1 + 1) = a + 2 := by rw [wrapS _ (by omega) (by omega)]; omega
    have e3 : wrap64 (a + 2 + 1) = a + 3 := by rw [wrapS _ (by omega) (by omega)]; omega
    have e4 : wrap64 (a + 3 + 1) = a + 4 := by rw [wrapS _ (by omega) (by omega)]; omega
    have e5 : wrap64 (a + 4 + 1) = a + 5 := by rw [wrapS _ (by omega) (by omega)]; omega
    have e6 : wrap64 (a + 5 + 1) = a + 6 := by rw [wrapS _ (by omega) (by omega)]; omega
    have e7 : wrap64 (a + 6 + 1) = a + 7 := by rw [wrapS _ (by omega) (by omega)]; omega
    have ei : wrap64 (i + 1) = i + 1 := wrapS i h0 (by omega)
    have hn : i.toNat < x.length := by omega
    have hc := List.drop_eq_getElem_cons hn
    rw [he, marksE] at hc
    have hx : rd_T56 x i = mkE a := by
      unfold rd_T56
      rw [List.getD_eq_getElem?_getD, List.getElem?_eq_getElem hn]
      exact (List.cons.inj hc).1.symm
    have H := ih x (a + 7) (i + 1) (by omega) (by omega) hl (by omega) (by omega) (by rw [show (i + 1).toNat = i.toNat + 1 by omega]; exact (List.cons.inj hc).2.symm)
    rw [show a + 7 + 7 * (d : Int) = a + 7 * ((d + 1 : Nat) : Int) by omega] at H
    refine Ev.step (f := fun k => (laws_markText.f k (a + 6)).bind fun t => if (mt (a + 6)).toList = t.toList then laws_heldEntryS.l0 k x (a + 7) (i + 1) else some (-1)) (fun k => ?_) (Ev.bind (mt_ev _ (by omega)) (Ev.congr (fun k => if_pos rfl) H))
    simp only [laws_heldEntryS.l0]
    rw [if_pos hi, if_pos h0, e1, e2, e3, e4, e5, e6, e7, ei, hx]
    simp only [mkE, if_true]
    rfl
theorem markE_f (x : List S56) (a : Int) (hl : x.length ≤ 1099511627776) (ha : 0 ≤ a) (hb : a ≤ 1125899906842624) :
    Ev (fun k => laws_markEntryS.f k x a) (a + 7 * x.length, marksE a x.length) := by
  have h := markE_ev x.length x a 0 (by omega) (by omega) hl ha (by omega)
  simp only [Int.toNat_zero, List.take_zero, List.nil_append] at h
  exact h
theorem heldE_f (n : Nat) (a : Int) (hl : n ≤ 1099511627776) (ha : 0 ≤ a) (hb : a ≤ 1125899906842624) :
    Ev (fun k => laws_heldEntryS.f k (marksE a n) a) (a + 7 * n) :=
  heldE_ev n (marksE a n) a 0 (by omega) (by rw [marksE_len]; omega) (by rw [marksE_len]; exact hl) ha (by omega) rfl
theorem eqOp_refl (a b c d : Int) (e : ByteArray) : laws_eqOp.f a b c d e a b c d e = some true := by simp [laws_eqOp.f]
theorem eqEntry_refl (x y a b c d : Int) (e : ByteArray) : laws_eqEntry.f x y a b c d e x y a b c d e = some true := by simp [laws_eqEntry.f, eqOp_refl]
theorem eqE_ev (d : Nat) : ∀ (x : List S56) (i : Int), 0 ≤ i → (x.length : Int) - i = d → x.length ≤ 1099511627776 → Ev (fun k => laws_eqEntryS.l0 k x x i) true := by
  induction d with
  | zero =>
    intro x i h0 hd hl
    refine Ev.step (f := fun _ => some true) (fun k => ?_) (evnow _)
    simp only [laws_eqEntryS.l0]; rw [if_neg (by omega)]
  | succ d ih =>
    intro x i h0 hd hl
    have hi : i < (x.length : Int) := by omega
    refine Ev.step (fun k => ?_) (ih x (i + 1) (by omega) (by omega) hl)
    simp only [laws_eqEntryS.l0, if_pos hi, if_pos h0, eqEntry_refl, Option.bind_some, if_true, wrapS i h0 (by omega)]
theorem eqE (x : List S56) (hl : x.length ≤ 1099511627776) : Ev (fun k => laws_eqEntryS.f k x x) true :=
  Ev.congr (fun k => by simp only [laws_eqEntryS.f, if_true]) (eqE_ev x.length x 0 (by omega) (by omega) hl)
end Go.Proofs.YtnclcbjagleoeaaDoor.PL
set_option linter.unusedVariables false
set_option linter.unusedSimpArgs false
namespace Go.Proofs.YtnclcbjagleoeaaDoor.PL
open Go.RowKit Go.Proofs.YtnclcbjagleoeaaDoor.P Go.Proofs.YtnclcbjagleoeaaDoorW.PrintWords Go.Proofs.YtnclcbjagleoeaaDoorW.PrintLast
def conv (e : S51) : S56 := ⟨e.f0, e.f1, ⟨e.f2.f0, e.f2.f1, e.f2.f2, e.f2.f3, e.f2.f4⟩⟩
def wfX (e : S51) : Prop := I64 e.f0 ∧ I64 e.f1 ∧ I64 e.f2.f0 ∧ I64 e.f2.f1 ∧ I64 e.f2.f2 ∧ I64 e.f2.f3 ∧ e.f2.f4.size ≤ 9223372036854775807
theorem rdX_get (l : List S51) (i : Nat) (h : i < l.length) : rd_T51 l i = l[i] := by
  unfold rd_T51
  rw [List.getD_eq_getElem?_getD, show ((i : Int)).toNat = i from rfl, List.getElem?_eq_getElem h]
  rfl
theorem wf_conv {l : List S51} (h : ∀ e ∈ l, wfX e) : wfL (l.map conv) := by
  intro e he
  obtain ⟨x, hx, rfl⟩ := List.mem_map.1 he
  exact h x hx
theorem sz_l0 (l : List S51) (hw : ∀ e ∈ l, wfX e) (hl : l.length ≤ 1099511627776) : ∀ (n : Nat) (i : Nat) (b : Int), i + n = l.length → 0 ≤ b → b ≤ 1048576 → ∃ r : Int, Ev (fun k => laws_szEntryS.l0 k l b i) r
  | 0, i, b, h, h0, h1 => ⟨b, Ev.step (f := fun _ => some b) (fun k => by simp only [laws_szEntryS.l0]; rw [if_neg (by omega)]) (evnow _)⟩
  | n + 1, i, b, h, h0, h1 => by
    have hi : i < l.length := by omega
    obtain ⟨_, _, _, _, _, _, hs⟩ := hw _ (List.getElem_mem hi)
    have hww : wrap64 (b - (l[i].f2.f4.size : Int)) = b - l[i].f2.f4.size := by unfold wrap64; omega
    by_cases hb : b - (l[i].f2.f4.size : Int) < 0
    · refine ⟨-1, Ev.step (f := fun _ => some (-1)) (fun k => ?_) (evnow _)⟩
      simp only [laws_szEntryS.l0]
      rw [if_pos (by omega), if_pos (by omega), rdX_get l i hi]
      simp only [laws_szEntry.f, laws_szOp.f, hww]
      rw [if_pos hb]
      rfl
    · obtain ⟨r, hr⟩ := sz_l0 l hw hl n (i + 1) (b - l[i].f2.f4.size) (by omega) (by omega) (by omega)
      refine ⟨r, Ev.step (fun k => ?_) hr⟩
      simp only [laws_szEntryS.l0]
      rw [if_pos (by omega), if_pos (by omega), rdX_get l i hi]
      simp only [laws_szEntry.f, laws_szOp.f, hww]
      rw [if_neg hb]
      simp only [Option.bind_some]
      rw [if_neg hb]
      simp only [Option.bind_some]
      rw [if_neg hb, wrapS i (by omega) (by omega)]
      rfl
/-- The budget of a server; where it is not overdrawn, there are at most 2^20 entries. -/
theorem sz_f (l : List S51) (s : Int) (u : Bool) (hw : ∀ e ∈ l, wfX e) (hl : l.length ≤ 9223372036854775807) : ∃ r : Int, Ev (fun k => laws_szServer.f k l s u 1048576) r ∧ (¬ r < 0 → l.length ≤ 1048576) := by
  unfold laws_szServer.f laws_szEntryS.f
  have hww : wrap64 (1048576 - (l.length : Int)) = 1048576 - l.length := by unfold wrap64; omega
  rw [hww]
  by_cases hb : 1048576 - (l.length : Int) < 0
  · refine ⟨-1, ?_, fun h => absurd (by decide) h⟩
    simp only [hb, if_true, Option.bind_some]
    exact evnow _
  · obtain ⟨r, hr⟩ := sz_l0 l hw (by omega) l.length 0 (1048576 - l.length) (by omega) (by omega) (by omega)
    simp only [hb, if_false]
    by_cases h2 : r < 0
    · refine ⟨-1, Ev.bind hr ?_, fun h => absurd (by decide) h⟩
      simp only [h2, if_true]
      exact evnow _
    · refine ⟨r, Ev.bind hr ?_, fun _ => by omega⟩
      simp only [h2, if_false]
      exact evnow _
theorem to_l0 (l : List S51) (hl : l.length ≤ 1099511627776) : ∀ (n : Nat) (i : Nat) (x : List S56), i + n = l.length → x.length = l.length → x.take i = (l.take i).map conv → Ev (fun k => laws_toEntryS.l0 k l x i) (l.map conv)
  | 0, i, x, h, hx, ht => by
    refine Ev.step (f := fun _ => some x) (fun k => ?_) ?_
    · simp only [laws_toEntryS.l0]; rw [if_neg (by omega)]
    · rw [List.take_of_length_le (by omega), List.take_of_length_le (by omega)] at ht
      rw [ht]; exact evnow _
  | n + 1, i, x, h, hx, ht => by
    have hi : i < l.length := by omega
    refine Ev.step (fun k => ?_) (to_l0 l hl n (i + 1) (x.set i (conv l[i])) (by omega) (by rw [List.length_set]; exact hx) ?_)
    · simp only [laws_toEntryS.l0]
      rw [if_pos (by omega), if_pos (by omega), rdX_get l i hi]
      simp only [laws_toEntry.f, laws_toOp.f, Option.bind_some]
      rw [if_pos (by omega), wrapS i (by omega) (by omega)]
      rfl
    · have := take_set_next x (i : Int) (conv l[i]) (by omega) (by omega)
      simp only [Int.toNat_natCast] at this
      rw [show ((i : Int) + 1).toNat = i + 1 by omega] at this
      rw [this, ht, List.take_succ_eq_append_getElem hi, List.map_append]
      rfl
theorem to_f (l : List S51) (s : Int) (u : Bool) (hl : l.length ≤ 1048576) : Ev (fun k => laws_toServer.f k l s u) (l.map conv, s, u) := by
  unfold laws_toServer.f laws_toEntryS.f
  refine Ev.bind (a := l.map conv) ?_ (evnow _)
  refine ev_pos (by omega) (ev_pos (by omega) ?_)
  exact to_l0 l (by omega) l.length 0 _ (by omega) (by simp) (by simp)
def srvB (l : List S56) (s : Int) : Bool := logB l && (decide (0 ≤ s) && decide (s ≤ (l.length : Int)))
theorem srv_f (l : List S56) (s : Int) (u : Bool) (h : wfL l) : Ev (fun k => impl_ServerOk.f k l s u) (srvB l s) := by
  unfold impl_ServerOk.f srvB
  refine Ev.bind (log_f l h) ?_
  cases logB l with
  | false => simp only [Bool.false_eq_true, if_false, Bool.false_and]; exact evnow _
  | true =>
    simp only [if_true, Bool.true_and]
    by_cases hs : s ≥ 0
    · have : decide (0 ≤ s) = true := decide_eq_true hs
      rw [if_pos hs, this, Bool.true_and]; exact evnow _
    · have : decide (0 ≤ s) = false := decide_eq_false hs
      rw [if_neg hs, this, Bool.false_and]; exact evnow _
theorem ssrv_f (l : List S56) (s : Int) (u : Bool) (h : wfL l) (hl : l.length ≤ 281474976710656) : Ev (fun k => spec_ServerOk.f k l s u) (srvB l s) := by
  unfold spec_ServerOk.f srvB
  refine Ev.bind (slog_f l h hl) ?_
  cases logB l with
  | false => simp only [Bool.false_eq_true, if_false, Bool.false_and]; exact evnow _
  | true =>
    simp only [if_true, Bool.true_and, in_f, Option.bind_some]
    exact evnow _
theorem srvB_true {l : List S56} {s : Int} (h : srvB l s = true) : l.length ≤ 40 ∧ 0 ≤ s ∧ s ≤ l.length := by
  unfold srvB at h
  simp only [Bool.and_eq_true, decide_eq_true_eq] at h
  exact ⟨logB_len h.1, h.2.1, h.2.2⟩
theorem eqS_f (l : List S56) (s : Int) (u : Bool) (hl : l.length ≤ 1099511627776) : Ev (fun k => laws_eqServer.f k l s u l s u) true := by
  unfold laws_eqServer.f
  refine Ev.bind (eqE l hl) ?_
  simp only [if_true, bne_self_eq_false, Bool.false_eq_true, if_false]
  exact evnow _
theorem markS_f (l : List S56) (s : Int) (u : Bool) (a : Int) (hl : l.length ≤ 1099511627776) (ha : 0 ≤ a) (hb : a ≤ 1125899906842624) : Ev (fun k => laws_markServer.f k l s u a) (a + 7 * l.length, marksE a l.length) := by
  unfold laws_markServer.f
  exact Ev.bind (markE_f l a hl ha hb) (evnow _)
end Go.Proofs.YtnclcbjagleoeaaDoor.PL
set_option linter.unusedVariables false
set_option linter.unusedSimpArgs false
namespace Go.Proofs.YtnclcbjagleoeaaDoor.PL
open Go.RowKit Go.Proofs.YtnclcbjagleoeaaDoor.P Go.Proofs.YtnclcbjagleoeaaDoorW.PrintWords Go.Proofs.YtnclcbjagleoeaaDoorW.PrintLast
def syncV (l : List S56) (s : Int) (u : Bool) : List S56 × Int × Bool × Bool :=
  if srvB l s = true then (if u = true then (l, (l.length : Int), true, true) else (l, s, false, false)) else ([], 0, false, false)
theorem sync_f (l : List S56) (s : Int) (u : Bool) (h : wfL l) : Ev (fun k => impl_ServerSync.f k l s u) (syncV l s u) := by
  unfold impl_ServerSync.f syncV
  refine Ev.bind (srv_f l s u h) ?_
  cases hs : srvB l s with
  | false => simp only [Bool.false_eq_true, if_false]; exact evnow _
  | true =>
    obtain ⟨hl, _, _⟩ := srvB_true hs
    simp only [if_true]
    rw [if_pos (show l.length < 2199023255552 by omega)]
    cases u with
    | false => simp only [Bool.false_eq_true, if_false]; exact evnow _
    | true => simp only [if_true]; exact evnow _
theorem copy_f (l : List S56) (s : Int) (u : Bool) (hl : l.length ≤ 40) : spec_l13Copy.f l s u = some (l, s, u) := by
  unfold spec_l13Copy.f
  simp only [Option.bind_some, List.length_nil, List.nil_append]
  rw [if_pos (by omega)]
theorem ssync_f (l : List S56) (s : Int) (u : Bool) (h : wfL l) (hl : l.length ≤ 281474976710656) : Ev (fun k => spec_ServerSync.f k l s u) (syncV l s u) := by
  unfold spec_ServerSync.f syncV
  refine Ev.bind (ssrv_f l s u h hl) ?_
  cases hs : srvB l s with
  | false => simp only [Bool.false_eq_true, if_false]; exact evnow _
  | true =>
    obtain ⟨hl, _, _⟩ := srvB_true hs
    simp only [if_true, copy_f l s u hl, Option.bind_some]
    cases u with
    | false => simp only [Bool.false_eq_true, if_false]; exact evnow _
    | true => simp only [if_true]; exact evnow _
theorem heldS_f (n : Nat) (s : Int) (u : Bool) (a : Int) (hl : n ≤ 1099511627776) (ha : 0 ≤ a) (hb : a ≤ 1125899906842624) : Ev (fun k => laws_heldServer.f k (marksE a n) s u a) (a + 7 * n) := by
  unfold laws_heldServer.f
  refine Ev.bind (heldE_f n a hl ha hb) ?_
  refine ev_neg (by omega) ?_
  exact evnow _
theorem ev_true {α : Type} {g : Nat → Option α} {r : α} (h : Ev g r) : ∃ k, g k = some r := by
  obtain ⟨K, h⟩ := h
  exact ⟨K, h K (Nat.le_refl K)⟩
theorem FnExactServerSync (l : List S51) (s : Int) (u : Bool) (hw : ∀ e ∈ l, wfX e) (hl : l.length ≤ 9223372036854775807) : ∃ k, laws_FnExactServerSync.f k l s u = some true := by
  refine ev_true ?_
  obtain ⟨r, hr, hb⟩ := sz_f l s u hw hl
  unfold laws_FnExactServerSync.f
  refine Ev.bind hr ?_
  by_cases h0 : r < 0
  · refine ev_pos h0 (evnow _)
  · refine ev_neg h0 ?_
    have hlen := hb h0
    have hT := to_f l s u hlen
    have hW := wf_conv hw
    have hcl : (l.map conv).length ≤ 1099511627776 := by rw [List.length_map]; omega
    have hn : (syncV (l.map conv) s u).1.length ≤ 1099511627776 := by unfold syncV; split; · split <;> exact hcl
                                                                      · simp
    have hn2 : ¬ ((1 : Int) + 7 * ((syncV (l.map conv) s u).1.length : Int) < 0) := by omega
    have hn3 : ¬ ((1 : Int) + 7 * ((l.map conv).length : Int) < 0) := by omega
    refine Ev.bind hT ?_
    refine Ev.bind (ssync_f _ s u hW (by rw [List.length_map]; omega)) ?_
    refine Ev.bind hT ?_
    refine Ev.bind (sync_f _ s u hW) ?_
    refine Ev.bind (eqS_f _ _ _ hn) ?_
    refine ev_pos rfl ?_
    refine ev_neg (by simp) ?_
    refine Ev.bind hT ?_
    refine Ev.bind (eqS_f _ s u hcl) ?_
    refine ev_pos rfl ?_
    refine Ev.bind (markS_f _ s u 1 hcl (by omega) (by omega)) ?_
    refine ev_neg hn3 ?_
    refine Ev.bind (eqS_f _ _ _ hn) ?_
    refine ev_pos rfl ?_
    refine Ev.bind (markS_f _ _ _ 1 hn (by omega) (by omega)) ?_
    refine Ev.bind (heldS_f _ _ _ 1 hn (by omega) (by omega)) ?_
    refine ev_neg hn2 ?_
    refine ev_pos rfl ?_
    refine Ev.bind hT ?_
    refine Ev.bind (sync_f _ s u hW) ?_
    refine Ev.bind (eqS_f _ _ _ hn) ?_
    refine ev_pos rfl ?_
    refine ev_neg (by simp) ?_
    refine Ev.bind (heldS_f _ _ _ 1 hn (by omega) (by omega)) ?_
    refine ev_neg hn2 ?_
    exact ev_pos rfl (evnow _)
end Go.Proofs.YtnclcbjagleoeaaDoor.PL
namespace Go.Proofs.YtnclcbjagleoeaaDoor.P
open Go.ChangeShapes Go.WideShapes Go.ChangeAt Go.RowKit
theorem tOwners : (Tryd.prog.globals[0]?).map (·.type) = some 117 := by kernel_rfl
theorem cOwners : Tryd.prog.cellsOf 117 = 37 := by kernel_rfl
theorem cInt : Tryd.prog.cellsOf 3 = 1 := by kernel_rfl
abbrev ownCells : Array Value := (owners.map fun z => Value.int .i64 z).toArray
theorem glob_of_laid {W : World} (h : laidMet Tryd.prog [("loop.example/plashet/impl.rowOwners", Rows.laid_loop_example_plashet_impl_rowOwners)] W) : Glob W :=
  Lib.tabIs_of_head gOwners tOwners Tryd.underlying117 Tryd.underlying3 cInt cOwners h
theorem door_met (os : Os) (args : Array Value) : laidMet Tryd.prog [("loop.example/plashet/impl.rowOwners", Rows.laid_loop_example_plashet_impl_rowOwners)] ((World.doorLaid Tryd.prog 400 os).forCall (fun _ _ => 0) ⟨#[], args, []⟩).memory :=
  laidMet_of_run' 8 (by kernel_rfl) (by kernel_rfl)
abbrev tableH {H : Type} : DataW H := .agg (owners.map fun z => .lit (.int .i64 z))
theorem reads_table {H : Type} (enc : TypeId × Value → H) (W : World) (sp : Nat → Bool) : DataW.trod enc Tryd.prog W 0 sp true 3 117 ownCells.toList = some (tableH, []) := by kernel_rfl
theorem tab_vars {H : Type} (enc : TypeId × Value → H) {W : World} (h : Glob W) {sp : Nat → Bool} : DataW.TrodVars enc Tryd.prog W sp ["loop.example/plashet/impl.rowOwners"] [tableH] (MemPlace.row ⟨0, 0, none⟩ ownCells.size ++ [] ++ []) :=
  ⟨0, 117, ownCells, 3, [], [], gOwners, tOwners, h, reads_table enc W sp, rfl, rfl⟩
end Go.Proofs.YtnclcbjagleoeaaDoor.P
set_option linter.unusedVariables false
set_option linter.unusedSimpArgs false
namespace Go.Proofs.YtnclcbjagleoeaaDoor.PL
open Go.ChangeShapes Go.WideShapes Go.ChangeAt Go.RowKit Go.Deep Go.Joins Go.Proofs.YtnclcbjagleoeaaDoor.P Go.Proofs.YtnclcbjagleoeaaDoorW.PrintWords Go.Proofs.YtnclcbjagleoeaaDoorW.PrintLast
set_option maxRecDepth 100000
section
variable {H : Type} {enc : TypeId × Value → H} {w : World} {base : Nat} {sp : Nat → Bool} {held : Bool}
theorem cO : Tryd.prog.cellsOf 49 = 5 := by kernel_rfl
theorem cX : Tryd.prog.cellsOf 51 = 7 := by kernel_rfl
theorem cS : Tryd.prog.cellsOf 9 = 1 := by kernel_rfl
theorem i64_of {n : Int} (h : (Lit.int .i64 n).wf = true) : I64 n := by
  simp only [Lit.wf, Bool.and_eq_true, decide_eq_true_eq] at h
  obtain ⟨h1, h2⟩ := h
  exact ⟨h1, h2⟩
/-- A field of one whole number. -/
theorem fld_int {n o : Nat} {cs : List Value} {y : DataW H × List MemPlace} (h : DataW.trod enc Tryd.prog w base sp held n 3 ((cs.drop o).take (Tryd.prog.cellsOf 3)) = some y) : ∃ a : Int, cs[o]? = some (.int .i64 a) ∧ I64 a := by
  obtain ⟨a, e, _, hw⟩ := DataW.trod_int Tryd.underlying3 h
  refine ⟨a, ?_, i64_of hw⟩
  rw [cInt] at e
  have := congrArg (·[0]?) e
  simpa [List.getElem?_take, List.getElem?_drop] using this
theorem fld_str {n o : Nat} {cs : List Value} {y : DataW H × List MemPlace} (h : DataW.trod enc Tryd.prog w base sp held n 9 ((cs.drop o).take (Tryd.prog.cellsOf 9)) = some y) : ∃ s : ByteArray, cs[o]? = some (.string s) ∧ s.size ≤ 9223372036854775807 := by
  obtain ⟨s, e, _, hw⟩ := DataW.trod_string Tryd.underlying9 h
  refine ⟨s, ?_, hw⟩
  rw [cS] at e
  have := congrArg (·[0]?) e
  simpa [List.getElem?_take, List.getElem?_drop] using this
theorem open_op {fuel : Nat} {cs : List Value} {y : DataW H × List MemPlace} (h : DataW.trod enc Tryd.prog w base sp held fuel 49 cs = some y) :
    ∃ (a b c d : Int) (s : ByteArray), cs = [.int .i64 a, .int .i64 b, .int .i64 c, .int .i64 d, .string s] ∧ I64 a ∧ I64 b ∧ I64 c ∧ I64 d ∧ s.size ≤ 9223372036854775807 := by
  obtain ⟨xs, n, _, _, hl, hlen, hf⟩ := DataW.trod_struct Tryd.underlying49 h
  rw [cO] at hl
  match xs, hlen, hf with
  | [y0, y1, y2, y3, y4], _, hf =>
    obtain ⟨a, e0, w0⟩ := fld_int (o := 0) (hf 0 _ rfl)
    obtain ⟨b, e1, w1⟩ := fld_int (o := 1) (hf 1 _ rfl)
    obtain ⟨c, e2, w2⟩ := fld_int (o := 2) (hf 2 _ rfl)
    obtain ⟨d, e3, w3⟩ := fld_int (o := 3) (hf 3 _ rfl)
    obtain ⟨s, e4, w4⟩ := fld_str (o := 4) (hf 4 _ rfl)
    match cs, hl, e0, e1, e2, e3, e4 with
    | [c0, c1, c2, c3, c4], _, e0, e1, e2, e3, e4 =>
      simp only [List.getElem?_cons_zero, List.getElem?_cons_succ, Option.some.injEq] at e0 e1 e2 e3 e4
      subst e0 e1 e2 e3 e4
      exact ⟨a, b, c, d, s, rfl, w0, w1, w2, w3, w4⟩
theorem open_entry {fuel : Nat} {cs : List Value} {y : DataW H × List MemPlace} (h : DataW.trod enc Tryd.prog w base sp held fuel 51 cs = some y) :
    ∃ e : S51, cs = [.int .i64 e.f0, .int .i64 e.f1, .int .i64 e.f2.f0, .int .i64 e.f2.f1, .int .i64 e.f2.f2, .int .i64 e.f2.f3, .string e.f2.f4] ∧ wfX e := by
  obtain ⟨xs, n, _, _, hl, hlen, hf⟩ := DataW.trod_struct Tryd.underlying51 h
  rw [cX] at hl
  match xs, hlen, hf with
  | [y0, y1, y2], _, hf =>
    obtain ⟨a, e0, w0⟩ := fld_int (o := 0) (hf 0 _ rfl)
    obtain ⟨b, e1, w1⟩ := fld_int (o := 1) (hf 1 _ rfl)
    have h2 : DataW.trod enc Tryd.prog w base sp held n 49 ((cs.drop 2).take (Tryd.prog.cellsOf 49)) = some y2 := hf 2 _ rfl
    obtain ⟨o0, o1, o2, o3, s, e2, u0, u1, u2, u3, u4⟩ := open_op h2
    rw [cO] at e2
    match cs, hl, e0, e1, e2 with
    | [c0, c1, c2, c3, c4, c5, c6], _, e0, e1, e2 =>
      simp only [List.getElem?_cons_zero, List.getElem?_cons_succ, Option.some.injEq] at e0 e1
      subst e0 e1
      simp only [List.drop_succ_cons, List.drop_zero, List.take_succ_cons, List.take_zero, List.cons.injEq, and_true] at e2
      obtain ⟨rfl, rfl, rfl, rfl, rfl⟩ := e2
      exact ⟨⟨a, b, ⟨o0, o1, o2, o3, s⟩⟩, rfl, w0, w1, u0, u1, u2, u3, u4⟩
theorem list_of_all {α : Type} (P : Nat → α → Prop) : ∀ n : Nat, (∀ i, i < n → ∃ e, P i e) → ∃ l : List α, l.length = n ∧ ∀ i e, l[i]? = some e → P i e
  | 0, _ => ⟨[], rfl, fun i e h => by simp at h⟩
  | n + 1, h => by
    obtain ⟨l, hl, hp⟩ := list_of_all P n (fun i hi => h i (by omega))
    obtain ⟨e, he⟩ := h n (by omega)
    refine ⟨l ++ [e], by simp [hl], fun i x hx => ?_⟩
    rcases Nat.lt_or_ge i l.length with hi | hi
    · rw [List.getElem?_append_left hi] at hx
      exact hp i x hx
    · rw [List.getElem?_append_right hi] at hx
      have h0 : i - l.length = 0 := by
        rcases Nat.eq_zero_or_pos (i - l.length) with h0 | h0
        · exact h0
        · rw [List.getElem?_eq_none (by simp; omega)] at hx
          cases hx
      rw [h0] at hx
      simp only [List.getElem?_cons_zero, Option.some.injEq] at hx
      subst hx
      rw [show i = n by omega]
      exact he
/-- A slice of entries, opened. -/
theorem open_entries {fuel : Nat} {cs : List Value} {y : DataW H × List MemPlace} (h : DataW.trod enc Tryd.prog w base sp held fuel 22 cs = some y) :
    ∃ (A : Option Addr) (cap : Nat) (l : List S51), cs = [.slice A l.length cap] ∧ Kd.C k51 w A l.length l ∧ l.length ≤ cap ∧ l.length ≤ 9223372036854775807 ∧ ∀ e ∈ l, wfX e := by
  rcases open_slice Tryd.underlying22 h with ⟨rfl, _⟩ | ⟨a, len, cap, m, n, D, Pl, rfl, _, hl, hm, hmm, _, hel⟩
  · exact ⟨none, 0, [], rfl, Kd.C_nil _ _, by simp, by simp, fun e he => by cases he⟩
  · have hlm : len ≤ m := by rw [hmm]; split <;> omega
    obtain ⟨l, hlen, hp⟩ := list_of_all (fun i (e : S51) => wfX e ∧ w.cells? base (a.add (i * 7)) 7 = some [.int .i64 e.f0, .int .i64 e.f1, .int .i64 e.f2.f0, .int .i64 e.f2.f1, .int .i64 e.f2.f2, .int .i64 e.f2.f3, .string e.f2.f4]) len (fun i hi => by
      obtain ⟨cs', hc, hd⟩ := hel i (by omega)
      obtain ⟨e, rfl, hw⟩ := open_entry hd
      rw [cX] at hc
      exact ⟨e, hw, hc⟩)
    have hmx : cap ≤ 9223372036854775807 := hm
    refine ⟨some a, cap, l, by rw [hlen], ⟨rfl, by omega, fun _ => ⟨a, rfl, fun j p hj => ?_⟩⟩, by omega, by omega, fun e he => ?_⟩
    · obtain ⟨_, hc⟩ := hp j p hj
      refine ⟨_, rfl, k51_mk w p, fun i u hu => ?_⟩
      obtain ⟨_, hlc, hc2⟩ := World.cells?_some hc
      have hi : i < 7 := by
        rcases Nat.lt_or_ge i 7 with hi | hi
        · exact hi
        · rw [List.getElem?_eq_none (by rw [hlc]; exact hi)] at hu
          cases hu
      have := hc2 i hi
      rw [hu] at this
      show w.cell? (a.add (j * 7 + i)) = some u
      rw [← this]
      congr 1
      generalize j * 7 = x
      unfold Addr.add
      by_cases h1 : x = 0 <;> by_cases h2 : i = 0 <;> simp [h1, h2, Nat.add_assoc]
    · obtain ⟨i, hi, rfl⟩ := List.getElem_of_mem he
      exact (hp i _ (List.getElem?_eq_getElem hi)).1
/-- A server, opened. -/
theorem open_server {v : Value} {d : DataW H} {p : List MemPlace} (hv : Value.okWide Tryd.prog w .any base 24 v) (h : DataW.Trod enc Tryd.prog w 0 sp held 24 v d p) :
    ∃ (A : Option Addr) (cap : Nat) (l : List S51) (s : Int) (u : Bool), v = .agg #[.slice A l.length cap, .int .i64 s, .bool u] ∧ Kd.C k51 w A l.length l ∧ l.length ≤ cap ∧ l.length ≤ 9223372036854775807 ∧ (∀ e ∈ l, wfX e) ∧ I64 s := by
  obtain ⟨v0, v1, v2, y0, y1, y2, n, rfl, rfl, rfl, h0, h1, h2⟩ := open_agg3 Tryd.underlying24 (by kernel_rfl) (by kernel_rfl) hv h
  obtain ⟨A, cap, l, e0, hC, hc, hl, hw⟩ := open_entries h0
  obtain ⟨s, e1, _, hs⟩ := DataW.trod_int Tryd.underlying3 h1
  obtain ⟨u, e2, _⟩ := DataW.trod_bool Tryd.underlying4 h2
  obtain rfl := (List.cons.inj e0).1
  obtain rfl := (List.cons.inj e1).1
  obtain rfl := (List.cons.inj e2).1
  exact ⟨A, cap, l, s, u, rfl, hC, hc, hl, hw, i64_of hs⟩
end
end Go.Proofs.YtnclcbjagleoeaaDoor.PL
namespace Go.Proofs.YtnclcbjagleoeaaDoor.fnExactServerSync
open Go.ChangeShapes Go.WideShapes Go.ChangeAt Go.RowKit
open Go.ChangeMaps (open_string shut_string)
set_option linter.unusedVariables false
theorem own : ownKnob Tryd.prog.godebug = none := by kernel_rfl
theorem laidOut : laidOutB Tryd.prog = true := by kernel_rfl
set_option maxRecDepth 100000 in
theorem lifted (os : Os) (started : os.Started) (H : Type) (enc : TypeId × Value → H) :
    ReturnsInHanded {} Tryd.checked os 6 .any (fun w args => (Rows.fnExactServerSyncSpec.pre enc Tryd.prog Tryd.f6 [] false w args ∧ laidMet Tryd.prog [("loop.example/plashet/impl.rowOwners", Rows.laid_loop_example_plashet_impl_rowOwners)] w) ∧ sizedMet enc Tryd.prog Tryd.f6 (OpenSpec.ofChange Rows.fnExactServerSyncSpec) false w args) (Rows.fnExactServerSyncSpec.post enc Tryd.prog Tryd.f6 false true false false) := by
  refine returnsInHanded_of_change_and (C := Tryd.checked) (X := fun w _ => laidMet Tryd.prog [("loop.example/plashet/impl.rowOwners", Rows.laid_loop_example_plashet_impl_rowOwners)] w) (fun _ _ _ hh h => h.of_heap hh) own started (by kernel_rfl) Tryd.func6
    (ChangeSpec.witness_shaped (enc := enc) (C := Tryd.checked) (os := os) (X := fun w _ => laidMet Tryd.prog [("loop.example/plashet/impl.rowOwners", Rows.laid_loop_example_plashet_impl_rowOwners)] w) false (World.doorLaid Tryd.prog 400 os) #[.agg #[.slice none 0 0, .int .i64 0, .bool false]] 8 rfl (World.shaped_of_RefB (by kernel_rfl) (by kernel_rfl)) (by kernel_rfl) (by kernel_rfl) (by kernel_rfl) (P.door_met os _)) ?_
  intro W base args ds gs before hval0 hW _ _ hL _
  have hval : ∀ (j : Nat) t v, Tryd.f6.params[j]? = some t → args[j]? = some v → Value.okWide Tryd.prog W .any base t v := hval0
  have hW' := hW
  obtain ⟨p, q, hA0, hV, rfl, hfz, hnd⟩ := hW
  have hA : DataW.TrodAll enc Tryd.prog W 0 (fun _ => true) true Tryd.f6.params.toList args.toList ds p := hA0
  rw [Tryd.params6] at hA hval
  obtain ⟨v0, vs0, d0, ds0, p0, q0, hargs, rfl, rfl, h0, r0⟩ := trodAll_cons hA
  obtain ⟨rfl, rfl, rfl⟩ := trodAll_nil r0
  obtain rfl : args = #[v0] := by cases args; simp_all
  have hG : P.Glob W := P.glob_of_laid hL
  obtain ⟨gv, tv, csv, fuelv, dv, pv, rfl, hgv, htv, hvarv, hdv, rfl⟩ := trodVars_one hV
  obtain rfl : csv = P.ownCells := Option.some.inj (hvarv.symm.trans hG)
  obtain rfl := Option.some.inj (P.tOwners.symm.trans (by rw [Option.some.inj (P.gOwners.symm.trans hgv)]; exact htv))
  obtain ⟨rfl, rfl⟩ := DataW.Trod.unique (v := .agg P.ownCells) ⟨fuelv, hdv⟩ ⟨3, P.reads_table enc W _⟩
  have k0 := h0
  have lt0 : ∀ x ∈ p0, x.block < W.heap.size := by obtain ⟨m, hm⟩ := k0; exact DataW.trod_lt m _ _ _ hm
  obtain ⟨A0, c0, l0, s0, u0, rfl, hC0, hc0, hL0, hw0, hs0⟩ := PL.open_server (hval 0 24 v0 rfl rfl) h0
  clear hA0 hval0
  obtain ⟨k, hk⟩ := PL.FnExactServerSync l0 s0 u0 hw0 hL0
  refine (P.laws_FnExactServerSync.calls k _ _ l0 s0 u0 true W hC0 hc0 hk hG).mono fun e W' ⟨he, bel⟩ => ?_
  subst he
  exact ⟨_, rfl, _, _, _, _, _, _, hW', trodAll_mk1 (shut_bool Tryd.underlying4 _), (trodAll_cons_mk (Below.trod laidOut (by kernel_rfl) (of_decide_eq_true (by kernel_rfl)) k0 bel lt0) trodAll_mk0), P.tab_vars enc (hG.below bel), bel.frame _, fun h => by cases h⟩
theorem proved : Rows.FnExactServerSyncSaid :=
  OpenClaim.holds_of_wide 6 Tryd.f6 rfl rfl rfl rfl rfl rfl rfl ⟨rfl, rfl, rfl, rfl, rfl⟩ rfl rfl rfl rfl rfl (by kernel_rfl) Tryd.func6 (by kernel_rfl)
    (of_decide_eq_true (by kernel_rfl)) (by unfold Func.isWrapper; first | (rw [if_pos (by decide +kernel)]; kernel_rfl) | (rw [if_neg (by decide +kernel)]; exact ⟨rfl, rfl⟩))
    (fun os started H enc _ => lifted os started H enc)
end Go.Proofs.YtnclcbjagleoeaaDoor.fnExactServerSync
namespace Go.Proofs.YtnclcbjagleoeaaDoor
/-- The row, under a short name. -/
theorem fnExactServerSync_holds : Rows.FnExactServerSyncSaid := fnExactServerSync.proved
end Go.Proofs.YtnclcbjagleoeaaDoor
namespace Go.Proofs.YtnclcbjagleoeaaDoor
open Go
theorem fnExactServerSyncCard_holds : Rows.FnExactServerSyncCardSaid :=
  Claim7.holds_tied_plain_at .later [] [.data] true (true, "57cd4da34d3600158406d32b39c8655b8f1177fc2a013a7f45b784ef106e8989") false
    fnExactServerSync_holds (fun _ h => by cases h) (by kernel_rfl) (fun _ h => by cases h) fnExactServerSync_row_tie rfl ⟨rfl, rfl⟩ (by kernel_rfl) rfl
    (fun f fn hf hfn => by
      obtain rfl : f = 6 := Option.some.inj ((show Tryd.prog.funcNamed "loop.example/plashet/laws.FnExactServerSync" = some 6 by kernel_rfl).symm.trans hf) |>.symm
      obtain rfl : fn = Tryd.f6 := (Option.some.inj (Tryd.func6.symm.trans hfn)).symm
      exact ⟨by kernel_rfl, fun j t ht => by
        rw [Tryd.params6] at ht
        have hm : t ∈ [24] := by have := Array.mem_of_getElem? ht; simp at this; first | (subst this; simp; done) | (rcases this with h | h <;> simp [h]; done) | (rcases this with h | h | h <;> simp [h]; done)
        have hall : ([24].all fun u => !Tryd.prog.wantsStandIn u) = true := by kernel_rfl
        exact (show Tryd.prog.wantsStandIn t = false by simpa using List.all_eq_true.1 hall t hm)⟩)
    (by kernel_rfl)
#print axioms fnExactServerSyncCard_holds
end Go.Proofs.YtnclcbjagleoeaaDoor
