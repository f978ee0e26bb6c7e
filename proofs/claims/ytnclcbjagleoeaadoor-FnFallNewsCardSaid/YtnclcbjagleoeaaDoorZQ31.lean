/- Joined by a program (wip/shake.py): the declarations that 'YtnclcbjagleoeaaDoorCardFnFallNews' reaches. -/
import Derived.Test.YtnclcbjagleoeaaDoorZQ30
namespace Go.Proofs.YtnclcbjagleoeaaDoor.P
open Go.RowKit Go.Proofs.YtnclcbjagleoeaaDoorW.PrintWords Go.Proofs.YtnclcbjagleoeaaDoorW.PrintLast
set_option linter.unusedVariables false
set_option linter.unusedSimpArgs false
def impl_ServerOk.f (k : Nat) (l0_0 : List (S56)) (a0_1 : Int) (a0_2 : Bool) : Option (Bool) := (impl_LogOk.f k l0_0).bind fun t203 => (if t203 = true then (if a0_1 ≥ 0 then (some (decide (a0_1 ≤ (l0_0.length : Int)))) else (some false)) else (some false))
theorem impl_ServerOk.mono : ∀ a0 a1 a2 k, LeO (impl_ServerOk.f k a0 a1 a2) (impl_ServerOk.f (k + 1) a0 a1 a2) := by
 intro a0 a1 a2 k
 unfold impl_ServerOk.f
 repeat' first
   | (with_reducible exact impl_LogOk.mono _ _)
   | (with_reducible exact LeO.refl _)
   | (with_reducible exact LeO.none _)
   | (with_reducible refine LeO.ite ?_ ?_)
   | (with_reducible refine LeO.bind ?_ (fun _ => ?_))
   | exact impl_LogOk.mono _ _
   | exact LeO.none _
   | refine LeO.ite ?_ ?_
   | refine LeO.bind ?_ (fun _ => ?_)
set_option maxHeartbeats 8000000 in
set_option maxRecDepth 100000 in
theorem impl_ServerOk.calls (k : Nat) (A0_0 : Option Addr) (c0_0 : Nat) (l0_0 : List (S56)) (a0_1 : Int) (a0_2 : Bool) (r : Bool) (w : World) (hr0_0 : Kd.C k56 w A0_0 l0_0.length l0_0) (hc0_0 : l0_0.length ≤ c0_0) (h : impl_ServerOk.f k l0_0 a0_1 a0_2 = some r) (hG : Glob w) :
  Calls Tryd.prog 26 #[.agg #[.slice A0_0 l0_0.length c0_0, .int .i64 a0_1, .bool a0_2]] w fun e w' => e = .returned (.bool r) ∧ Below w.heap.size w w' := by
 have hu29 := Tryd.underlying29
 have HR0_0 := Aside0.mk hr0_0
 have HC0_0 := Aside0.mk hc0_0
 clear hr0_0 hc0_0
 have HB := Aside0.mk (Below.refl w.heap.size w)
 have HG := Aside0.mk hG
 clear hG
 have H : ((impl_LogOk.f k l0_0).bind fun t203 => (if t203 = true then (if a0_1 ≥ 0 then (some (decide (a0_1 ≤ (l0_0.length : Int)))) else (some false)) else (some false))) = some r := h
 clear h
 replace H := Option.bind_eq_some_iff.mp H
 obtain ⟨t203, A20, H⟩ := H
 replace H : (if t203 = true then (if a0_1 ≥ 0 then (some (decide (a0_1 ≤ (l0_0.length : Int)))) else (some false)) else (some false)) = some r := H
 have A2 := Aside0.mk A20
 clear A20
 by_cases c3 : t203 = true
 ·subst c3
  have H1 : (if a0_1 ≥ 0 then (some (decide (a0_1 ≤ (l0_0.length : Int)))) else (some false)) = some r := by rw [if_pos rfl] at H; exact H
  clear H
  have H := H1
  clear H1
  by_cases c4 : a0_1 ≥ 0
  ·rw [if_pos c4] at H
   have c4b0 : decide (0 ≤ a0_1) = true := decide_eq_true c4
   clear c4
   obtain rfl := Option.some.inj H
   go_enter Tryd.func26, Tryd.ntmps26
   go_wp2_with (first | ((with_reducible refine gate_dst (N := 1) rfl ?_); refine box_event ?hg (N := 1) ?hd (cs := #[.slice A0_0 l0_0.length c0_0, .int .i64 a0_1, .bool a0_2]) (t := 29) ?hr ?_; (case hd => rfl); (case hg => rfl); (case hr => first | (go_simp; done) | (go_simp; rfl)); intro gb202 hg w5 hbox hb; have n0_ := Aside0.mk (below_step (bel_) hb); have n1_ := Aside0.mk (hbox); have n2_ := Aside0.mk ((by rw [hg]; exact (below_size (bel_)) : w.heap.size ≤ gb202)); have n3_ := Aside0.mk ((by rw [hg]; exact (below_size (bel_)) : w.heap.size ≤ gb202)); clear HB; have HB := n0_; have BK202 := n1_; have GW202 := n2_; have GE202 := n3_; clear n0_ n1_ n2_ n3_; clear hb hbox hg; have hcz6_0 : w5.cell? ⟨gb202, 0, none⟩ = some (.slice A0_0 l0_0.length c0_0) := (blk_cell BK202.out 0).trans rfl; have hcz6_1 : w5.cell? ⟨gb202, 1, none⟩ = some (.int .i64 a0_1) := (blk_cell BK202.out 1).trans rfl; have hcz6_2 : w5.cell? ⟨gb202, 2, none⟩ = some (.bool a0_2) := (blk_cell BK202.out 2).trans rfl; have hfz6_0 := blk_frozen BK202.out 0; have hfz6_1 := blk_frozen BK202.out 1; have hfz6_2 := blk_frozen BK202.out 2) | ((with_reducible refine gate_callee (f := 57) rfl ?_); refine gl_ 5 Tryd.func57 #[.slice A0_0 l0_0.length c0_0] ?_; (with_reducible refine (impl_LogOk.calls k _ _ l0_0 true _ ?side1 ?side2 A2.out ?side3).mono ?_); (case side1 => exact cp_ HR0_0.out); (case side2 => exact HC0_0.out); (case side3 => exact Glob.below HG.out (bel_)); rintro e w7 ⟨rfl, hb⟩; refine ⟨_, rfl, ?_⟩; replace HB := Aside0.mk (below_step (bel_) hb); replace BK202 := Aside0.mk (blk_below (g := gb202) (o := .cells #[.slice A0_0 l0_0.length c0_0, .int .i64 a0_1, .bool a0_2] 29 (0, 0)) (bp_ BK202.out) hb); (try clear hb); (try clear hb2); (try clear hk); (try clear hi); have hcz8_0 : w7.cell? ⟨gb202, 0, none⟩ = some (.slice A0_0 l0_0.length c0_0) := (blk_cell BK202.out 0).trans rfl; have hcz8_1 : w7.cell? ⟨gb202, 1, none⟩ = some (.int .i64 a0_1) := (blk_cell BK202.out 1).trans rfl; have hcz8_2 : w7.cell? ⟨gb202, 2, none⟩ = some (.bool a0_2) := (blk_cell BK202.out 2).trans rfl; have hfz8_0 := blk_frozen BK202.out 0; have hfz8_1 := blk_frozen BK202.out 1; have hfz8_2 := blk_frozen BK202.out 2))
   go_ret
   exact ⟨fi_, bel_⟩
  ·rw [if_neg c4] at H
   have c4b0 : decide (0 ≤ a0_1) = false := decide_eq_false c4
   clear c4
   obtain rfl := Option.some.inj H
   go_enter Tryd.func26, Tryd.ntmps26
   go_wp2_with (first | ((with_reducible refine gate_dst (N := 1) rfl ?_); refine box_event ?hg (N := 1) ?hd (cs := #[.slice A0_0 l0_0.length c0_0, .int .i64 a0_1, .bool a0_2]) (t := 29) ?hr ?_; (case hd => rfl); (case hg => rfl); (case hr => first | (go_simp; done) | (go_simp; rfl)); intro gb202 hg w9 hbox hb; have n0_ := Aside0.mk (below_step (bel_) hb); have n1_ := Aside0.mk (hbox); have n2_ := Aside0.mk ((by rw [hg]; exact (below_size (bel_)) : w.heap.size ≤ gb202)); have n3_ := Aside0.mk ((by rw [hg]; exact (below_size (bel_)) : w.heap.size ≤ gb202)); clear HB; have HB := n0_; have BK202 := n1_; have GW202 := n2_; have GE202 := n3_; clear n0_ n1_ n2_ n3_; clear hb hbox hg; have hcz10_0 : w9.cell? ⟨gb202, 0, none⟩ = some (.slice A0_0 l0_0.length c0_0) := (blk_cell BK202.out 0).trans rfl; have hcz10_1 : w9.cell? ⟨gb202, 1, none⟩ = some (.int .i64 a0_1) := (blk_cell BK202.out 1).trans rfl; have hcz10_2 : w9.cell? ⟨gb202, 2, none⟩ = some (.bool a0_2) := (blk_cell BK202.out 2).trans rfl; have hfz10_0 := blk_frozen BK202.out 0; have hfz10_1 := blk_frozen BK202.out 1; have hfz10_2 := blk_frozen BK202.out 2) | ((with_reducible refine gate_callee (f := 57) rfl ?_); refine gl_ 5 Tryd.func57 #[.slice A0_0 l0_0.length c0_0] ?_; (with_reducible refine (impl_LogOk.calls k _ _ l0_0 true _ ?side1 ?side2 A2.out ?side3).mono ?_); (case side1 => exact cp_ HR0_0.out); (case side2 => exact HC0_0.out); (case side3 => exact Glob.below HG.out (bel_)); rintro e w11 ⟨rfl, hb⟩; refine ⟨_, rfl, ?_⟩; replace HB := Aside0.mk (below_step (bel_) hb); replace BK202 := Aside0.mk (blk_below (g := gb202) (o := .cells #[.slice A0_0 l0_0.length c0_0, .int .i64 a0_1, .bool a0_2] 29 (0, 0)) (bp_ BK202.out) hb); (try clear hb); (try clear hb2); (try clear hk); (try clear hi); have hcz12_0 : w11.cell? ⟨gb202, 0, none⟩ = some (.slice A0_0 l0_0.length c0_0) := (blk_cell BK202.out 0).trans rfl; have hcz12_1 : w11.cell? ⟨gb202, 1, none⟩ = some (.int .i64 a0_1) := (blk_cell BK202.out 1).trans rfl; have hcz12_2 : w11.cell? ⟨gb202, 2, none⟩ = some (.bool a0_2) := (blk_cell BK202.out 2).trans rfl; have hfz12_0 := blk_frozen BK202.out 0; have hfz12_1 := blk_frozen BK202.out 1; have hfz12_2 := blk_frozen BK202.out 2))
   go_ret
   exact ⟨fi_, bel_⟩
 ·replace c3 := Bool.eq_false_iff.mpr c3
  subst c3
  have H1 : (some false) = some r := by rw [if_neg (show ¬ (false = true) by decide)] at H; exact H
  clear H
  have H := H1
  clear H1
  obtain rfl := Option.some.inj H
  go_enter Tryd.func26, Tryd.ntmps26
  go_wp2_with (first | ((with_reducible refine gate_dst (N := 1) rfl ?_); refine box_event ?hg (N := 1) ?hd (cs := #[.slice A0_0 l0_0.length c0_0, .int .i64 a0_1, .bool a0_2]) (t := 29) ?hr ?_; (case hd => rfl); (case hg => rfl); (case hr => first | (go_simp; done) | (go_simp; rfl)); intro gb202 hg w13 hbox hb; have n0_ := Aside0.mk (below_step (bel_) hb); have n1_ := Aside0.mk (hbox); have n2_ := Aside0.mk ((by rw [hg]; exact (below_size (bel_)) : w.heap.size ≤ gb202)); have n3_ := Aside0.mk ((by rw [hg]; exact (below_size (bel_)) : w.heap.size ≤ gb202)); clear HB; have HB := n0_; have BK202 := n1_; have GW202 := n2_; have GE202 := n3_; clear n0_ n1_ n2_ n3_; clear hb hbox hg; have hcz14_0 : w13.cell? ⟨gb202, 0, none⟩ = some (.slice A0_0 l0_0.length c0_0) := (blk_cell BK202.out 0).trans rfl; have hcz14_1 : w13.cell? ⟨gb202, 1, none⟩ = some (.int .i64 a0_1) := (blk_cell BK202.out 1).trans rfl; have hcz14_2 : w13.cell? ⟨gb202, 2, none⟩ = some (.bool a0_2) := (blk_cell BK202.out 2).trans rfl; have hfz14_0 := blk_frozen BK202.out 0; have hfz14_1 := blk_frozen BK202.out 1; have hfz14_2 := blk_frozen BK202.out 2) | ((with_reducible refine gate_callee (f := 57) rfl ?_); refine gl_ 5 Tryd.func57 #[.slice A0_0 l0_0.length c0_0] ?_; (with_reducible refine (impl_LogOk.calls k _ _ l0_0 false _ ?side1 ?side2 A2.out ?side3).mono ?_); (case side1 => exact cp_ HR0_0.out); (case side2 => exact HC0_0.out); (case side3 => exact Glob.below HG.out (bel_)); rintro e w15 ⟨rfl, hb⟩; refine ⟨_, rfl, ?_⟩; replace HB := Aside0.mk (below_step (bel_) hb); replace BK202 := Aside0.mk (blk_below (g := gb202) (o := .cells #[.slice A0_0 l0_0.length c0_0, .int .i64 a0_1, .bool a0_2] 29 (0, 0)) (bp_ BK202.out) hb); (try clear hb); (try clear hb2); (try clear hk); (try clear hi)))
  go_ret
  exact ⟨fi_, bel_⟩

end Go.Proofs.YtnclcbjagleoeaaDoor.P
namespace Go.Proofs.YtnclcbjagleoeaaDoor.P
open Go.RowKit Go.Proofs.YtnclcbjagleoeaaDoorW.PrintWords Go.Proofs.YtnclcbjagleoeaaDoorW.PrintLast Go.Proofs.YtnclcbjagleoeaaDoorW.PrintMore
def impl_Entry_51.f (l0 : List S56) : Option (List S56) := if l0.length < 2199023255552 then some l0 else none
set_option maxHeartbeats 4000000 in
set_option maxRecDepth 100000 in
theorem impl_Entry_51.calls (A0 : Option Addr) (c0 : Nat) (l0 : List S56) (r : List S56) (w : World) (hr0 : Kd.C k56 w A0 l0.length l0) (hc0 : l0.length ≤ c0)
    (h : impl_Entry_51.f l0 = some r) :
    Calls Tryd.prog 51 #[.slice A0 l0.length c0] w fun e w' => ∃ v0_ : Value, e = .returned (v0_) ∧ Kd.R k56 56 w' w.heap.size (fun _ => True) v0_ r ∧ Below w.heap.size w w' := by
  unfold impl_Entry_51.f at h
  by_cases hlim : l0.length < 2199023255552
  · rw [if_pos hlim] at h
    obtain rfl := Option.some.inj h
    clear h
    cases A0 with
    | none =>
      have hl : l0 = [] := by
        rcases Nat.eq_zero_or_pos l0.length with h0 | h0
        · exact List.length_eq_zero_iff.1 h0
        · obtain ⟨ad, e, _⟩ := hr0.2.2 h0
          cases e
      subst hl
      simp only [List.length_nil]
      have hne := fun (W : World) => Lib.run_eql_slice_nil (P := Tryd.prog) W 26 56 none 0 c0 0 0 Tryd.underlying26
      simp only [Option.isNone_none] at hne
      clear hr0 hlim hc0
      go_enter Tryd.func51, Tryd.ntmps51
      go_wp2
      go_ret
      exact ⟨_, rfl, Kd.R_nil _ _ _ _ _, Below.refl _ _⟩
    | some a =>
      have hne := fun (W : World) => Lib.run_eql_slice_nil (P := Tryd.prog) W 26 56 (some a) l0.length c0 0 0 Tryd.underlying26
      simp only [Option.isNone_some] at hne
      have HR0 := Aside0.mk hr0
      have LM := Aside0.mk hlim
      clear hr0 hlim
      have HB := Aside0.mk (Below.refl w.heap.size w)
      go_enter Tryd.func51, Tryd.ntmps51
      go_wp2_with (first
        | ((with_reducible refine gate_dst (N := 5) rfl ?_); refine Kd.R_lit k56 _ 56 ?hg (N := 5) ?hd (xs := ([] : List S56)) (inner := []) (ok := fun _ => True) (okp := fun _ => True) ?hr ?hp (fun _ hk => hk) trivial (Below.refl _ _) (Nat.le_refl _) (by simp) ?_; (case hd => rfl); (case hg => rfl); (case hr => first | (go_simp; done) | (go_simp; rfl)); (case hp => exact (Reps.none _ _)); intro v200 w5 ho6 hb hg_ hnew_; clear hg_ hnew_; have HO := Aside0.mk ho6; replace HB := Aside0.mk (below_step HB.out hb); clear hb ho6)
        | ((with_reducible refine gate_builtin (b := .append) (xs := #[.tmp 5, .tmp 6]) rfl ?_); at_builtin; refine Kd.R_append_rows k56 (w0 := w) w.heap.size rfl (.tmp 5) (.tmp 6) 26 56 (.agg #[(.int .i64 0), (.int .i64 0), (.int .i64 0), (.int .i64 0), (.int .i64 0), (.int .i64 0), (.string ⟨#[]⟩)]) 64 rfl Tryd.underlying26 info56 rfl (by decide) (by omega) _ ([] : List S56) l0 _ _ _ (fun _ => True) (fun _ => False) rfl rfl ?aO ?aR (fun _ _ h => h) (fun _ h => h.elim) ?aF ?aB ?aS ?aL ?_; (case aR => exact Kd.C_below HR0.out HB.out); (case aB => exact HB.out); (case aF => exact (fun _ _ => trivial)); (case aO => exact HO.out); (case aS => exact below_size HB.out); (case aL => have := LM.out; simp; omega); intro v203 w9 ho hb hg hat; clear HB HO; have HB := Aside0.mk hb; have HO := Aside0.mk ho; clear ho hb hg hat; obtain ⟨Ao10, co10, eo10⟩ := Kd.R_slice HO.out; subst eo10))
      go_ret
      exact ⟨_, rfl, HO.out, HB.out⟩
  · rw [if_neg hlim] at h
    cases h
end Go.Proofs.YtnclcbjagleoeaaDoor.P
namespace Go.Proofs.YtnclcbjagleoeaaDoor.P
open Go.RowKit Go.Proofs.YtnclcbjagleoeaaDoorW.PrintWords Go.Proofs.YtnclcbjagleoeaaDoorW.PrintLast
set_option linter.unusedVariables false
set_option linter.unusedSimpArgs false
def impl_ServerNews.f (k : Nat) (l0_0 : List (S56)) (a0_1 : Int) (a0_2 : Bool) (a1 : Int) : Option ((List (S56))) := (impl_ServerOk.f k l0_0 a0_1 a0_2).bind fun t205 => (if t205 = true then (if a0_2 = true then (if a1 < 0 then (some ([] : List (S56))) else (if a1 > a0_1 then (some ([] : List (S56))) else (if 0 ≤ a1 then (if a1 ≤ a0_1 then (if a0_1 ≤ (l0_0.length : Int) then ((impl_Entry_51.f ((l0_0.take (a0_1 : Int).toNat).drop (a1 : Int).toNat)).bind fun t210 => (some t210)) else (none)) else (none)) else (none)))) else (some ([] : List (S56)))) else (some ([] : List (S56))))
theorem impl_ServerNews.mono : ∀ a0 a1 a2 a3 k, LeO (impl_ServerNews.f k a0 a1 a2 a3) (impl_ServerNews.f (k + 1) a0 a1 a2 a3) := by
 intro a0 a1 a2 a3 k
 unfold impl_ServerNews.f
 repeat' first
   | (with_reducible exact impl_ServerOk.mono _ _ _ _)
   | (with_reducible exact LeO.refl _)
   | (with_reducible exact LeO.none _)
   | (with_reducible refine LeO.ite ?_ ?_)
   | (with_reducible refine LeO.bind ?_ (fun _ => ?_))
   | exact impl_ServerOk.mono _ _ _ _
   | exact LeO.none _
   | refine LeO.ite ?_ ?_
   | refine LeO.bind ?_ (fun _ => ?_)
set_option maxHeartbeats 8000000 in
set_option maxRecDepth 100000 in
theorem impl_ServerNews.calls (k : Nat) (A0_0 : Option Addr) (c0_0 : Nat) (l0_0 : List (S56)) (a0_1 : Int) (a0_2 : Bool) (a1 : Int) (r : List (S56)) (w : World) (hr0_0 : Kd.C k56 w A0_0 l0_0.length l0_0) (hc0_0 : l0_0.length ≤ c0_0) (h : impl_ServerNews.f k l0_0 a0_1 a0_2 a1 = some r) (hG : Glob w) :
  Calls Tryd.prog 19 #[.agg #[.slice A0_0 l0_0.length c0_0, .int .i64 a0_1, .bool a0_2], .int .i64 a1] w fun e w' => ∃ v0_ : Value, e = .returned (v0_) ∧ Kd.R k56 56 w' w.heap.size (fun _ => True) v0_ r ∧ Below w.heap.size w w' := by
 have hu29 := Tryd.underlying29
 have HR0_0 := Aside0.mk hr0_0
 have HC0_0 := Aside0.mk hc0_0
 clear hr0_0 hc0_0
 have HB := Aside0.mk (Below.refl w.heap.size w)
 have HG := Aside0.mk hG
 clear hG
 have H : ((impl_ServerOk.f k l0_0 a0_1 a0_2).bind fun t205 => (if t205 = true then (if a0_2 = true then (if a1 < 0 then (some ([] : List (S56))) else (if a1 > a0_1 then (some ([] : List (S56))) else (if 0 ≤ a1 then (if a1 ≤ a0_1 then (if a0_1 ≤ (l0_0.length : Int) then ((impl_Entry_51.f ((l0_0.take (a0_1 : Int).toNat).drop (a1 : Int).toNat)).bind fun t210 => (some t210)) else (none)) else (none)) else (none)))) else (some ([] : List (S56)))) else (some ([] : List (S56))))) = some r := h
 clear h
 replace H := Option.bind_eq_some_iff.mp H
 obtain ⟨t205, A30, H⟩ := H
 replace H : (if t205 = true then (if a0_2 = true then (if a1 < 0 then (some ([] : List (S56))) else (if a1 > a0_1 then (some ([] : List (S56))) else (if 0 ≤ a1 then (if a1 ≤ a0_1 then (if a0_1 ≤ (l0_0.length : Int) then ((impl_Entry_51.f ((l0_0.take (a0_1 : Int).toNat).drop (a1 : Int).toNat)).bind fun t210 => (some t210)) else (none)) else (none)) else (none)))) else (some ([] : List (S56)))) else (some ([] : List (S56)))) = some r := H
 have A3 := Aside0.mk A30
 clear A30
 by_cases c4 : t205 = true
 ·subst c4
  have H1 : (if a0_2 = true then (if a1 < 0 then (some ([] : List (S56))) else (if a1 > a0_1 then (some ([] : List (S56))) else (if 0 ≤ a1 then (if a1 ≤ a0_1 then (if a0_1 ≤ (l0_0.length : Int) then ((impl_Entry_51.f ((l0_0.take (a0_1 : Int).toNat).drop (a1 : Int).toNat)).bind fun t210 => (some t210)) else (none)) else (none)) else (none)))) else (some ([] : List (S56)))) = some r := by rw [if_pos rfl] at H; exact H
  clear H
  have H := H1
  clear H1
  by_cases c5 : a0_2 = true
  ·subst c5
   have H1 : (if a1 < 0 then (some ([] : List (S56))) else (if a1 > a0_1 then (some ([] : List (S56))) else (if 0 ≤ a1 then (if a1 ≤ a0_1 then (if a0_1 ≤ (l0_0.length : Int) then ((impl_Entry_51.f ((l0_0.take (a0_1 : Int).toNat).drop (a1 : Int).toNat)).bind fun t210 => (some t210)) else (none)) else (none)) else (none)))) = some r := by rw [if_pos rfl] at H; exact H
   clear H
   have H := H1
   clear H1
   by_cases c6 : a1 < 0
   ·rw [if_pos c6] at H
    have c6b0 : decide (a1 < 0) = true := decide_eq_true c6
    clear c6
    obtain rfl := Option.some.inj H
    go_enter Tryd.func19, Tryd.ntmps19
    go_wp2_with (first | ((with_reducible refine gate_dst (N := 2) rfl ?_); refine box_event ?hg (N := 2) ?hd (cs := #[.slice A0_0 l0_0.length c0_0, .int .i64 a0_1, .bool true]) (t := 29) ?hr ?_; (case hd => rfl); (case hg => rfl); (case hr => first | (go_simp; done) | (go_simp; rfl)); intro gb204 hg w7 hbox hb; have n0_ := Aside0.mk (below_step (bel_) hb); have n1_ := Aside0.mk (hbox); have n2_ := Aside0.mk ((by rw [hg]; exact (below_size (bel_)) : w.heap.size ≤ gb204)); have n3_ := Aside0.mk ((by rw [hg]; exact (below_size (bel_)) : w.heap.size ≤ gb204)); clear HB; have HB := n0_; have BK204 := n1_; have GW204 := n2_; have GE204 := n3_; clear n0_ n1_ n2_ n3_; clear hb hbox hg; have hcz8_0 : w7.cell? ⟨gb204, 0, none⟩ = some (.slice A0_0 l0_0.length c0_0) := (blk_cell BK204.out 0).trans rfl; have hcz8_1 : w7.cell? ⟨gb204, 1, none⟩ = some (.int .i64 a0_1) := (blk_cell BK204.out 1).trans rfl; have hcz8_2 : w7.cell? ⟨gb204, 2, none⟩ = some (.bool true) := (blk_cell BK204.out 2).trans rfl; have hfz8_0 := blk_frozen BK204.out 0; have hfz8_1 := blk_frozen BK204.out 1; have hfz8_2 := blk_frozen BK204.out 2) | ((with_reducible refine gate_callee (f := 26) rfl ?_); refine gl_ 6 Tryd.func26 #[.agg #[.slice A0_0 l0_0.length c0_0, .int .i64 a0_1, .bool true]] ?_; (with_reducible refine (impl_ServerOk.calls k _ _ l0_0 a0_1 true true _ ?side1 ?side2 A3.out ?side3).mono ?_); (case side1 => exact cp_ HR0_0.out); (case side2 => exact HC0_0.out); (case side3 => exact Glob.below HG.out (bel_)); rintro e w9 ⟨rfl, hb⟩; refine ⟨_, rfl, ?_⟩; replace HB := Aside0.mk (below_step (bel_) hb); replace BK204 := Aside0.mk (blk_below (g := gb204) (o := .cells #[.slice A0_0 l0_0.length c0_0, .int .i64 a0_1, .bool true] 29 (0, 0)) (bp_ BK204.out) hb); (try clear hb); (try clear hb2); (try clear hk); (try clear hi); have hcz10_0 : w9.cell? ⟨gb204, 0, none⟩ = some (.slice A0_0 l0_0.length c0_0) := (blk_cell BK204.out 0).trans rfl; have hcz10_1 : w9.cell? ⟨gb204, 1, none⟩ = some (.int .i64 a0_1) := (blk_cell BK204.out 1).trans rfl; have hcz10_2 : w9.cell? ⟨gb204, 2, none⟩ = some (.bool true) := (blk_cell BK204.out 2).trans rfl; have hfz10_0 := blk_frozen BK204.out 0; have hfz10_1 := blk_frozen BK204.out 1; have hfz10_2 := blk_frozen BK204.out 2))
    go_ret
    exact ⟨_, fi_, by first | exact Kd.R_nil _ _ _ _ _ | exact Kd.N_nil _ _ _ _ _ | exact Kd.V_nil _ _ _ _ _ | exact Kd.Q_nil _ _ _ _ _ | exact Kd.S_nil _ _ _ _ _, bel_⟩
   ·rw [if_neg c6] at H
    have c6b0 : decide (a1 < 0) = false := decide_eq_false c6
    clear c6
    by_cases c11 : a1 > a0_1
    ·rw [if_pos c11] at H
     have c11b0 : decide (a0_1 < a1) = true := decide_eq_true c11
     clear c11
     obtain rfl := Option.some.inj H
     go_enter Tryd.func19, Tryd.ntmps19
     go_wp2_with (first | ((with_reducible refine gate_dst (N := 2) rfl ?_); refine box_event ?hg (N := 2) ?hd (cs := #[.slice A0_0 l0_0.length c0_0, .int .i64 a0_1, .bool true]) (t := 29) ?hr ?_; (case hd => rfl); (case hg => rfl); (case hr => first | (go_simp; done) | (go_simp; rfl)); intro gb204 hg w12 hbox hb; have n0_ := Aside0.mk (below_step (bel_) hb); have n1_ := Aside0.mk (hbox); have n2_ := Aside0.mk ((by rw [hg]; exact (below_size (bel_)) : w.heap.size ≤ gb204)); have n3_ := Aside0.mk ((by rw [hg]; exact (below_size (bel_)) : w.heap.size ≤ gb204)); clear HB; have HB := n0_; have BK204 := n1_; have GW204 := n2_; have GE204 := n3_; clear n0_ n1_ n2_ n3_; clear hb hbox hg; have hcz13_0 : w12.cell? ⟨gb204, 0, none⟩ = some (.slice A0_0 l0_0.length c0_0) := (blk_cell BK204.out 0).trans rfl; have hcz13_1 : w12.cell? ⟨gb204, 1, none⟩ = some (.int .i64 a0_1) := (blk_cell BK204.out 1).trans rfl; have hcz13_2 : w12.cell? ⟨gb204, 2, none⟩ = some (.bool true) := (blk_cell BK204.out 2).trans rfl; have hfz13_0 := blk_frozen BK204.out 0; have hfz13_1 := blk_frozen BK204.out 1; have hfz13_2 := blk_frozen BK204.out 2) | ((with_reducible refine gate_callee (f := 26) rfl ?_); refine gl_ 6 Tryd.func26 #[.agg #[.slice A0_0 l0_0.length c0_0, .int .i64 a0_1, .bool true]] ?_; (with_reducible refine (impl_ServerOk.calls k _ _ l0_0 a0_1 true true _ ?side1 ?side2 A3.out ?side3).mono ?_); (case side1 => exact cp_ HR0_0.out); (case side2 => exact HC0_0.out); (case side3 => exact Glob.below HG.out (bel_)); rintro e w14 ⟨rfl, hb⟩; refine ⟨_, rfl, ?_⟩; replace HB := Aside0.mk (below_step (bel_) hb); replace BK204 := Aside0.mk (blk_below (g := gb204) (o := .cells #[.slice A0_0 l0_0.length c0_0, .int .i64 a0_1, .bool true] 29 (0, 0)) (bp_ BK204.out) hb); (try clear hb); (try clear hb2); (try clear hk); (try clear hi); have hcz15_0 : w14.cell? ⟨gb204, 0, none⟩ = some (.slice A0_0 l0_0.length c0_0) := (blk_cell BK204.out 0).trans rfl; have hcz15_1 : w14.cell? ⟨gb204, 1, none⟩ = some (.int .i64 a0_1) := (blk_cell BK204.out 1).trans rfl; have hcz15_2 : w14.cell? ⟨gb204, 2, none⟩ = some (.bool true) := (blk_cell BK204.out 2).trans rfl; have hfz15_0 := blk_frozen BK204.out 0; have hfz15_1 := blk_frozen BK204.out 1; have hfz15_2 := blk_frozen BK204.out 2))
     go_ret
     exact ⟨_, fi_, by first | exact Kd.R_nil _ _ _ _ _ | exact Kd.N_nil _ _ _ _ _ | exact Kd.V_nil _ _ _ _ _ | exact Kd.Q_nil _ _ _ _ _ | exact Kd.S_nil _ _ _ _ _, bel_⟩
    ·rw [if_neg c11] at H
     have c11b0 : decide (a0_1 < a1) = false := decide_eq_false c11
     clear c11
     by_cases c16 : 0 ≤ a1
     ·rw [if_pos c16] at H
      have c16b0 := eq_true c16
      have c16b1 : decide (0 ≤ a1) = true := decide_eq_true c16
      clear c16
      by_cases c17 : a1 ≤ a0_1
      ·rw [if_pos c17] at H
       have c17b0 := eq_true c17
       have c17b1 : decide (a1 ≤ a0_1) = true := decide_eq_true c17
       clear c17
       by_cases c18 : a0_1 ≤ (l0_0.length : Int)
       ·rw [if_pos c18] at H
        have c18b0 := eq_true c18
        have c18b1 : decide (a0_1 ≤ (l0_0.length : Int)) = true := decide_eq_true c18
        clear c18
        obtain ⟨y206, hy206⟩ : ∃ y_ : List (S56), y_ = ((l0_0.take (a0_1 : Int).toNat).drop (a1 : Int).toNat) := ⟨_, rfl⟩
        replace H : ((impl_Entry_51.f y206).bind fun t210 => (some t210)) = some r := by first | (rw [hy206]; with_reducible exact H) | (have H2_ := (Option.bind_some _ _).symm.trans H; rw [hy206]; with_reducible exact H2_) | (have H2_ := (Option.bind_some _ _).symm.trans H; with_reducible exact H2_) | with_reducible exact H | (rw [hy206]; exact H) | exact H
        have Ny206 := Aside0.mk hy206
        clear hy206
        replace H := Option.bind_eq_some_iff.mp H
        obtain ⟨t210, A190, H⟩ := H
        replace H : (some t210) = some r := H
        have A19 := Aside0.mk A190
        clear A190
        obtain rfl := Option.some.inj H
        go_enter Tryd.func19, Tryd.ntmps19
        go_wp2_with (first | ((with_reducible refine gate_dst (N := 2) rfl ?_); refine box_event ?hg (N := 2) ?hd (cs := #[.slice A0_0 l0_0.length c0_0, .int .i64 a0_1, .bool true]) (t := 29) ?hr ?_; (case hd => rfl); (case hg => rfl); (case hr => first | (go_simp; done) | (go_simp; rfl)); intro gb204 hg w20 hbox hb; have n0_ := Aside0.mk (below_step (bel_) hb); have n1_ := Aside0.mk (hbox); have n2_ := Aside0.mk ((by rw [hg]; exact (below_size (bel_)) : w.heap.size ≤ gb204)); have n3_ := Aside0.mk ((by rw [hg]; exact (below_size (bel_)) : w.heap.size ≤ gb204)); clear HB; have HB := n0_; have BK204 := n1_; have GW204 := n2_; have GE204 := n3_; clear n0_ n1_ n2_ n3_; clear hb hbox hg; have hcz21_0 : w20.cell? ⟨gb204, 0, none⟩ = some (.slice A0_0 l0_0.length c0_0) := (blk_cell BK204.out 0).trans rfl; have hcz21_1 : w20.cell? ⟨gb204, 1, none⟩ = some (.int .i64 a0_1) := (blk_cell BK204.out 1).trans rfl; have hcz21_2 : w20.cell? ⟨gb204, 2, none⟩ = some (.bool true) := (blk_cell BK204.out 2).trans rfl; have hfz21_0 := blk_frozen BK204.out 0; have hfz21_1 := blk_frozen BK204.out 1; have hfz21_2 := blk_frozen BK204.out 2) | ((with_reducible refine gate_callee (f := 26) rfl ?_); refine gl_ 6 Tryd.func26 #[.agg #[.slice A0_0 l0_0.length c0_0, .int .i64 a0_1, .bool true]] ?_; (with_reducible refine (impl_ServerOk.calls k _ _ l0_0 a0_1 true true _ ?side1 ?side2 A3.out ?side3).mono ?_); (case side1 => exact cp_ HR0_0.out); (case side2 => exact HC0_0.out); (case side3 => exact Glob.below HG.out (bel_)); rintro e w22 ⟨rfl, hb⟩; refine ⟨_, rfl, ?_⟩; replace HB := Aside0.mk (below_step (bel_) hb); replace BK204 := Aside0.mk (blk_below (g := gb204) (o := .cells #[.slice A0_0 l0_0.length c0_0, .int .i64 a0_1, .bool true] 29 (0, 0)) (bp_ BK204.out) hb); (try clear hb); (try clear hb2); (try clear hk); (try clear hi); have hcz23_0 : w22.cell? ⟨gb204, 0, none⟩ = some (.slice A0_0 l0_0.length c0_0) := (blk_cell BK204.out 0).trans rfl; have hcz23_1 : w22.cell? ⟨gb204, 1, none⟩ = some (.int .i64 a0_1) := (blk_cell BK204.out 1).trans rfl; have hcz23_2 : w22.cell? ⟨gb204, 2, none⟩ = some (.bool true) := (blk_cell BK204.out 2).trans rfl; have hfz23_0 := blk_frozen BK204.out 0; have hfz23_1 := blk_frozen BK204.out 1; have hfz23_2 := blk_frozen BK204.out 2; have q24 : (a0_1 : Int) ≤ ((l0_0.length : Int) : Int) := od_; obtain ⟨i024, hi024, _, hsz24, _⟩ := info_parts info56; have hroom24 : l0_0.length ≤ c0_0 := HC0_0.out; have hC24 : Kd.C k56 _ A0_0 l0_0.length l0_0 := HR0_0.out; have ql24 : (a1 : Int) ≤ (a0_1 : Int) := od_; have q024 : (0 : Int) ≤ (a1 : Int) := od_; have hcut24 := cut_mid (P := Tryd.prog) 26 56 .i64 .i64 Tryd.underlying26 hi024 7 hsz24 A0_0 l0_0.length c0_0 a1 a0_1 q024 ql24 q24 hroom24; have hr24 := Kd.C_mid (lo := (a1 : Int).toNat) (hi := (a0_1 : Int).toNat) (c := c0_0) hC24 (by omega) (by omega) hroom24; obtain ⟨A24, hA24⟩ : ∃ A1, A1 = (if c0_0 = (a1 : Int).toNat then A0_0 else (A0_0 : Option Addr).map (·.add ((a1 : Int).toNat * 7))) := ⟨_, rfl⟩; obtain ⟨c24, hc24⟩ : ∃ c1, c1 = c0_0 - (a1 : Int).toNat := ⟨_, rfl⟩; have hy24 : y206.length = (a0_1 : Int).toNat - (a1 : Int).toNat := (by rw [Ny206.out, List.length_drop, List.length_take] <;> omega); rw [show ((l0_0).take (a0_1 : Int).toNat).drop (a1 : Int).toNat = y206 from Ny206.out.symm] at hr24; replace hr24 : Kd.C k56 _ A24 y206.length y206 := (by rw [hA24]; exact hr24); rw [← hy24, ← hA24, ← hc24] at hcut24; have HR209 := Aside0.mk hr24; have HC209 := Aside0.mk (show y206.length ≤ c24 from by rw [hy24, hc24]; exact Nat.sub_le_sub_right (Nat.le_trans (by omega) hroom24) _); clear hr24 hC24 hroom24 hi024 hsz24 hc24; have KY24 := Aside0.mk hy24; have KA24 := Aside0.mk hA24; clear hy24 hA24; replace q24 := eq_true q24) | ((with_reducible refine gate_callee (f := 51) rfl ?_); refine gl_ 29 Tryd.func51 #[.slice A24 y206.length c24] ?_; (with_reducible refine (impl_Entry_51.calls _ _ y206 t210 _ ?side1 ?side2 A19.out).mono ?_); (case side1 => exact cp_ HR209.out); (case side2 => exact HC209.out); rintro e w25 ⟨v211, rfl, ho0, hb⟩; refine ⟨_, rfl, ?_⟩; have HO212 := Aside0.mk (Kd.R_lower ho0 (below_size (bel_))); replace HB := Aside0.mk (below_step (bel_) hb); replace BK204 := Aside0.mk (blk_below (g := gb204) (o := .cells #[.slice A0_0 l0_0.length c0_0, .int .i64 a0_1, .bool true] 29 (0, 0)) (bp_ BK204.out) hb); (try clear hb); (try clear hb2); (try clear hk); (try clear hi); (try clear ho0)))
        go_ret
        exact ⟨_, fi_, by (with_reducible repeat (first | apply Kd.R_alloc | apply Kd.R_drewN | apply Kd.R_drew)); exact HO212.out, bel_⟩
       ·rw [if_neg c18] at H
        exact absurd H (by simp)
      ·rw [if_neg c17] at H
       exact absurd H (by simp)
     ·rw [if_neg c16] at H
      exact absurd H (by simp)
  ·replace c5 := Bool.eq_false_iff.mpr c5
   subst c5
   have H1 : (some ([] : List (S56))) = some r := by rw [if_neg (show ¬ (false = true) by decide)] at H; exact H
   clear H
   have H := H1
   clear H1
   obtain rfl := Option.some.inj H
   go_enter Tryd.func19, Tryd.ntmps19
   go_wp2_with (first | ((with_reducible refine gate_dst (N := 2) rfl ?_); refine box_event ?hg (N := 2) ?hd (cs := #[.slice A0_0 l0_0.length c0_0, .int .i64 a0_1, .bool false]) (t := 29) ?hr ?_; (case hd => rfl); (case hg => rfl); (case hr => first | (go_simp; done) | (go_simp; rfl)); intro gb204 hg w26 hbox hb; have n0_ := Aside0.mk (below_step (bel_) hb); have n1_ := Aside0.mk (hbox); have n2_ := Aside0.mk ((by rw [hg]; exact (below_size (bel_)) : w.heap.size ≤ gb204)); have n3_ := Aside0.mk ((by rw [hg]; exact (below_size (bel_)) : w.heap.size ≤ gb204)); clear HB; have HB := n0_; have BK204 := n1_; have GW204 := n2_; have GE204 := n3_; clear n0_ n1_ n2_ n3_; clear hb hbox hg; have hcz27_0 : w26.cell? ⟨gb204, 0, none⟩ = some (.slice A0_0 l0_0.length c0_0) := (blk_cell BK204.out 0).trans rfl; have hcz27_1 : w26.cell? ⟨gb204, 1, none⟩ = some (.int .i64 a0_1) := (blk_cell BK204.out 1).trans rfl; have hcz27_2 : w26.cell? ⟨gb204, 2, none⟩ = some (.bool false) := (blk_cell BK204.out 2).trans rfl; have hfz27_0 := blk_frozen BK204.out 0; have hfz27_1 := blk_frozen BK204.out 1; have hfz27_2 := blk_frozen BK204.out 2) | ((with_reducible refine gate_callee (f := 26) rfl ?_); refine gl_ 6 Tryd.func26 #[.agg #[.slice A0_0 l0_0.length c0_0, .int .i64 a0_1, .bool false]] ?_; (with_reducible refine (impl_ServerOk.calls k _ _ l0_0 a0_1 false true _ ?side1 ?side2 A3.out ?side3).mono ?_); (case side1 => exact cp_ HR0_0.out); (case side2 => exact HC0_0.out); (case side3 => exact Glob.below HG.out (bel_)); rintro e w28 ⟨rfl, hb⟩; refine ⟨_, rfl, ?_⟩; replace HB := Aside0.mk (below_step (bel_) hb); replace BK204 := Aside0.mk (blk_below (g := gb204) (o := .cells #[.slice A0_0 l0_0.length c0_0, .int .i64 a0_1, .bool false] 29 (0, 0)) (bp_ BK204.out) hb); (try clear hb); (try clear hb2); (try clear hk); (try clear hi); have hcz29_0 : w28.cell? ⟨gb204, 0, none⟩ = some (.slice A0_0 l0_0.length c0_0) := (blk_cell BK204.out 0).trans rfl; have hcz29_1 : w28.cell? ⟨gb204, 1, none⟩ = some (.int .i64 a0_1) := (blk_cell BK204.out 1).trans rfl; have hcz29_2 : w28.cell? ⟨gb204, 2, none⟩ = some (.bool false) := (blk_cell BK204.out 2).trans rfl; have hfz29_0 := blk_frozen BK204.out 0; have hfz29_1 := blk_frozen BK204.out 1; have hfz29_2 := blk_frozen BK204.out 2))
   go_ret
   exact ⟨_, fi_, by first | exact Kd.R_nil _ _ _ _ _ | exact Kd.N_nil _ _ _ _ _ | exact Kd.V_nil _ _ _ _ _ | exact Kd.Q_nil _ _ _ _ _ | exact Kd.S_nil _ _ _ _ _, bel_⟩
 ·replace c4 := Bool.eq_false_iff.mpr c4
  subst c4
  have H1 : (some ([] : List (S56))) = some r := by rw [if_neg (show ¬ (false = true) by decide)] at H; exact H
  clear H
  have H := H1
  clear H1
  obtain rfl := Option.some.inj H
  go_enter Tryd.func19, Tryd.ntmps19
  go_wp2_with (first | ((with_reducible refine gate_dst (N := 2) rfl ?_); refine box_event ?hg (N := 2) ?hd (cs := #[.slice A0_0 l0_0.length c0_0, .int .i64 a0_1, .bool a0_2]) (t := 29) ?hr ?_; (case hd => rfl); (case hg => rfl); (case hr => first | (go_simp; done) | (go_simp; rfl)); intro gb204 hg w30 hbox hb; have n0_ := Aside0.mk (below_step (bel_) hb); have n1_ := Aside0.mk (hbox); have n2_ := Aside0.mk ((by rw [hg]; exact (below_size (bel_)) : w.heap.size ≤ gb204)); have n3_ := Aside0.mk ((by rw [hg]; exact (below_size (bel_)) : w.heap.size ≤ gb204)); clear HB; have HB := n0_; have BK204 := n1_; have GW204 := n2_; have GE204 := n3_; clear n0_ n1_ n2_ n3_; clear hb hbox hg; have hcz31_0 : w30.cell? ⟨gb204, 0, none⟩ = some (.slice A0_0 l0_0.length c0_0) := (blk_cell BK204.out 0).trans rfl; have hcz31_1 : w30.cell? ⟨gb204, 1, none⟩ = some (.int .i64 a0_1) := (blk_cell BK204.out 1).trans rfl; have hcz31_2 : w30.cell? ⟨gb204, 2, none⟩ = some (.bool a0_2) := (blk_cell BK204.out 2).trans rfl; have hfz31_0 := blk_frozen BK204.out 0; have hfz31_1 := blk_frozen BK204.out 1; have hfz31_2 := blk_frozen BK204.out 2) | ((with_reducible refine gate_callee (f := 26) rfl ?_); refine gl_ 6 Tryd.func26 #[.agg #[.slice A0_0 l0_0.length c0_0, .int .i64 a0_1, .bool a0_2]] ?_; (with_reducible refine (impl_ServerOk.calls k _ _ l0_0 a0_1 a0_2 false _ ?side1 ?side2 A3.out ?side3).mono ?_); (case side1 => exact cp_ HR0_0.out); (case side2 => exact HC0_0.out); (case side3 => exact Glob.below HG.out (bel_)); rintro e w32 ⟨rfl, hb⟩; refine ⟨_, rfl, ?_⟩; replace HB := Aside0.mk (below_step (bel_) hb); replace BK204 := Aside0.mk (blk_below (g := gb204) (o := .cells #[.slice A0_0 l0_0.length c0_0, .int .i64 a0_1, .bool a0_2] 29 (0, 0)) (bp_ BK204.out) hb); (try clear hb); (try clear hb2); (try clear hk); (try clear hi)))
  go_ret
  exact ⟨_, fi_, by first | exact Kd.R_nil _ _ _ _ _ | exact Kd.N_nil _ _ _ _ _ | exact Kd.V_nil _ _ _ _ _ | exact Kd.Q_nil _ _ _ _ _ | exact Kd.S_nil _ _ _ _ _, bel_⟩

end Go.Proofs.YtnclcbjagleoeaaDoor.P
namespace Go.Proofs.YtnclcbjagleoeaaDoor.P
open Go.RowKit Go.Proofs.YtnclcbjagleoeaaDoorW.PrintWords Go.Proofs.YtnclcbjagleoeaaDoorW.PrintLast
set_option linter.unusedVariables false
set_option linter.unusedSimpArgs false
def spec_l13Fall.f (l0_0 : List (S56)) (a0_1 : Int) (a0_2 : Bool) (a1 : Int) : Option ((List (S56)) × Int × Bool) := (some (([] : List (S56)) : List (S56))).bind fun y290 => (if 0 ≤ (mn (l0_0.length : Int) (wrap64 (a0_1 + a1))) then (if (mn (l0_0.length : Int) (wrap64 (a0_1 + a1))) ≤ (l0_0.length : Int) then ((some (l0_0.take ((mn (l0_0.length : Int) (wrap64 (a0_1 + a1))) : Int).toNat : List (S56))).bind fun y293 => (if y290.length + y293.length < 2199023255552 then (some ((y290 ++ y293), a0_1, a0_2)) else (none))) else (none)) else (none))
set_option maxHeartbeats 8000000 in
set_option maxRecDepth 100000 in
theorem spec_l13Fall.calls (A0_0 : Option Addr) (c0_0 : Nat) (l0_0 : List (S56)) (a0_1 : Int) (a0_2 : Bool) (a1 : Int) (r1 : List (S56)) (r2 : Int) (r3 : Bool) (w : World) (hr0_0 : Kd.C k56 w A0_0 l0_0.length l0_0) (hc0_0 : l0_0.length ≤ c0_0) (h : spec_l13Fall.f l0_0 a0_1 a0_2 a1 = some (r1, r2, r3)) :
  Calls Tryd.prog 59 #[.agg #[.slice A0_0 l0_0.length c0_0, .int .i64 a0_1, .bool a0_2], .int .i64 a1] w fun e w' => ∃ v0_ : Value, e = .returned (.agg #[v0_, .int .i64 r2, .bool r3]) ∧ Kd.R k56 56 w' w.heap.size (fun _ => True) v0_ r1 ∧ Below w.heap.size w w' := by
 have hu29 := Tryd.underlying29
 have HR0_0 := Aside0.mk hr0_0
 have HC0_0 := Aside0.mk hc0_0
 clear hr0_0 hc0_0
 have HB := Aside0.mk (Below.refl w.heap.size w)
 have H : ((some (([] : List (S56)) : List (S56))).bind fun y290 => (if 0 ≤ (mn (l0_0.length : Int) (wrap64 (a0_1 + a1))) then (if (mn (l0_0.length : Int) (wrap64 (a0_1 + a1))) ≤ (l0_0.length : Int) then ((some (l0_0.take ((mn (l0_0.length : Int) (wrap64 (a0_1 + a1))) : Int).toNat : List (S56))).bind fun y293 => (if y290.length + y293.length < 2199023255552 then (some ((y290 ++ y293), a0_1, a0_2)) else (none))) else (none)) else (none))) = some (r1, r2, r3) := h
 clear h
 obtain ⟨y290, hy290⟩ : ∃ y_ : List (S56), y_ = (([] : List (S56))) := ⟨_, rfl⟩
 replace H : (if 0 ≤ (mn (l0_0.length : Int) (wrap64 (a0_1 + a1))) then (if (mn (l0_0.length : Int) (wrap64 (a0_1 + a1))) ≤ (l0_0.length : Int) then ((some (l0_0.take ((mn (l0_0.length : Int) (wrap64 (a0_1 + a1))) : Int).toNat : List (S56))).bind fun y293 => (if y290.length + y293.length < 2199023255552 then (some ((y290 ++ y293), a0_1, a0_2)) else (none))) else (none)) else (none)) = some (r1, r2, r3) := by first | (rw [hy290]; with_reducible exact H) | (have H2_ := (Option.bind_some _ _).symm.trans H; rw [hy290]; with_reducible exact H2_) | (have H2_ := (Option.bind_some _ _).symm.trans H; with_reducible exact H2_) | with_reducible exact H | (rw [hy290]; exact H) | exact H
 have Ny290 := Aside0.mk hy290
 clear hy290
 obtain ⟨ji3, hji3⟩ : ∃ j_ : Int, (mn (l0_0.length : Int) (wrap64 (a0_1 + a1))) = j_ := ⟨_, rfl⟩
 replace H : (if 0 ≤ (ji3) then (if (ji3) ≤ (l0_0.length : Int) then ((some (l0_0.take ((ji3) : Int).toNat : List (S56))).bind fun y293 => (if y290.length + y293.length < 2199023255552 then (some ((y290 ++ y293), a0_1, a0_2)) else (none))) else (none)) else (none)) = some (r1, r2, r3) := by first | (rw [hji3] at H; exact H) | (simp only [hji3] at H ⊢; exact H)
 have hji3_ : (if (wrap64 (a0_1 + a1)) < (l0_0.length : Int) then (wrap64 (a0_1 + a1)) else (l0_0.length : Int)) = ji3 := hji3
 by_cases c4 : 0 ≤ (ji3)
 ·rw [if_pos c4] at H
  have c4b0 := eq_true c4
  have c4b1 : decide (0 ≤ (ji3)) = true := decide_eq_true c4
  clear c4
  by_cases c5 : (ji3) ≤ (l0_0.length : Int)
  ·rw [if_pos c5] at H
   have c5b0 := eq_true c5
   have c5b1 : decide ((ji3) ≤ (l0_0.length : Int)) = true := decide_eq_true c5
   clear c5
   obtain ⟨y293, hy293⟩ : ∃ y_ : List (S56), y_ = (l0_0.take ((ji3) : Int).toNat) := ⟨_, rfl⟩
   replace H : (if y290.length + y293.length < 2199023255552 then (some ((y290 ++ y293), a0_1, a0_2)) else (none)) = some (r1, r2, r3) := by first | (rw [hy293]; with_reducible exact H) | (have H2_ := (Option.bind_some _ _).symm.trans H; rw [hy293]; with_reducible exact H2_) | (have H2_ := (Option.bind_some _ _).symm.trans H; with_reducible exact H2_) | with_reducible exact H | (rw [hy293]; exact H) | exact H
   have Ny293 := Aside0.mk hy293
   clear hy293
   by_cases c6 : y290.length + y293.length < 2199023255552
   ·rw [if_pos c6] at H
    have LMc6 := Aside0.mk c6
    clear c6
    obtain ⟨y297, hy297⟩ : ∃ y_ : List (S56), y_ = (y290 ++ y293) := ⟨_, rfl⟩
    replace H : (some (y297, a0_1, a0_2)) = some (r1, r2, r3) := by first | (rw [hy297]; with_reducible exact H) | (have H2_ := (Option.bind_some _ _).symm.trans H; rw [hy297]; with_reducible exact H2_) | (have H2_ := (Option.bind_some _ _).symm.trans H; with_reducible exact H2_) | with_reducible exact H | (rw [hy297]; exact H) | exact H
    have Ny297 := Aside0.mk hy297
    clear hy297
    simp only [Option.some.injEq, Prod.mk.injEq] at H
    obtain ⟨rfl, rfl, rfl⟩ := H
    go_enter Tryd.func59, Tryd.ntmps59
    go_wp2_with (first | ((with_reducible refine gate_dst (N := 2) rfl ?_); refine box_event ?hg (N := 2) ?hd (cs := #[.slice A0_0 l0_0.length c0_0, .int .i64 a0_1, .bool a0_2]) (t := 29) ?hr ?_; (case hd => rfl); (case hg => rfl); (case hr => first | (go_simp; done) | (go_simp; rfl)); intro gb288 hg w7 hbox hb; have n0_ := Aside0.mk (below_step (bel_) hb); have n1_ := Aside0.mk (hbox); have n2_ := Aside0.mk ((by rw [hg]; exact (below_size (bel_)) : w.heap.size ≤ gb288)); have n3_ := Aside0.mk ((by rw [hg]; exact (below_size (bel_)) : w.heap.size ≤ gb288)); clear HB; have HB := n0_; have BK288 := n1_; have GW288 := n2_; have GE288 := n3_; clear n0_ n1_ n2_ n3_; clear hb hbox hg) | ((with_reducible refine gate_dst (N := 4) rfl ?_); refine box_event ?hg (N := 4) ?hd (cs := #[.slice none 0 0, .int .i64 0, .bool false]) (t := 29) ?hr ?_; (case hd => rfl); (case hg => rfl); (case hr => first | (go_simp; done) | (go_simp; rfl)); intro gb289 hg w8 hbox hb; have n0_ := Aside0.mk (blk_below (g := gb288) (o := .cells #[.slice A0_0 l0_0.length c0_0, .int .i64 a0_1, .bool a0_2] 29 (0, 0)) (bp_ BK288.out) hb); have n1_ := Aside0.mk (below_step (bel_) hb); have n2_ := Aside0.mk (hbox); have n3_ := Aside0.mk ((by rw [hg]; exact (below_size (bel_)) : w.heap.size ≤ gb289)); have n4_ := Aside0.mk ((by rw [hg]; exact (below_size (bel_)) : w.heap.size ≤ gb289)); have n5_ := Aside0.mk ((by rw [hg]; exact Nat.ne_of_lt (blk_lt (g := gb288) (o := .cells #[.slice A0_0 l0_0.length c0_0, .int .i64 a0_1, .bool a0_2] 29 (0, 0)) (bp_ BK288.out)) : gb288 ≠ gb289)); have n6_ := Aside0.mk ((by rw [hg]; exact Nat.ne_of_gt (blk_lt (g := gb288) (o := .cells #[.slice A0_0 l0_0.length c0_0, .int .i64 a0_1, .bool a0_2] 29 (0, 0)) (bp_ BK288.out)) : gb289 ≠ gb288)); clear BK288; clear HB; have BK288 := n0_; have HB := n1_; have BK289 := n2_; have GW289 := n3_; have GE289 := n4_; have NB288_289 := n5_; have NB289_288 := n6_; clear n0_ n1_ n2_ n3_ n4_ n5_ n6_; clear hb hbox hg) | ((with_reducible refine gate_dst (N := 5) rfl ?_); refine Kd.R_lit k56 _ 56 ?hg (N := 5) ?hd (xs := ([] : List (S56))) (inner := []) (ok := fun _ => True) (okp := fun _ => True) ?hr ?hp (fun _ hk => hk) trivial (Below.refl _ _) (Nat.le_refl _) (by simp) ?_; (case hd => rfl); (case hg => rfl); (case hr => first | (go_simp; done) | (go_simp; rfl)); (case hp => exact (Reps.none _ _)); intro v291 w9 ho10 hb hg_ hnew_; clear hg_ hnew_; (first | rw [← Ny290.out] at ho10 | (simp only [Int.reduceToNat] at ho10; rw [← Ny290.out] at ho10)); have HO292 := Aside0.mk (Kd.R_lower ho10 (below_size (bel_))); replace HB := Aside0.mk (below_step (bel_) hb); replace BK288 := Aside0.mk (blk_below (g := gb288) (o := .cells #[.slice A0_0 l0_0.length c0_0, .int .i64 a0_1, .bool a0_2] 29 (0, 0)) (bp_ BK288.out) hb); replace BK289 := Aside0.mk (blk_below (g := gb289) (o := .cells #[.slice none 0 0, .int .i64 0, .bool false] 29 (0, 0)) (bp_ BK289.out) hb); clear hb ho10; have hnb11 := NB288_289.out; have hnc11 := NB289_288.out; have hcz12_0 : w9.cell? ⟨gb288, 0, none⟩ = some (.slice A0_0 l0_0.length c0_0) := (blk_cell BK288.out 0).trans rfl; have hcz12_1 : w9.cell? ⟨gb288, 1, none⟩ = some (.int .i64 a0_1) := (blk_cell BK288.out 1).trans rfl; have hcz12_2 : w9.cell? ⟨gb288, 2, none⟩ = some (.bool a0_2) := (blk_cell BK288.out 2).trans rfl; have hfz12_0 := blk_frozen BK288.out 0; have hfz12_1 := blk_frozen BK288.out 1; have hfz12_2 := blk_frozen BK288.out 2; have q13 : ((ji3) : Int) ≤ ((l0_0.length : Int) : Int) := od_; obtain ⟨i013, hi013, _, hsz13, _⟩ := info_parts info56; have hroom13 : l0_0.length ≤ c0_0 := HC0_0.out; have hC13 : Kd.C k56 _ A0_0 l0_0.length l0_0 := HR0_0.out; have hcut13 := cut_to (P := Tryd.prog) 26 56 .i64 Tryd.underlying26 hi013 A0_0 l0_0.length c0_0 (ji3) (od_) q13 hroom13; have hr13 := Kd.C_take (m := ((ji3) : Int).toNat) hC13 (by omega); have hy13 : y293.length = ((ji3) : Int).toNat := (by rw [Ny293.out, List.length_take]; omega); rw [← Ny293.out] at hr13; rw [← hy13] at hcut13; have HR296 := Aside0.mk hr13; have HC296 := Aside0.mk (show y293.length ≤ c0_0 from by omega); clear hr13 hC13 hroom13 hi013 hsz13; have KY13 := Aside0.mk hy13; clear hy13; replace q13 := eq_true q13) | ((with_reducible refine gate_builtin (b := .append) (xs := #[.tmp 5, .tmp 16]) rfl ?_); at_builtin; refine Kd.R_append_rows k56 (w0 := w) w.heap.size rfl (.tmp 5) (.tmp 16) 26 56 (.agg #[(.int .i64 0), (.int .i64 0), (.int .i64 0), (.int .i64 0), (.int .i64 0), (.int .i64 0), (.string ⟨#[]⟩)]) 64 rfl Tryd.underlying26 info56 rfl (by decide) (by omega) v291 y290 y293 _ _ _ (fun _ => True) (fun _ => False) rfl rfl ?aO ?aR (fun _ _ h => h) (fun _ h => h.elim) ?aF ?aB ?aS ?aL ?_; (case aR => repeat (first | exact (Kd.C_below HR296.out HB.out) | (with_reducible refine Kd.C_alloc ?_ _) | (with_reducible refine Kd.C_drewN ?_ _) | (with_reducible refine Kd.C_drew ?_))); (case aB => exact (bel_)); (case aF => exact (fun _ _ => trivial)); (case aO => exact (rp_ HO292.out)); (case aS => exact (below_size (bel_))); (case aL => have := LMc6.out; omega); intro v298 w14 ho hb hg hat; rw [← Ny297.out] at ho; replace BK288 := Aside0.mk (blk_grown (g := gb288) (o := .cells #[.slice A0_0 l0_0.length c0_0, .int .i64 a0_1, .bool a0_2] 29 (0, 0)) (bp_ BK288.out) hg (Kd.R_ne HO292.out BK288.out (by decide))); replace BK289 := Aside0.mk (blk_grown (g := gb289) (o := .cells #[.slice none 0 0, .int .i64 0, .bool false] 29 (0, 0)) (bp_ BK289.out) hg (Kd.R_ne HO292.out BK289.out (by decide))); replace HB := Aside0.mk (hb); have HO299 := Aside0.mk (ho); clear HO292; clear ho hb hg hat; obtain ⟨Ao15, co15, eo15⟩ := Kd.R_slice HO299.out; subst eo15; have hcz16_0 : w14.cell? ⟨gb288, 0, none⟩ = some (.slice A0_0 l0_0.length c0_0) := (blk_cell BK288.out 0).trans rfl; have hcz16_1 : w14.cell? ⟨gb288, 1, none⟩ = some (.int .i64 a0_1) := (blk_cell BK288.out 1).trans rfl; have hcz16_2 : w14.cell? ⟨gb288, 2, none⟩ = some (.bool a0_2) := (blk_cell BK288.out 2).trans rfl; have hfz16_0 := blk_frozen BK288.out 0; have hfz16_1 := blk_frozen BK288.out 1; have hfz16_2 := blk_frozen BK288.out 2; have hcz17_0 : w14.cell? ⟨gb289, 0, none⟩ = some (.slice none 0 0) := (blk_cell BK289.out 0).trans rfl; have hcz17_1 : w14.cell? ⟨gb289, 1, none⟩ = some (.int .i64 0) := (blk_cell BK289.out 1).trans rfl; have hcz17_2 : w14.cell? ⟨gb289, 2, none⟩ = some (.bool false) := (blk_cell BK289.out 2).trans rfl; have hfz17_0 := blk_frozen BK289.out 0; have hfz17_1 := blk_frozen BK289.out 1; have hfz17_2 := blk_frozen BK289.out 2))
    refine bodyPost_ret (results_cell_row rfl _ _ gb289 29 #[.slice Ao15 y297.length co15, .int .i64 a0_1, .bool a0_2] (0, 0) _ rfl (by (with_reducible repeat (first | refine blk_drewN ?_ _ | refine blk_drew ?_ | refine blk_alloc ?_ _)); refine blk_put (cs := #[.slice Ao15 y297.length co15, .int .i64 a0_1, .bool false]) ?_ 2 _ rfl; (with_reducible repeat (first | refine blk_drewN ?_ _ | refine blk_drew ?_ | refine blk_alloc ?_ _)); refine blk_put (cs := #[.slice Ao15 y297.length co15, .int .i64 0, .bool false]) ?_ 1 _ rfl; (with_reducible repeat (first | refine blk_drewN ?_ _ | refine blk_drew ?_ | refine blk_alloc ?_ _)); refine blk_put (cs := #[.slice none 0 0, .int .i64 0, .bool false]) ?_ 0 _ rfl; (with_reducible repeat (first | refine blk_drewN ?_ _ | refine blk_drew ?_ | refine blk_alloc ?_ _)); refine blk_far ?_ NB289_288.out _; (with_reducible repeat (first | refine blk_drewN ?_ _ | refine blk_drew ?_ | refine blk_alloc ?_ _)); exact BK289.out) Tryd.underlying29 rfl (by kernel_rfl)) rfl ?_
    exact ⟨_, by first | rfl | (simp [errW_none, errW_some] <;> rfl) | (simp only [← hji3]; first | rfl | (simp [errW_none, errW_some] <;> rfl)) | (simp [*, errW_none, errW_some] <;> rfl), by (with_reducible repeat (first | apply Kd.R_alloc | apply Kd.R_drewN | apply Kd.R_drew)); exact Kd.R_mono (Kd.R_far (p := ⟨gb289, 2, none⟩) (Kd.R_far (p := ⟨gb289, 1, none⟩) (Kd.R_far (p := ⟨gb289, 0, none⟩) (Kd.R_far (p := ⟨gb288, 0, none⟩) (Kd.R_types (Kd.R_types HO299.out BK288.out (by decide)) BK289.out (by decide)) (fun _ hk => hk.1.2) (.slice Ao15 y297.length co15)) (fun _ hk => hk.2) (.slice Ao15 y297.length co15)) (fun _ hk => hk.2) (.int .i64 a0_1)) (fun _ hk => hk.2) (.bool a0_2)) (fun _ hk => trivial), bel_⟩
   ·rw [if_neg c6] at H
    exact absurd H (by simp)
  ·rw [if_neg c5] at H
   exact absurd H (by simp)
 ·rw [if_neg c4] at H
  exact absurd H (by simp)

def spec_l13Copy.f (l0_0 : List (S56)) (a0_1 : Int) (a0_2 : Bool) : Option ((List (S56)) × Int × Bool) := (some (([] : List (S56)) : List (S56))).bind fun y302 => (if y302.length + l0_0.length < 2199023255552 then (some ((y302 ++ l0_0), a0_1, a0_2)) else (none))
set_option maxHeartbeats 8000000 in
set_option maxRecDepth 100000 in
theorem spec_l13Copy.calls (A0_0 : Option Addr) (c0_0 : Nat) (l0_0 : List (S56)) (a0_1 : Int) (a0_2 : Bool) (r1 : List (S56)) (r2 : Int) (r3 : Bool) (w : World) (hr0_0 : Kd.C k56 w A0_0 l0_0.length l0_0) (hc0_0 : l0_0.length ≤ c0_0) (h : spec_l13Copy.f l0_0 a0_1 a0_2 = some (r1, r2, r3)) :
  Calls Tryd.prog 60 #[.agg #[.slice A0_0 l0_0.length c0_0, .int .i64 a0_1, .bool a0_2]] w fun e w' => ∃ v0_ : Value, e = .returned (.agg #[v0_, .int .i64 r2, .bool r3]) ∧ Kd.R k56 56 w' w.heap.size (fun _ => True) v0_ r1 ∧ Below w.heap.size w w' := by
 have hu29 := Tryd.underlying29
 have HR0_0 := Aside0.mk hr0_0
 have HC0_0 := Aside0.mk hc0_0
 clear hr0_0 hc0_0
 have HB := Aside0.mk (Below.refl w.heap.size w)
 have H : ((some (([] : List (S56)) : List (S56))).bind fun y302 => (if y302.length + l0_0.length < 2199023255552 then (some ((y302 ++ l0_0), a0_1, a0_2)) else (none))) = some (r1, r2, r3) := h
 clear h
 obtain ⟨y302, hy302⟩ : ∃ y_ : List (S56), y_ = (([] : List (S56))) := ⟨_, rfl⟩
 replace H : (if y302.length + l0_0.length < 2199023255552 then (some ((y302 ++ l0_0), a0_1, a0_2)) else (none)) = some (r1, r2, r3) := by first | (rw [hy302]; with_reducible exact H) | (have H2_ := (Option.bind_some _ _).symm.trans H; rw [hy302]; with_reducible exact H2_) | (have H2_ := (Option.bind_some _ _).symm.trans H; with_reducible exact H2_) | with_reducible exact H | (rw [hy302]; exact H) | exact H
 have Ny302 := Aside0.mk hy302
 clear hy302
 by_cases c2 : y302.length + l0_0.length < 2199023255552
 ·rw [if_pos c2] at H
  have LMc2 := Aside0.mk c2
  clear c2
  obtain ⟨y305, hy305⟩ : ∃ y_ : List (S56), y_ = (y302 ++ l0_0) := ⟨_, rfl⟩
  replace H : (some (y305, a0_1, a0_2)) = some (r1, r2, r3) := by first | (rw [hy305]; with_reducible exact H) | (have H2_ := (Option.bind_some _ _).symm.trans H; rw [hy305]; with_reducible exact H2_) | (have H2_ := (Option.bind_some _ _).symm.trans H; with_reducible exact H2_) | with_reducible exact H | (rw [hy305]; exact H) | exact H
  have Ny305 := Aside0.mk hy305
  clear hy305
  simp only [Option.some.injEq, Prod.mk.injEq] at H
  obtain ⟨rfl, rfl, rfl⟩ := H
  go_enter Tryd.func60, Tryd.ntmps60
  go_wp2_with (first | ((with_reducible refine gate_dst (N := 1) rfl ?_); refine box_event ?hg (N := 1) ?hd (cs := #[.slice A0_0 l0_0.length c0_0, .int .i64 a0_1, .bool a0_2]) (t := 29) ?hr ?_; (case hd => rfl); (case hg => rfl); (case hr => first | (go_simp; done) | (go_simp; rfl)); intro gb300 hg w3 hbox hb; have n0_ := Aside0.mk (below_step (bel_) hb); have n1_ := Aside0.mk (hbox); have n2_ := Aside0.mk ((by rw [hg]; exact (below_size (bel_)) : w.heap.size ≤ gb300)); have n3_ := Aside0.mk ((by rw [hg]; exact (below_size (bel_)) : w.heap.size ≤ gb300)); clear HB; have HB := n0_; have BK300 := n1_; have GW300 := n2_; have GE300 := n3_; clear n0_ n1_ n2_ n3_; clear hb hbox hg) | ((with_reducible refine gate_dst (N := 2) rfl ?_); refine box_event ?hg (N := 2) ?hd (cs := #[.slice none 0 0, .int .i64 0, .bool false]) (t := 29) ?hr ?_; (case hd => rfl); (case hg => rfl); (case hr => first | (go_simp; done) | (go_simp; rfl)); intro gb301 hg w4 hbox hb; have n0_ := Aside0.mk (blk_below (g := gb300) (o := .cells #[.slice A0_0 l0_0.length c0_0, .int .i64 a0_1, .bool a0_2] 29 (0, 0)) (bp_ BK300.out) hb); have n1_ := Aside0.mk (below_step (bel_) hb); have n2_ := Aside0.mk (hbox); have n3_ := Aside0.mk ((by rw [hg]; exact (below_size (bel_)) : w.heap.size ≤ gb301)); have n4_ := Aside0.mk ((by rw [hg]; exact (below_size (bel_)) : w.heap.size ≤ gb301)); have n5_ := Aside0.mk ((by rw [hg]; exact Nat.ne_of_lt (blk_lt (g := gb300) (o := .cells #[.slice A0_0 l0_0.length c0_0, .int .i64 a0_1, .bool a0_2] 29 (0, 0)) (bp_ BK300.out)) : gb300 ≠ gb301)); have n6_ := Aside0.mk ((by rw [hg]; exact Nat.ne_of_gt (blk_lt (g := gb300) (o := .cells #[.slice A0_0 l0_0.length c0_0, .int .i64 a0_1, .bool a0_2] 29 (0, 0)) (bp_ BK300.out)) : gb301 ≠ gb300)); clear BK300; clear HB; have BK300 := n0_; have HB := n1_; have BK301 := n2_; have GW301 := n3_; have GE301 := n4_; have NB300_301 := n5_; have NB301_300 := n6_; clear n0_ n1_ n2_ n3_ n4_ n5_ n6_; clear hb hbox hg) | ((with_reducible refine gate_dst (N := 3) rfl ?_); refine Kd.R_lit k56 _ 56 ?hg (N := 3) ?hd (xs := ([] : List (S56))) (inner := []) (ok := fun _ => True) (okp := fun _ => True) ?hr ?hp (fun _ hk => hk) trivial (Below.refl _ _) (Nat.le_refl _) (by simp) ?_; (case hd => rfl); (case hg => rfl); (case hr => first | (go_simp; done) | (go_simp; rfl)); (case hp => exact (Reps.none _ _)); intro v303 w5 ho6 hb hg_ hnew_; clear hg_ hnew_; (first | rw [← Ny302.out] at ho6 | (simp only [Int.reduceToNat] at ho6; rw [← Ny302.out] at ho6)); have HO304 := Aside0.mk (Kd.R_lower ho6 (below_size (bel_))); replace HB := Aside0.mk (below_step (bel_) hb); replace BK300 := Aside0.mk (blk_below (g := gb300) (o := .cells #[.slice A0_0 l0_0.length c0_0, .int .i64 a0_1, .bool a0_2] 29 (0, 0)) (bp_ BK300.out) hb); replace BK301 := Aside0.mk (blk_below (g := gb301) (o := .cells #[.slice none 0 0, .int .i64 0, .bool false] 29 (0, 0)) (bp_ BK301.out) hb); clear hb ho6; have hnb7 := NB300_301.out; have hnc7 := NB301_300.out; have hcz8_0 : w5.cell? ⟨gb300, 0, none⟩ = some (.slice A0_0 l0_0.length c0_0) := (blk_cell BK300.out 0).trans rfl; have hcz8_1 : w5.cell? ⟨gb300, 1, none⟩ = some (.int .i64 a0_1) := (blk_cell BK300.out 1).trans rfl; have hcz8_2 : w5.cell? ⟨gb300, 2, none⟩ = some (.bool a0_2) := (blk_cell BK300.out 2).trans rfl; have hfz8_0 := blk_frozen BK300.out 0; have hfz8_1 := blk_frozen BK300.out 1; have hfz8_2 := blk_frozen BK300.out 2) | ((with_reducible refine gate_builtin (b := .append) (xs := #[.tmp 3, .tmp 5]) rfl ?_); at_builtin; refine Kd.R_append_rows k56 (w0 := w) w.heap.size rfl (.tmp 3) (.tmp 5) 26 56 (.agg #[(.int .i64 0), (.int .i64 0), (.int .i64 0), (.int .i64 0), (.int .i64 0), (.int .i64 0), (.string ⟨#[]⟩)]) 64 rfl Tryd.underlying26 info56 rfl (by decide) (by omega) v303 y302 l0_0 _ _ _ (fun _ => True) (fun _ => False) rfl rfl ?aO ?aR (fun _ _ h => h) (fun _ h => h.elim) ?aF ?aB ?aS ?aL ?_; (case aR => repeat (first | exact (Kd.C_below HR0_0.out HB.out) | (with_reducible refine Kd.C_alloc ?_ _) | (with_reducible refine Kd.C_drewN ?_ _) | (with_reducible refine Kd.C_drew ?_))); (case aB => exact (bel_)); (case aF => exact (fun _ _ => trivial)); (case aO => exact (rp_ HO304.out)); (case aS => exact (below_size (bel_))); (case aL => have := LMc2.out; omega); intro v306 w9 ho hb hg hat; rw [← Ny305.out] at ho; replace BK300 := Aside0.mk (blk_grown (g := gb300) (o := .cells #[.slice A0_0 l0_0.length c0_0, .int .i64 a0_1, .bool a0_2] 29 (0, 0)) (bp_ BK300.out) hg (Kd.R_ne HO304.out BK300.out (by decide))); replace BK301 := Aside0.mk (blk_grown (g := gb301) (o := .cells #[.slice none 0 0, .int .i64 0, .bool false] 29 (0, 0)) (bp_ BK301.out) hg (Kd.R_ne HO304.out BK301.out (by decide))); replace HB := Aside0.mk (hb); have HO307 := Aside0.mk (ho); clear HO304; clear ho hb hg hat; obtain ⟨Ao10, co10, eo10⟩ := Kd.R_slice HO307.out; subst eo10; have hcz11_0 : w9.cell? ⟨gb300, 0, none⟩ = some (.slice A0_0 l0_0.length c0_0) := (blk_cell BK300.out 0).trans rfl; have hcz11_1 : w9.cell? ⟨gb300, 1, none⟩ = some (.int .i64 a0_1) := (blk_cell BK300.out 1).trans rfl; have hcz11_2 : w9.cell? ⟨gb300, 2, none⟩ = some (.bool a0_2) := (blk_cell BK300.out 2).trans rfl; have hfz11_0 := blk_frozen BK300.out 0; have hfz11_1 := blk_frozen BK300.out 1; have hfz11_2 := blk_frozen BK300.out 2; have hcz12_0 : w9.cell? ⟨gb301, 0, none⟩ = some (.slice none 0 0) := (blk_cell BK301.out 0).trans rfl; have hcz12_1 : w9.cell? ⟨gb301, 1, none⟩ = some (.int .i64 0) := (blk_cell BK301.out 1).trans rfl; have hcz12_2 : w9.cell? ⟨gb301, 2, none⟩ = some (.bool false) := (blk_cell BK301.out 2).trans rfl; have hfz12_0 := blk_frozen BK301.out 0; have hfz12_1 := blk_frozen BK301.out 1; have hfz12_2 := blk_frozen BK301.out 2))
  refine bodyPost_ret (results_cell_row rfl _ _ gb301 29 #[.slice Ao10 y305.length co10, .int .i64 a0_1, .bool a0_2] (0, 0) _ rfl (by (with_reducible repeat (first | refine blk_drewN ?_ _ | refine blk_drew ?_ | refine blk_alloc ?_ _)); refine blk_put (cs := #[.slice Ao10 y305.length co10, .int .i64 a0_1, .bool false]) ?_ 2 _ rfl; (with_reducible repeat (first | refine blk_drewN ?_ _ | refine blk_drew ?_ | refine blk_alloc ?_ _)); refine blk_put (cs := #[.slice Ao10 y305.length co10, .int .i64 0, .bool false]) ?_ 1 _ rfl; (with_reducible repeat (first | refine blk_drewN ?_ _ | refine blk_drew ?_ | refine blk_alloc ?_ _)); refine blk_put (cs := #[.slice none 0 0, .int .i64 0, .bool false]) ?_ 0 _ rfl; (with_reducible repeat (first | refine blk_drewN ?_ _ | refine blk_drew ?_ | refine blk_alloc ?_ _)); refine blk_far ?_ NB301_300.out _; (with_reducible repeat (first | refine blk_drewN ?_ _ | refine blk_drew ?_ | refine blk_alloc ?_ _)); exact BK301.out) Tryd.underlying29 rfl (by kernel_rfl)) rfl ?_
  exact ⟨_, fi_, by (with_reducible repeat (first | apply Kd.R_alloc | apply Kd.R_drewN | apply Kd.R_drew)); exact Kd.R_mono (Kd.R_far (p := ⟨gb301, 2, none⟩) (Kd.R_far (p := ⟨gb301, 1, none⟩) (Kd.R_far (p := ⟨gb301, 0, none⟩) (Kd.R_far (p := ⟨gb300, 0, none⟩) (Kd.R_types (Kd.R_types HO307.out BK300.out (by decide)) BK301.out (by decide)) (fun _ hk => hk.1.2) (.slice Ao10 y305.length co10)) (fun _ hk => hk.2) (.slice Ao10 y305.length co10)) (fun _ hk => hk.2) (.int .i64 a0_1)) (fun _ hk => hk.2) (.bool a0_2)) (fun _ hk => trivial), bel_⟩
 ·rw [if_neg c2] at H
  exact absurd H (by simp)

def spec_ServerFall.j0 : Nat → Int → Bool → List (S56) → Int → Bool → Option ((List (S56)) × Int × Bool)
 | 0, _, _, _, _, _ => none
 | k + 1, x1, x12, x309000, x309001, x309002 => if x12 = true then (some (([] : List (S56)), 0, false)) else ((spec_l13Copy.f x309000 x309001 x309002).bind fun bt312 => ((spec_l13Fall.f bt312.1 bt312.2.1 bt312.2.2 x1).bind fun bt317 => (some (bt317.1, bt317.2.1, bt317.2.2))))
def spec_ServerFall.f (k : Nat) (l0_0 : List (S56)) (a0_1 : Int) (a0_2 : Bool) (a1 : Int) : Option ((List (S56)) × Int × Bool) := (spec_ServerOk.f k l0_0 a0_1 a0_2).bind fun t310 => (if t310 = true then ((spec_l6In.f a1 0 40).bind fun t311 => (spec_ServerFall.j0 k a1 (!t311) l0_0 a0_1 a0_2)) else (spec_ServerFall.j0 k a1 true l0_0 a0_1 a0_2))
theorem spec_ServerFall.mono_l : ∀ k, (∀ y0 y1 y2 y3 y4, LeO (spec_ServerFall.j0 k y0 y1 y2 y3 y4) (spec_ServerFall.j0 (k + 1) y0 y1 y2 y3 y4))
 | 0 => fun _ _ _ _ _ r h => by simp [spec_ServerFall.j0] at h
 | k + 1 => by
  have ih0 := spec_ServerFall.mono_l k
  ·intro y0 y1 y2 y3 y4
   unfold spec_ServerFall.j0
   repeat' first
   | (with_reducible exact ih0 _ _ _ _ _)
   | (with_reducible exact spec_ServerOk.mono _ _ _ _)
   | (with_reducible exact LeO.refl _)
   | (with_reducible exact LeO.none _)
   | (with_reducible refine LeO.ite ?_ ?_)
   | (with_reducible refine LeO.bind ?_ (fun _ => ?_))
   | exact ih0 _ _ _ _ _
   | exact spec_ServerOk.mono _ _ _ _
   | exact LeO.none _
   | refine LeO.ite ?_ ?_
   | refine LeO.bind ?_ (fun _ => ?_)
theorem spec_ServerFall.mono : ∀ a0 a1 a2 a3 k, LeO (spec_ServerFall.f k a0 a1 a2 a3) (spec_ServerFall.f (k + 1) a0 a1 a2 a3) := by
 intro a0 a1 a2 a3 k
 have ih0 := spec_ServerFall.mono_l k
 unfold spec_ServerFall.f
 repeat' first
   | (with_reducible exact ih0 _ _ _ _ _)
   | (with_reducible exact spec_ServerOk.mono _ _ _ _)
   | (with_reducible exact LeO.refl _)
   | (with_reducible exact LeO.none _)
   | (with_reducible refine LeO.ite ?_ ?_)
   | (with_reducible refine LeO.bind ?_ (fun _ => ?_))
   | exact ih0 _ _ _ _ _
   | exact spec_ServerOk.mono _ _ _ _
   | exact LeO.none _
   | refine LeO.ite ?_ ?_
   | refine LeO.bind ?_ (fun _ => ?_)
set_option maxHeartbeats 8000000 in
set_option maxRecDepth 100000 in
theorem spec_ServerFall.calls (k : Nat) (A0_0 : Option Addr) (c0_0 : Nat) (l0_0 : List (S56)) (a0_1 : Int) (a0_2 : Bool) (a1 : Int) (r1 : List (S56)) (r2 : Int) (r3 : Bool) (w : World) (hr0_0 : Kd.C k56 w A0_0 l0_0.length l0_0) (hc0_0 : l0_0.length ≤ c0_0) (h : spec_ServerFall.f k l0_0 a0_1 a0_2 a1 = some (r1, r2, r3)) :
  Calls Tryd.prog 29 #[.agg #[.slice A0_0 l0_0.length c0_0, .int .i64 a0_1, .bool a0_2], .int .i64 a1] w fun e w' => ∃ v0_ : Value, e = .returned (.agg #[v0_, .int .i64 r2, .bool r3]) ∧ Kd.R k56 56 w' w.heap.size (fun _ => True) v0_ r1 ∧ Below w.heap.size w w' := by
 have hu29 := Tryd.underlying29
 have HR0_0 := Aside0.mk hr0_0
 have HC0_0 := Aside0.mk hc0_0
 clear hr0_0 hc0_0
 have HB := Aside0.mk (Below.refl w.heap.size w)
 have H : ((spec_ServerOk.f k l0_0 a0_1 a0_2).bind fun t310 => (if t310 = true then ((spec_l6In.f a1 0 40).bind fun t311 => (spec_ServerFall.j0 k a1 (!t311) l0_0 a0_1 a0_2)) else (spec_ServerFall.j0 k a1 true l0_0 a0_1 a0_2))) = some (r1, r2, r3) := h
 clear h
 have HC3 := Aside0.mk H
 clear H
 go_enter Tryd.func29, Tryd.ntmps29
 go_upto_region 1 with (first | ((with_reducible refine gate_dst (N := 2) rfl ?_); refine box_event ?hg (N := 2) ?hd (cs := #[.slice A0_0 l0_0.length c0_0, .int .i64 a0_1, .bool a0_2]) (t := 29) ?hr ?_; (case hd => rfl); (case hg => rfl); (case hr => first | (go_simp; done) | (go_simp; rfl)); intro gb308 hg w4 hbox hb; have n0_ := Aside0.mk (below_step (bel_) hb); have n1_ := Aside0.mk (hbox); have n2_ := Aside0.mk ((by rw [hg]; exact (below_size (bel_)) : w.heap.size ≤ gb308)); have n3_ := Aside0.mk ((by rw [hg]; exact (below_size (bel_)) : w.heap.size ≤ gb308)); clear HB; have HB := n0_; have BK308 := n1_; have GW308 := n2_; have GE308 := n3_; clear n0_ n1_ n2_ n3_; clear hb hbox hg) | ((with_reducible refine gate_dst (N := 4) rfl ?_); refine box_event ?hg (N := 4) ?hd (cs := #[.slice none 0 0, .int .i64 0, .bool false]) (t := 29) ?hr ?_; (case hd => rfl); (case hg => rfl); (case hr => first | (go_simp; done) | (go_simp; rfl)); intro gb309 hg w5 hbox hb; have n0_ := Aside0.mk (blk_below (g := gb308) (o := .cells #[.slice A0_0 l0_0.length c0_0, .int .i64 a0_1, .bool a0_2] 29 (0, 0)) (bp_ BK308.out) hb); have n1_ := Aside0.mk (below_step (bel_) hb); have n2_ := Aside0.mk (hbox); have n3_ := Aside0.mk ((by rw [hg]; exact (below_size (bel_)) : w.heap.size ≤ gb309)); have n4_ := Aside0.mk ((by rw [hg]; exact (below_size (bel_)) : w.heap.size ≤ gb309)); have n5_ := Aside0.mk ((by rw [hg]; exact Nat.ne_of_lt (blk_lt (g := gb308) (o := .cells #[.slice A0_0 l0_0.length c0_0, .int .i64 a0_1, .bool a0_2] 29 (0, 0)) (bp_ BK308.out)) : gb308 ≠ gb309)); have n6_ := Aside0.mk ((by rw [hg]; exact Nat.ne_of_gt (blk_lt (g := gb308) (o := .cells #[.slice A0_0 l0_0.length c0_0, .int .i64 a0_1, .bool a0_2] 29 (0, 0)) (bp_ BK308.out)) : gb309 ≠ gb308)); clear BK308; clear HB; have BK308 := n0_; have HB := n1_; have BK309 := n2_; have GW309 := n3_; have GE309 := n4_; have NB308_309 := n5_; have NB309_308 := n6_; clear n0_ n1_ n2_ n3_ n4_ n5_ n6_; clear hb hbox hg))
 (try simp only [Act.put, List.setIfInBounds_toArray, List.set_cons_zero, List.set_cons_succ])
 go_cut [12] (fun v12 wc => ∃ (kq : Nat) (x12_2 : Bool), v12 = .bool x12_2 ∧ Aside0 (spec_ServerFall.j0 kq a1 x12_2 l0_0 a0_1 a0_2 = some (r1, r2, r3)) ∧ Aside0 (kq ≤ k) ∧ Aside0 (wc.heap[gb308]? = some (.cells #[(.slice A0_0 l0_0.length c0_0), .int .i64 a0_1, .bool a0_2] 29 (0, 0))) ∧ Aside0 (wc.heap[gb309]? = some (.cells #[(.slice none 0 0), .int .i64 0, .bool false] 29 (0, 0))) ∧ Aside0 (Below w.heap.size w wc))
 case first =>
  have H := HC3.out
  clear HC3
  replace H := Option.bind_eq_some_iff.mp H
  obtain ⟨t310, A60, H⟩ := H
  replace H : (if t310 = true then ((spec_l6In.f a1 0 40).bind fun t311 => (spec_ServerFall.j0 k a1 (!t311) l0_0 a0_1 a0_2)) else (spec_ServerFall.j0 k a1 true l0_0 a0_1 a0_2)) = some (r1, r2, r3) := H
  have A6 := Aside0.mk A60
  clear A60
  by_cases c7 : t310 = true
  ·subst c7
   have H1 : ((spec_l6In.f a1 0 40).bind fun t311 => (spec_ServerFall.j0 k a1 (!t311) l0_0 a0_1 a0_2)) = some (r1, r2, r3) := by rw [if_pos rfl] at H; exact H
   clear H
   have H := H1
   clear H1
   replace H := Option.bind_eq_some_iff.mp H
   obtain ⟨t311, A80, H⟩ := H
   replace H : (spec_ServerFall.j0 k a1 (!t311) l0_0 a0_1 a0_2) = some (r1, r2, r3) := H
   have A8 := Aside0.mk A80
   clear A80
   have H' := Aside0.mk H
   clear H
   have hnb9 := NB308_309.out
   have hnc9 := NB309_308.out
   have hcz10_0 : w5.cell? ⟨gb308, 0, none⟩ = some (.slice A0_0 l0_0.length c0_0) := (blk_cell BK308.out 0).trans rfl
   have hcz10_1 : w5.cell? ⟨gb308, 1, none⟩ = some (.int .i64 a0_1) := (blk_cell BK308.out 1).trans rfl
   have hcz10_2 : w5.cell? ⟨gb308, 2, none⟩ = some (.bool a0_2) := (blk_cell BK308.out 2).trans rfl
   have hfz10_0 := blk_frozen BK308.out 0
   have hfz10_1 := blk_frozen BK308.out 1
   have hfz10_2 := blk_frozen BK308.out 2
   go_wp2_with (first | ((with_reducible refine gate_callee (f := 27) rfl ?_); refine gl_ 6 Tryd.func27 #[.agg #[.slice A0_0 l0_0.length c0_0, .int .i64 a0_1, .bool a0_2]] ?_; (with_reducible refine (spec_ServerOk.calls k _ _ l0_0 a0_1 a0_2 true _ ?side1 ?side2 A6.out).mono ?_); (case side1 => exact cp_ HR0_0.out); (case side2 => exact HC0_0.out); rintro e w11 ⟨rfl, hb⟩; refine ⟨_, rfl, ?_⟩; replace HB := Aside0.mk (below_step (bel_) hb); replace BK308 := Aside0.mk (blk_below (g := gb308) (o := .cells #[.slice A0_0 l0_0.length c0_0, .int .i64 a0_1, .bool a0_2] 29 (0, 0)) (bp_ BK308.out) hb); replace BK309 := Aside0.mk (blk_below (g := gb309) (o := .cells #[.slice none 0 0, .int .i64 0, .bool false] 29 (0, 0)) (bp_ BK309.out) hb); (try clear hb); (try clear hb2); (try clear hk); (try clear hi)) | (go_at_call 49; (with_reducible refine (spec_l6In.calls a1 0 40 t311 _ A8.out).mono ?_); rintro e w' ⟨rfl, ⟨nd, rfl⟩⟩))
   go_meet
   case rel => exact ⟨_, (!t311), (si_), H', ⟨by first | omega | exact Nat.le_refl _⟩, ⟨by (with_reducible repeat (first | refine blk_drewN ?_ _ | refine blk_drew ?_ | refine blk_alloc ?_ _)); exact BK308.out⟩, ⟨by (with_reducible repeat (first | refine blk_drewN ?_ _ | refine blk_drew ?_ | refine blk_alloc ?_ _)); exact BK309.out⟩, ⟨bel_⟩⟩
  ·replace c7 := Bool.eq_false_iff.mpr c7
   subst c7
   have H1 : (spec_ServerFall.j0 k a1 true l0_0 a0_1 a0_2) = some (r1, r2, r3) := by rw [if_neg (show ¬ (false = true) by decide)] at H; exact H
   clear H
   have H := H1
   clear H1
   have H' := Aside0.mk H
   clear H
   have hnb12 := NB308_309.out
   have hnc12 := NB309_308.out
   have hcz13_0 : w5.cell? ⟨gb308, 0, none⟩ = some (.slice A0_0 l0_0.length c0_0) := (blk_cell BK308.out 0).trans rfl
   have hcz13_1 : w5.cell? ⟨gb308, 1, none⟩ = some (.int .i64 a0_1) := (blk_cell BK308.out 1).trans rfl
   have hcz13_2 : w5.cell? ⟨gb308, 2, none⟩ = some (.bool a0_2) := (blk_cell BK308.out 2).trans rfl
   have hfz13_0 := blk_frozen BK308.out 0
   have hfz13_1 := blk_frozen BK308.out 1
   have hfz13_2 := blk_frozen BK308.out 2
   go_wp2_with (first | ((with_reducible refine gate_callee (f := 27) rfl ?_); refine gl_ 6 Tryd.func27 #[.agg #[.slice A0_0 l0_0.length c0_0, .int .i64 a0_1, .bool a0_2]] ?_; (with_reducible refine (spec_ServerOk.calls k _ _ l0_0 a0_1 a0_2 false _ ?side1 ?side2 A6.out).mono ?_); (case side1 => exact cp_ HR0_0.out); (case side2 => exact HC0_0.out); rintro e w14 ⟨rfl, hb⟩; refine ⟨_, rfl, ?_⟩; replace HB := Aside0.mk (below_step (bel_) hb); replace BK308 := Aside0.mk (blk_below (g := gb308) (o := .cells #[.slice A0_0 l0_0.length c0_0, .int .i64 a0_1, .bool a0_2] 29 (0, 0)) (bp_ BK308.out) hb); replace BK309 := Aside0.mk (blk_below (g := gb309) (o := .cells #[.slice none 0 0, .int .i64 0, .bool false] 29 (0, 0)) (bp_ BK309.out) hb); (try clear hb); (try clear hb2); (try clear hk); (try clear hi)))
   go_meet
   case rel => exact ⟨_, (true), (si_), H', ⟨by first | omega | exact Nat.le_refl _⟩, ⟨by (with_reducible repeat (first | refine blk_drewN ?_ _ | refine blk_drew ?_ | refine blk_alloc ?_ _)); exact BK308.out⟩, ⟨by (with_reducible repeat (first | refine blk_drewN ?_ _ | refine blk_drew ?_ | refine blk_alloc ?_ _)); exact BK309.out⟩, ⟨bel_⟩⟩
 case rest =>
  clear HC3
  try clear c1
  try clear c2
  try clear p2
  try clear c7
  try clear c9
  try clear c12
  try clear hcz10_0
  try clear hcz10_1
  try clear hcz10_2
  try clear hcz13_0
  try clear hcz13_1
  try clear hcz13_2
  try clear hfz10_0
  try clear hfz10_1
  try clear hfz10_2
  try clear hfz13_0
  try clear hfz13_1
  try clear hfz13_2
  obtain ⟨kq, x12_2, rfl, HA, HJ2, BK308, BK309, HB⟩ := hcut
  cases kq with
  | zero => exact absurd HA.out (by simp [spec_ServerFall.j0])
  | succ kj2 =>
   have H := HA.out
   clear HA
   simp only [spec_ServerFall.j0] at H
   by_cases c15 : x12_2 = true
   ·subst c15
    have H1 : (some (([] : List (S56)), 0, false)) = some (r1, r2, r3) := by rw [if_pos rfl] at H; exact H
    clear H
    have H := H1
    clear H1
    simp only [Option.some.injEq, Prod.mk.injEq] at H
    obtain ⟨rfl, rfl, rfl⟩ := H
    have hnb16 := NB309_308.out
    have hnc16 := NB308_309.out
    have hcz17_0 : wc.cell? ⟨gb309, 0, none⟩ = some (.slice none 0 0) := (blk_cell BK309.out 0).trans rfl
    have hcz17_1 : wc.cell? ⟨gb309, 1, none⟩ = some (.int .i64 0) := (blk_cell BK309.out 1).trans rfl
    have hcz17_2 : wc.cell? ⟨gb309, 2, none⟩ = some (.bool false) := (blk_cell BK309.out 2).trans rfl
    have hfz17_0 := blk_frozen BK309.out 0
    have hfz17_1 := blk_frozen BK309.out 1
    have hfz17_2 := blk_frozen BK309.out 2
    go_wp2
    refine bodyPost_ret (results_cell_row rfl _ _ gb309 29 #[.slice none 0 0, .int .i64 0, .bool false] (0, 0) _ rfl (by (with_reducible repeat (first | refine blk_drewN ?_ _ | refine blk_drew ?_ | refine blk_alloc ?_ _)); refine blk_put (cs := #[.slice none 0 0, .int .i64 0, .bool false]) ?_ 2 _ rfl; (with_reducible repeat (first | refine blk_drewN ?_ _ | refine blk_drew ?_ | refine blk_alloc ?_ _)); refine blk_put (cs := #[.slice none 0 0, .int .i64 0, .bool false]) ?_ 1 _ rfl; (with_reducible repeat (first | refine blk_drewN ?_ _ | refine blk_drew ?_ | refine blk_alloc ?_ _)); refine blk_put (cs := #[.slice none 0 0, .int .i64 0, .bool false]) ?_ 0 _ rfl; (with_reducible repeat (first | refine blk_drewN ?_ _ | refine blk_drew ?_ | refine blk_alloc ?_ _)); exact BK309.out) Tryd.underlying29 rfl (by kernel_rfl)) rfl ?_
    exact ⟨_, fi_, by first | exact Kd.R_nil _ _ _ _ _ | exact Kd.N_nil _ _ _ _ _ | exact Kd.V_nil _ _ _ _ _ | exact Kd.Q_nil _ _ _ _ _ | exact Kd.S_nil _ _ _ _ _, bel_⟩
   ·replace c15 := Bool.eq_false_iff.mpr c15
    subst c15
    have H1 : ((spec_l13Copy.f l0_0 a0_1 a0_2).bind fun bt312 => ((spec_l13Fall.f bt312.1 bt312.2.1 bt312.2.2 a1).bind fun bt317 => (some (bt317.1, bt317.2.1, bt317.2.2)))) = some (r1, r2, r3) := by rw [if_neg (show ¬ (false = true) by decide)] at H; exact H
    clear H
    have H := H1
    clear H1
    replace H := Option.bind_eq_some_iff.mp H
    obtain ⟨⟨t312, t315, t316⟩, A180, H⟩ := H
    replace H : ((spec_l13Fall.f t312 t315 t316 a1).bind fun bt317 => (some (bt317.1, bt317.2.1, bt317.2.2))) = some (r1, r2, r3) := H
    have A18 := Aside0.mk A180
    clear A180
    replace H := Option.bind_eq_some_iff.mp H
    obtain ⟨⟨t317, t320, t321⟩, A190, H⟩ := H
    replace H : (some (t317, t320, t321)) = some (r1, r2, r3) := H
    have A19 := Aside0.mk A190
    clear A190
    simp only [Option.some.injEq, Prod.mk.injEq] at H
    obtain ⟨rfl, rfl, rfl⟩ := H
    have hnb20 := NB308_309.out
    have hnc20 := NB309_308.out
    have hcz21_0 : wc.cell? ⟨gb308, 0, none⟩ = some (.slice A0_0 l0_0.length c0_0) := (blk_cell BK308.out 0).trans rfl
    have hcz21_1 : wc.cell? ⟨gb308, 1, none⟩ = some (.int .i64 a0_1) := (blk_cell BK308.out 1).trans rfl
    have hcz21_2 : wc.cell? ⟨gb308, 2, none⟩ = some (.bool a0_2) := (blk_cell BK308.out 2).trans rfl
    have hfz21_0 := blk_frozen BK308.out 0
    have hfz21_1 := blk_frozen BK308.out 1
    have hfz21_2 := blk_frozen BK308.out 2
    go_wp2_with (first | ((with_reducible refine gate_callee (f := 60) rfl ?_); refine gl_ 15 Tryd.func60 #[.agg #[.slice A0_0 l0_0.length c0_0, .int .i64 a0_1, .bool a0_2]] ?_; (with_reducible refine (spec_l13Copy.calls _ _ l0_0 a0_1 a0_2 t312 t315 t316 _ ?side1 ?side2 A18.out).mono ?_); (case side1 => exact cp_ HR0_0.out); (case side2 => exact HC0_0.out); rintro e w22 ⟨v313, rfl, ho0, hb⟩; refine ⟨_, rfl, ?_⟩; have HO314 := Aside0.mk (Kd.R_lower ho0 (below_size (bel_))); replace HB := Aside0.mk (below_step (bel_) hb); replace BK308 := Aside0.mk (blk_below (g := gb308) (o := .cells #[.slice A0_0 l0_0.length c0_0, .int .i64 a0_1, .bool a0_2] 29 (0, 0)) (bp_ BK308.out) hb); replace BK309 := Aside0.mk (blk_below (g := gb309) (o := .cells #[.slice none 0 0, .int .i64 0, .bool false] 29 (0, 0)) (bp_ BK309.out) hb); (try clear hb); (try clear hb2); (try clear hk); (try clear hi); (try clear ho0); obtain ⟨Ao23, co23, eo23⟩ := Kd.R_slice HO314.out; subst eo23) | ((with_reducible refine gate_callee (f := 59) rfl ?_); refine gl_ 17 Tryd.func59 #[.agg #[.slice Ao23 t312.length co23, .int .i64 t315, .bool t316], .int .i64 a1] ?_; (with_reducible refine (spec_l13Fall.calls _ _ t312 t315 t316 a1 t317 t320 t321 _ ?side1 ?side2 A19.out).mono ?_); (case side1 => repeat (first | exact (Kd.R_reads' HO314.out).2.2 | (with_reducible refine Kd.C_alloc ?_ _) | (with_reducible refine Kd.C_drewN ?_ _) | (with_reducible refine Kd.C_drew ?_))); (case side2 => exact (Kd.R_reads' HO314.out).2.1); rintro e w24 ⟨v318, rfl, ho0, hb⟩; refine ⟨_, rfl, ?_⟩; have HO319 := Aside0.mk (Kd.R_lower (Kd.R_new' ho0 (Kd.R_lt (rp_ HO314.out))) (below_size (bel_))); replace HO314 := Aside0.mk (Kd.R_elder' (rp_ HO314.out) (Kd.R_base ho0) hb); replace HB := Aside0.mk (below_step (bel_) hb); replace BK308 := Aside0.mk (blk_below (g := gb308) (o := .cells #[.slice A0_0 l0_0.length c0_0, .int .i64 a0_1, .bool a0_2] 29 (0, 0)) (bp_ BK308.out) hb); replace BK309 := Aside0.mk (blk_below (g := gb309) (o := .cells #[.slice none 0 0, .int .i64 0, .bool false] 29 (0, 0)) (bp_ BK309.out) hb); (try clear hb); (try clear hb2); (try clear hk); (try clear hi); (try clear ho0); obtain ⟨Ao25, co25, eo25⟩ := Kd.R_slice HO319.out; subst eo25; have hcz26_0 : w24.cell? ⟨gb309, 0, none⟩ = some (.slice none 0 0) := (blk_cell BK309.out 0).trans rfl; have hcz26_1 : w24.cell? ⟨gb309, 1, none⟩ = some (.int .i64 0) := (blk_cell BK309.out 1).trans rfl; have hcz26_2 : w24.cell? ⟨gb309, 2, none⟩ = some (.bool false) := (blk_cell BK309.out 2).trans rfl; have hfz26_0 := blk_frozen BK309.out 0; have hfz26_1 := blk_frozen BK309.out 1; have hfz26_2 := blk_frozen BK309.out 2))
    refine bodyPost_ret (results_cell_row rfl _ _ gb309 29 #[.slice Ao25 t317.length co25, .int .i64 t320, .bool t321] (0, 0) _ rfl (by (with_reducible repeat (first | refine blk_drewN ?_ _ | refine blk_drew ?_ | refine blk_alloc ?_ _)); refine blk_put (cs := #[.slice Ao25 t317.length co25, .int .i64 t320, .bool false]) ?_ 2 _ rfl; (with_reducible repeat (first | refine blk_drewN ?_ _ | refine blk_drew ?_ | refine blk_alloc ?_ _)); refine blk_put (cs := #[.slice Ao25 t317.length co25, .int .i64 0, .bool false]) ?_ 1 _ rfl; (with_reducible repeat (first | refine blk_drewN ?_ _ | refine blk_drew ?_ | refine blk_alloc ?_ _)); refine blk_put (cs := #[.slice none 0 0, .int .i64 0, .bool false]) ?_ 0 _ rfl; (with_reducible repeat (first | refine blk_drewN ?_ _ | refine blk_drew ?_ | refine blk_alloc ?_ _)); exact BK309.out) Tryd.underlying29 rfl (by kernel_rfl)) rfl ?_
    exact ⟨_, fi_, by (with_reducible repeat (first | apply Kd.R_alloc | apply Kd.R_drewN | apply Kd.R_drew)); exact Kd.R_mono (Kd.R_far (p := ⟨gb309, 2, none⟩) (Kd.R_far (p := ⟨gb309, 1, none⟩) (Kd.R_far (p := ⟨gb309, 0, none⟩) (Kd.R_types HO319.out BK309.out (by decide)) (fun _ hk => hk.2) (.slice Ao25 t317.length co25)) (fun _ hk => hk.2) (.int .i64 t320)) (fun _ hk => hk.2) (.bool t321)) (fun _ hk => trivial), bel_⟩



end Go.Proofs.YtnclcbjagleoeaaDoor.P
namespace Go.Proofs.YtnclcbjagleoeaaDoor.P
open Go.RowKit Go.Proofs.YtnclcbjagleoeaaDoorW.PrintWords Go.Proofs.YtnclcbjagleoeaaDoorW.PrintLast
set_option linter.unusedVariables false
set_option linter.unusedSimpArgs false
theorem eqA54 (d : Nat) (w : World) (x0 y0 : Int) (x1 y1 : Int) (x2 y2 : Int) (x3 y3 : Int) (x4 y4 : ByteArray) :
  (Op.equalIn (d + 2) 54 (.agg #[.int .i64 x0, .int .i64 x1, .int .i64 x2, .int .i64 x3, .string x4]) (.agg #[.int .i64 y0, .int .i64 y1, .int .i64 y2, .int .i64 y3, .string y4])).run Tryd.prog w = .ok (x0 == y0 && (x1 == y1 && (x2 == y2 && (x3 == y3 && (x4.toList == y4.toList))))) w := by
 refine eqA_of Tryd.underlying54 (by kernel_rfl) ?_
 refine eqf_cons (by rfl) (by go_simp; rfl) (by go_simp; rfl) (by go_simp) ?_
 refine eqf_cons (by rfl) (by go_simp; rfl) (by go_simp; rfl) (by go_simp) ?_
 refine eqf_cons (by rfl) (by go_simp; rfl) (by go_simp; rfl) (by go_simp) ?_
 refine eqf_cons (by rfl) (by go_simp; rfl) (by go_simp; rfl) (by go_simp) ?_
 exact eqf_last (by rfl) (by go_simp; rfl) (by go_simp; rfl) (by go_simp)
theorem eqA56 (d : Nat) (w : World) (x0 y0 : Int) (x1 y1 : Int) (x2 y2 : Int) (x3 y3 : Int) (x4 y4 : Int) (x5 y5 : Int) (x6 y6 : ByteArray) :
  (Op.equalIn (d + 3) 56 (.agg #[.int .i64 x0, .int .i64 x1, .int .i64 x2, .int .i64 x3, .int .i64 x4, .int .i64 x5, .string x6]) (.agg #[.int .i64 y0, .int .i64 y1, .int .i64 y2, .int .i64 y3, .int .i64 y4, .int .i64 y5, .string y6])).run Tryd.prog w = .ok (x0 == y0 && (x1 == y1 && ((x2 == y2 && (x3 == y3 && (x4 == y4 && (x5 == y5 && (x6.toList == y6.toList)))))))) w := by
 refine eqA_of Tryd.underlying56 (by kernel_rfl) ?_
 refine eqf_cons (by rfl) (by go_simp; rfl) (by go_simp; rfl) (by go_simp) ?_
 refine eqf_cons (by rfl) (by go_simp; rfl) (by go_simp; rfl) (by go_simp) ?_
 exact eqf_last (by rfl) (by go_simp) (by go_simp) (eqA54 (d + 0) w _ _ _ _ _ _ _ _ _ _)
end Go.Proofs.YtnclcbjagleoeaaDoor.P
set_option linter.unusedVariables false
set_option linter.unusedSimpArgs false
namespace Go.Proofs.YtnclcbjagleoeaaDoor.P
open Go.RowKit Go.Proofs.YtnclcbjagleoeaaDoorW.PrintWords Go.Proofs.YtnclcbjagleoeaaDoorW.PrintLast Go.Proofs.YtnclcbjagleoeaaDoorW.PrintMore
/-- Block g is a server at work: its log l lies in memory of its own (from base), apart from g; its queue is the value q. -/
def Mach (w : World) (base g : Nat) (l : List S56) (q : Value) (s : Int) (u : Bool) : Prop :=
  ∃ (A : Option Addr) (c : Nat), w.heap[g]? = some (.cells #[.slice A l.length c, q, .int .i64 s, .bool u] 83 (0, 0)) ∧ Kd.R k56 56 w base (fun k => k ≠ g) (.slice A l.length c) l ∧ base ≤ g
set_option maxHeartbeats 4000000 in
set_option maxRecDepth 100000 in
theorem impl_machineOf.calls (A0 : Option Addr) (c0 : Nat) (l0 : List S56) (a1 : Int) (a2 : Bool) (w : World) (hr0 : Kd.C k56 w A0 l0.length l0) (hc0 : l0.length ≤ c0) (hl : l0.length < 2199023255552) :
    Calls Tryd.prog 61 #[.agg #[.slice A0 l0.length c0, .int .i64 a1, .bool a2]] w fun e w' => ∃ g : Nat, e = .returned (.pointer (some ⟨g, 0, none⟩)) ∧ Mach w' w.heap.size g l0 (.slice none 0 0) a1 a2 ∧ Below w.heap.size w w' := by
  have hf : impl_Entry_51.f l0 = some l0 := if_pos hl
  have HF := Aside0.mk hf
  have HR0 := Aside0.mk hr0
  have HC0 := Aside0.mk hc0
  clear hr0 hc0 hf hl
  have hu1 := Tryd.underlying29
  have hu2 := Tryd.underlying83
  have hu3 := Tryd.underlying79
  go_enter Tryd.func61, Tryd.ntmps61
  go_wp2
  have HB0 := Aside0.mk ((Below.refl w.heap.size w).alloc (Nat.le_refl _) (.cells #[.slice A0 l0.length c0, .int .i64 a1, .bool a2] 29))
  obtain ⟨W1, hW1⟩ : ∃ W1, W1 = w.alloc (.cells #[.slice A0 l0.length c0, .int .i64 a1, .bool a2] 29) := ⟨_, rfl⟩
  have hn0 : W1.heap[w.heap.size]? = some (.cells #[.slice A0 l0.length c0, .int .i64 a1, .bool a2] 29 (0, 0)) := by rw [hW1]; simpa using heap_alloc_new w _
  have HN0 := Aside0.mk hn0
  rw [← hW1] at HB0 ⊢
  clear hW1 hn0
  have hs0 : W1.cell? ⟨w.heap.size, 0, none⟩ = some (.slice A0 l0.length c0) := (blk_cell HN0.out 0).trans rfl
  have hs1 : W1.cell? ⟨w.heap.size, 1, none⟩ = some (.int .i64 a1) := (blk_cell HN0.out 1).trans rfl
  have hs2 : W1.cell? ⟨w.heap.size, 2, none⟩ = some (.bool a2) := (blk_cell HN0.out 2).trans rfl
  have HBd := Aside0.mk (below_drew1 HB0.out)
  have HNd := Aside0.mk (blk_drew HN0.out)
  clear HB0 HN0
  go_region_with (go_at_call 51; refine (impl_Entry_51.calls _ _ _ l0 _ (Kd.C_below HR0.out HBd.out) HC0.out HF.out).mono ?_; rintro e w2 ⟨v2, rfl, ho2, hb2⟩; obtain ⟨A2, c2, rfl⟩ := Kd.R_slice ho2; have HB2 := Aside0.mk (below_step HBd.out hb2); have HN2 := Aside0.mk (blk_below HNd.out hb2); have HO2 := Aside0.mk ho2; clear hb2 ho2; have hd1 := (blk_cell HN2.out 1).trans rfl; have hd2 := (blk_cell HN2.out 2).trans rfl)
  all_goals go_wp2
  all_goals go_ret
  all_goals refine ⟨w2.heap.size, rfl, ⟨A2, c2, by simpa using heap_alloc_new w2 _, Kd.R_mono (Kd.R_alloc (Kd.R_elderB (Kd.R_lower HO2.out HBd.out.size) _ (Nat.le_refl _)) _) (fun _ hk => hk.2), HB2.out.size⟩, below_alloc HB2.out _⟩
end Go.Proofs.YtnclcbjagleoeaaDoor.P
set_option linter.unusedVariables false
set_option linter.unusedSimpArgs false
namespace Go.Proofs.YtnclcbjagleoeaaDoor.P
open Go.RowKit Go.Proofs.YtnclcbjagleoeaaDoorW.PrintWords Go.Proofs.YtnclcbjagleoeaaDoorW.PrintLast Go.Proofs.YtnclcbjagleoeaaDoorW.PrintMore
set_option maxHeartbeats 4000000 in
set_option maxRecDepth 100000 in
theorem impl_mserver.callsC (g : Nat) (A : Option Addr) (c : Nat) (l0 : List S56) (q : Value) (a1 : Int) (a2 : Bool) (w : World) (hb : w.heap[g]? = some (.cells #[.slice A l0.length c, q, .int .i64 a1, .bool a2] 83 (0, 0))) (hr0 : Kd.C k56 w A l0.length l0) (hc0 : l0.length ≤ c) (hl : l0.length < 2199023255552) :
    Calls Tryd.prog 62 #[.pointer (some ⟨g, 0, none⟩)] w fun e w' => ∃ v0_ : Value, e = .returned (.agg #[v0_, .int .i64 a1, .bool a2]) ∧ Kd.R k56 56 w' w.heap.size (fun _ => True) v0_ l0 ∧ Below w.heap.size w w' := by
  have hf : impl_Entry_51.f l0 = some l0 := if_pos hl
  have HF := Aside0.mk hf
  have HR0 := Aside0.mk hr0
  have HC0 := Aside0.mk hc0
  have HBK := Aside0.mk hb
  clear hr0 hc0 hf hl hb
  have hu1 := Tryd.underlying29
  have hu2 := Tryd.underlying83
  have hu3 := Tryd.underlying79
  have HR1 := Aside0.mk (Below.refl w.heap.size w)
  go_enter Tryd.func62, Tryd.ntmps62
  go_wp2
  have HB0 := Aside0.mk ((Below.refl w.heap.size w).alloc (Nat.le_refl _) (.cells #[.slice none 0 0, .int .i64 0, .bool false] 29))
  have HK0 := Aside0.mk (blk_alloc HBK.out (.cells #[.slice none 0 0, .int .i64 0, .bool false] 29))
  obtain ⟨W1, hW1⟩ : ∃ W1, W1 = w.alloc (.cells #[.slice none 0 0, .int .i64 0, .bool false] 29) := ⟨_, rfl⟩
  have hn0 : W1.heap[w.heap.size]? = some (.cells #[.slice none 0 0, .int .i64 0, .bool false] 29 (0, 0)) := by rw [hW1]; simpa using heap_alloc_new w _
  have HN0 := Aside0.mk hn0
  rw [← hW1] at HB0 HK0 ⊢
  clear hW1 hn0
  have hs0 : W1.cell? ⟨g, 0, none⟩ = some (.slice A l0.length c) := (blk_cell HK0.out 0).trans rfl
  have hs2 : W1.cell? ⟨g, 2, none⟩ = some (.int .i64 a1) := (blk_cell HK0.out 2).trans rfl
  have hs3 : W1.cell? ⟨g, 3, none⟩ = some (.bool a2) := (blk_cell HK0.out 3).trans rfl
  have HBd := Aside0.mk (below_drew1 HB0.out)
  have HNd := Aside0.mk (blk_drew HN0.out)
  have HKd := Aside0.mk (blk_drew HK0.out)
  clear HB0 HN0 HK0
  go_region_with (go_at_call 51; refine (impl_Entry_51.calls _ _ _ l0 _ (Kd.C_below HR0.out HBd.out) HC0.out HF.out).mono ?_; rintro e w2 ⟨v2, rfl, ho2, hb2⟩; obtain ⟨A2, c2, rfl⟩ := Kd.R_slice ho2; have HB2 := Aside0.mk (below_step HBd.out hb2); have HN2 := Aside0.mk (blk_below HNd.out hb2); have HK2 := Aside0.mk (blk_below HKd.out hb2); have HO2 := Aside0.mk ho2; clear hb2 ho2; have hd0 := (blk_cell HK2.out 0).trans rfl; have hd2 := (blk_cell HK2.out 2).trans rfl; have hd3 := (blk_cell HK2.out 3).trans rfl; have he0 := (blk_cell HN2.out 0).trans rfl; have he1 := (blk_cell HN2.out 1).trans rfl; have he2 := (blk_cell HN2.out 2).trans rfl; have hf0 := blk_frozen HN2.out 0; have hf1 := blk_frozen HN2.out 1; have hf2 := blk_frozen HN2.out 2)
  all_goals have hrb := Kd.R_newB HO2.out HNd.out
  all_goals go_wp2
  all_goals (try simp only [Exit.inBlock, Exit.then])
  all_goals refine bodyPost_ret (results_cell_row rfl _ _ w.heap.size 29 #[.slice A2 l0.length c2, .int .i64 a1, .bool a2] (0, 0) _ rfl ((blk_set (blk_set (blk_set HN2.out 0 _) 1 _) 2 _).trans rfl) Tryd.underlying29 rfl (by kernel_rfl)) rfl ?_
  all_goals refine ⟨_, rfl, ?_, below_set (below_set (below_set HB2.out (Nat.le_refl _)) (Nat.le_refl _)) (Nat.le_refl _)⟩
  all_goals exact Kd.R_mono (Kd.R_far (Kd.R_far (Kd.R_far (Kd.R_lower hrb HBd.out.size) (p := ⟨w.heap.size, 0, none⟩) (fun _ hk => hk.2) _) (p := ⟨w.heap.size, 1, none⟩) (fun _ hk => hk.2) _) (p := ⟨w.heap.size, 2, none⟩) (fun _ hk => hk.2) _) (fun _ _ => trivial)
theorem impl_mserver.calls (base g : Nat) (l0 : List S56) (q : Value) (a1 : Int) (a2 : Bool) (w : World) (hM : Mach w base g l0 q a1 a2) (hl : l0.length < 2199023255552) :
    Calls Tryd.prog 62 #[.pointer (some ⟨g, 0, none⟩)] w fun e w' => ∃ v0_ : Value, e = .returned (.agg #[v0_, .int .i64 a1, .bool a2]) ∧ Kd.R k56 56 w' w.heap.size (fun _ => True) v0_ l0 ∧ Below w.heap.size w w' := by
  obtain ⟨A, c, hb, hr, hbase⟩ := hM
  obtain ⟨_, hc0, hr0⟩ := Kd.R_reads' hr
  exact impl_mserver.callsC g A c l0 q a1 a2 w hb hr0 hc0 hl
end Go.Proofs.YtnclcbjagleoeaaDoor.P
set_option linter.unusedVariables false
set_option linter.unusedSimpArgs false
namespace Go.Proofs.YtnclcbjagleoeaaDoor.P
open Go.RowKit Go.Proofs.YtnclcbjagleoeaaDoorW.PrintWords Go.Proofs.YtnclcbjagleoeaaDoorW.PrintLast Go.Proofs.YtnclcbjagleoeaaDoorW.PrintMore
/-- The last store of a region: nothing is shown of the memory behind it. -/
theorem fin_ {P : Program} {ops : Array Oper} {Q : Exit → Act → World → Prop} {md : Region.Mode} {S : World → Prop} {ds : List Nat} {i : Nat} {N : Option Tmp} {oi : Oper} {fuel : Nat} {l : Array Bool} {a : Act} {w : World} (l' : Array Bool) (hi : ops[i]? = some oi) (hN : oi.dst = N) (hc : readyB md ops l l' i = true) (hd : i ∈ ds)
    (h : ∀ K : Act → World → Prop, (∀ a' w', wpAnyLast P md ops Q S ds fuel l' a' w' → K a' w') → if Region.wanted oi (yielded ops a.tmps) = true then Oper.wp P oi a w K Q else K (a.put N undef) w) :
    wpAnyLast P md ops Q S ds (fuel + 1) l a w := by
  subst hN
  simp only [readyB, Bool.and_eq_true, beq_iff_eq] at hc
  obtain ⟨h1, h2⟩ := hc
  subst h2
  refine wpAnyLast_ready h1 (by simp) (fun j hj => ?_)
  rcases List.mem_singleton.1 hj with rfl
  exact wpOp_step hi (fun K' hK => h K' (fun a w hW => hK a w ⟨fun hn => absurd hd hn, hW⟩))
def fallAt (n : Nat) (safe left : Int) : Int := if (n : Int) < wrap64 (safe + left) then n else wrap64 (safe + left)
theorem fallAt_le (n : Nat) (safe left : Int) : fallAt n safe left ≤ n := by unfold fallAt; split <;> omega
def impl_ServerFall.f (k : Nat) (l0_0 : List S56) (a0_1 : Int) (a0_2 : Bool) (a1 : Int) : Option (List S56 × Int × Bool) :=
  (impl_ServerOk.f k l0_0 a0_1 a0_2).bind fun t => if t = true then (if a1 < 0 then some ([], 0, false) else if a1 > 40 then some ([], 0, false) else
    if l0_0.length < 2199023255552 then (if 0 ≤ fallAt l0_0.length a0_1 a1 then some (l0_0.take (fallAt l0_0.length a0_1 a1).toNat, a0_1, a0_2) else none) else none) else some ([], 0, false)
theorem impl_ServerFall.mono (l0_0 : List S56) (a0_1 : Int) (a0_2 : Bool) (a1 : Int) (k : Nat) : LeO (impl_ServerFall.f k l0_0 a0_1 a0_2 a1) (impl_ServerFall.f (k + 1) l0_0 a0_1 a0_2 a1) := by
  unfold impl_ServerFall.f
  exact LeO.bind (impl_ServerOk.mono _ _ _ _) (fun _ => LeO.refl _)
set_option maxHeartbeats 4000000 in
set_option maxRecDepth 100000 in
theorem impl_ServerFall.calls (k : Nat) (A0_0 : Option Addr) (c0_0 : Nat) (l0_0 : List S56) (a0_1 : Int) (a0_2 : Bool) (a1 : Int) (r1 : List S56) (r2 : Int) (r3 : Bool) (w : World) (hr0_0 : Kd.C k56 w A0_0 l0_0.length l0_0) (hc0_0 : l0_0.length ≤ c0_0) (h : impl_ServerFall.f k l0_0 a0_1 a0_2 a1 = some (r1, r2, r3)) (hG : Glob w) :
    Calls Tryd.prog 30 #[.agg #[.slice A0_0 l0_0.length c0_0, .int .i64 a0_1, .bool a0_2], .int .i64 a1] w fun e w' => ∃ v0_ : Value, e = .returned (.agg #[v0_, .int .i64 r2, .bool r3]) ∧ Kd.R k56 56 w' w.heap.size (fun _ => True) v0_ r1 ∧ Below w.heap.size w w' := by
  have HR0 := Aside0.mk hr0_0
  have HC0 := Aside0.mk hc0_0
  have HG := Aside0.mk hG
  clear hr0_0 hc0_0 hG
  have hu1 := Tryd.underlying29
  have hu2 := Tryd.underlying83
  have hu3 := Tryd.underlying79
  unfold impl_ServerFall.f at h
  obtain ⟨t, ht, h⟩ := Option.bind_eq_some_iff.1 h
  have HT := Aside0.mk ht
  clear ht
  cases t with
  | false =>
    simp only [Bool.false_eq_true, if_false, Option.some.injEq, Prod.mk.injEq] at h
    obtain ⟨rfl, rfl, rfl⟩ := h
    go_enter Tryd.func30, Tryd.ntmps30
    go_wp2_with (first | ((with_reducible refine gate_dst (N := 2) rfl ?_); refine box_event ?hg (N := 2) ?hd (cs := #[.slice A0_0 l0_0.length c0_0, .int .i64 a0_1, .bool a0_2]) (t := 29) ?hr ?_; (case hd => rfl); (case hg => rfl); (case hr => first | (go_simp; done) | (go_simp; rfl)); intro g1 hg1 w1 hbox1 hb1; have HB1 := Aside0.mk hb1; have BK1 := Aside0.mk hbox1; clear hb1 hbox1 hg1) | ((with_reducible refine gate_dst (N := 4) rfl ?_); refine box_event ?hg (N := 4) ?hd (cs := #[.slice none 0 0, .int .i64 0, .bool false]) (t := 29) ?hr ?_; (case hd => rfl); (case hg => rfl); (case hr => first | (go_simp; done) | (go_simp; rfl)); intro g2 hg2 w2 hbox2 hb2; have BK12 := Aside0.mk (blk_below BK1.out hb2); have HB2 := Aside0.mk (below_step HB1.out hb2); have BK2 := Aside0.mk hbox2; have GE2 := Aside0.mk (show w.heap.size ≤ g2 by rw [hg2]; exact HB1.out.size); have LT2 := Aside0.mk (blk_lt hbox2); clear hb2 hbox2 hg2; have hx0 : w2.cell? ⟨g1, 0, none⟩ = some (.slice A0_0 l0_0.length c0_0) := (blk_cell BK12.out 0).trans rfl; have hx1 : w2.cell? ⟨g1, 1, none⟩ = some (.int .i64 a0_1) := (blk_cell BK12.out 1).trans rfl; have hx2 : w2.cell? ⟨g1, 2, none⟩ = some (.bool a0_2) := (blk_cell BK12.out 2).trans rfl) | (go_at_call 26; refine (impl_ServerOk.calls k _ _ l0_0 a0_1 a0_2 false _ (Kd.C_below HR0.out HB2.out) HC0.out HT.out (HG.out.below HB2.out)).mono ?_; rintro e w3 ⟨rfl, hb3⟩; have BK13 := Aside0.mk (blk_below BK12.out hb3); have BK23 := Aside0.mk (blk_below BK2.out hb3); have HB3 := Aside0.mk (below_step HB2.out hb3); have LT3 := Aside0.mk (Nat.lt_of_lt_of_le LT2.out hb3.size); clear hb3; have hy0 : w3.cell? ⟨g1, 0, none⟩ = some (.slice A0_0 l0_0.length c0_0) := (blk_cell BK13.out 0).trans rfl; have hy1 : w3.cell? ⟨g1, 1, none⟩ = some (.int .i64 a0_1) := (blk_cell BK13.out 1).trans rfl; have hy2 : w3.cell? ⟨g1, 2, none⟩ = some (.bool a0_2) := (blk_cell BK13.out 2).trans rfl; have hz0 : w3.cell? ⟨g2, 0, none⟩ = some (.slice none 0 0) := (blk_cell BK23.out 0).trans rfl; have hz1 : w3.cell? ⟨g2, 1, none⟩ = some (.int .i64 0) := (blk_cell BK23.out 1).trans rfl; have hz2 : w3.cell? ⟨g2, 2, none⟩ = some (.bool false) := (blk_cell BK23.out 2).trans rfl; have hzf0 := blk_frozen BK23.out 0; have hzf1 := blk_frozen BK23.out 1; have hzf2 := blk_frozen BK23.out 2))
    (try simp only [Exit.inBlock, Exit.then])
    refine bodyPost_ret (results_cell_row rfl _ _ g2 29 #[.slice none 0 0, .int .i64 0, .bool false] (0, 0) _ rfl ((blk_set (blk_set (blk_set BK23.out 0 _) 1 _) 2 _).trans rfl) Tryd.underlying29 rfl (by kernel_rfl)) rfl ?_
    exact ⟨_, rfl, Kd.R_nil _ _ _ _ _, below_set (below_set (below_set HB3.out GE2.out) GE2.out) GE2.out⟩
  | true =>
    rw [if_pos rfl] at h
    by_cases h1 : a1 < 0
    · rw [if_pos h1] at h
      simp only [Option.some.injEq, Prod.mk.injEq] at h
      obtain ⟨rfl, rfl, rfl⟩ := h
      have hd1 : decide (a1 < 0) = true := decide_eq_true h1
      clear h1
      go_enter Tryd.func30, Tryd.ntmps30
      go_wp2_with (first | ((with_reducible refine gate_dst (N := 2) rfl ?_); refine box_event ?hg (N := 2) ?hd (cs := #[.slice A0_0 l0_0.length c0_0, .int .i64 a0_1, .bool a0_2]) (t := 29) ?hr ?_; (case hd => rfl); (case hg => rfl); (case hr => first | (go_simp; done) | (go_simp; rfl)); intro g1 hg1 w1 hbox1 hb1; have HB1 := Aside0.mk hb1; have BK1 := Aside0.mk hbox1; clear hb1 hbox1 hg1) | ((with_reducible refine gate_dst (N := 4) rfl ?_); refine box_event ?hg (N := 4) ?hd (cs := #[.slice none 0 0, .int .i64 0, .bool false]) (t := 29) ?hr ?_; (case hd => rfl); (case hg => rfl); (case hr => first | (go_simp; done) | (go_simp; rfl)); intro g2 hg2 w2 hbox2 hb2; have BK12 := Aside0.mk (blk_below BK1.out hb2); have HB2 := Aside0.mk (below_step HB1.out hb2); have BK2 := Aside0.mk hbox2; have GE2 := Aside0.mk (show w.heap.size ≤ g2 by rw [hg2]; exact HB1.out.size); have LT2 := Aside0.mk (blk_lt hbox2); clear hb2 hbox2 hg2; have hx0 : w2.cell? ⟨g1, 0, none⟩ = some (.slice A0_0 l0_0.length c0_0) := (blk_cell BK12.out 0).trans rfl; have hx1 : w2.cell? ⟨g1, 1, none⟩ = some (.int .i64 a0_1) := (blk_cell BK12.out 1).trans rfl; have hx2 : w2.cell? ⟨g1, 2, none⟩ = some (.bool a0_2) := (blk_cell BK12.out 2).trans rfl) | (go_at_call 26; refine (impl_ServerOk.calls k _ _ l0_0 a0_1 a0_2 true _ (Kd.C_below HR0.out HB2.out) HC0.out HT.out (HG.out.below HB2.out)).mono ?_; rintro e w3 ⟨rfl, hb3⟩; have BK13 := Aside0.mk (blk_below BK12.out hb3); have BK23 := Aside0.mk (blk_below BK2.out hb3); have HB3 := Aside0.mk (below_step HB2.out hb3); have LT3 := Aside0.mk (Nat.lt_of_lt_of_le LT2.out hb3.size); clear hb3; have hy0 : w3.cell? ⟨g1, 0, none⟩ = some (.slice A0_0 l0_0.length c0_0) := (blk_cell BK13.out 0).trans rfl; have hy1 : w3.cell? ⟨g1, 1, none⟩ = some (.int .i64 a0_1) := (blk_cell BK13.out 1).trans rfl; have hy2 : w3.cell? ⟨g1, 2, none⟩ = some (.bool a0_2) := (blk_cell BK13.out 2).trans rfl; have hz0 : w3.cell? ⟨g2, 0, none⟩ = some (.slice none 0 0) := (blk_cell BK23.out 0).trans rfl; have hz1 : w3.cell? ⟨g2, 1, none⟩ = some (.int .i64 0) := (blk_cell BK23.out 1).trans rfl; have hz2 : w3.cell? ⟨g2, 2, none⟩ = some (.bool false) := (blk_cell BK23.out 2).trans rfl; have hzf0 := blk_frozen BK23.out 0; have hzf1 := blk_frozen BK23.out 1; have hzf2 := blk_frozen BK23.out 2))
      (try simp only [Exit.inBlock, Exit.then])
      refine bodyPost_ret (results_cell_row rfl _ _ g2 29 #[.slice none 0 0, .int .i64 0, .bool false] (0, 0) _ rfl ((blk_set (blk_set (blk_set BK23.out 0 _) 1 _) 2 _).trans rfl) Tryd.underlying29 rfl (by kernel_rfl)) rfl ?_
      exact ⟨_, rfl, Kd.R_nil _ _ _ _ _, below_set (below_set (below_set HB3.out GE2.out) GE2.out) GE2.out⟩
    · rw [if_neg h1] at h
      have hd1 : decide (a1 < 0) = false := decide_eq_false h1
      by_cases h2 : a1 > 40
      · rw [if_pos h2] at h
        simp only [Option.some.injEq, Prod.mk.injEq] at h
        obtain ⟨rfl, rfl, rfl⟩ := h
        have hd2 : decide (40 < a1) = true := decide_eq_true h2
        clear h1 h2
        go_enter Tryd.func30, Tryd.ntmps30
        go_wp2_with (first | ((with_reducible refine gate_dst (N := 2) rfl ?_); refine box_event ?hg (N := 2) ?hd (cs := #[.slice A0_0 l0_0.length c0_0, .int .i64 a0_1, .bool a0_2]) (t := 29) ?hr ?_; (case hd => rfl); (case hg => rfl); (case hr => first | (go_simp; done) | (go_simp; rfl)); intro g1 hg1 w1 hbox1 hb1; have HB1 := Aside0.mk hb1; have BK1 := Aside0.mk hbox1; clear hb1 hbox1 hg1) | ((with_reducible refine gate_dst (N := 4) rfl ?_); refine box_event ?hg (N := 4) ?hd (cs := #[.slice none 0 0, .int .i64 0, .bool false]) (t := 29) ?hr ?_; (case hd => rfl); (case hg => rfl); (case hr => first | (go_simp; done) | (go_simp; rfl)); intro g2 hg2 w2 hbox2 hb2; have BK12 := Aside0.mk (blk_below BK1.out hb2); have HB2 := Aside0.mk (below_step HB1.out hb2); have BK2 := Aside0.mk hbox2; have GE2 := Aside0.mk (show w.heap.size ≤ g2 by rw [hg2]; exact HB1.out.size); have LT2 := Aside0.mk (blk_lt hbox2); clear hb2 hbox2 hg2; have hx0 : w2.cell? ⟨g1, 0, none⟩ = some (.slice A0_0 l0_0.length c0_0) := (blk_cell BK12.out 0).trans rfl; have hx1 : w2.cell? ⟨g1, 1, none⟩ = some (.int .i64 a0_1) := (blk_cell BK12.out 1).trans rfl; have hx2 : w2.cell? ⟨g1, 2, none⟩ = some (.bool a0_2) := (blk_cell BK12.out 2).trans rfl) | (go_at_call 26; refine (impl_ServerOk.calls k _ _ l0_0 a0_1 a0_2 true _ (Kd.C_below HR0.out HB2.out) HC0.out HT.out (HG.out.below HB2.out)).mono ?_; rintro e w3 ⟨rfl, hb3⟩; have BK13 := Aside0.mk (blk_below BK12.out hb3); have BK23 := Aside0.mk (blk_below BK2.out hb3); have HB3 := Aside0.mk (below_step HB2.out hb3); have LT3 := Aside0.mk (Nat.lt_of_lt_of_le LT2.out hb3.size); clear hb3; have hy0 : w3.cell? ⟨g1, 0, none⟩ = some (.slice A0_0 l0_0.length c0_0) := (blk_cell BK13.out 0).trans rfl; have hy1 : w3.cell? ⟨g1, 1, none⟩ = some (.int .i64 a0_1) := (blk_cell BK13.out 1).trans rfl; have hy2 : w3.cell? ⟨g1, 2, none⟩ = some (.bool a0_2) := (blk_cell BK13.out 2).trans rfl; have hz0 : w3.cell? ⟨g2, 0, none⟩ = some (.slice none 0 0) := (blk_cell BK23.out 0).trans rfl; have hz1 : w3.cell? ⟨g2, 1, none⟩ = some (.int .i64 0) := (blk_cell BK23.out 1).trans rfl; have hz2 : w3.cell? ⟨g2, 2, none⟩ = some (.bool false) := (blk_cell BK23.out 2).trans rfl; have hzf0 := blk_frozen BK23.out 0; have hzf1 := blk_frozen BK23.out 1; have hzf2 := blk_frozen BK23.out 2))
        (try simp only [Exit.inBlock, Exit.then])
        refine bodyPost_ret (results_cell_row rfl _ _ g2 29 #[.slice none 0 0, .int .i64 0, .bool false] (0, 0) _ rfl ((blk_set (blk_set (blk_set BK23.out 0 _) 1 _) 2 _).trans rfl) Tryd.underlying29 rfl (by kernel_rfl)) rfl ?_
        exact ⟨_, rfl, Kd.R_nil _ _ _ _ _, below_set (below_set (below_set HB3.out GE2.out) GE2.out) GE2.out⟩
      · rw [if_neg h2] at h
        have hd2 : decide (40 < a1) = false := decide_eq_false h2
        by_cases hl : l0_0.length < 2199023255552
        · rw [if_pos hl] at h
          have LM := Aside0.mk hl
          clear hl
          by_cases hm : 0 ≤ fallAt l0_0.length a0_1 a1
          · rw [if_pos hm] at h
            simp only [Option.some.injEq, Prod.mk.injEq] at h
            obtain ⟨rfl, rfl, rfl⟩ := h
            have HM := Aside0.mk hm
            clear h1 h2 hm
            go_enter Tryd.func30, Tryd.ntmps30
            go_wp2_with (first | ((with_reducible refine gate_dst (N := 2) rfl ?_); refine box_event ?hg (N := 2) ?hd (cs := #[.slice A0_0 l0_0.length c0_0, .int .i64 a0_1, .bool a0_2]) (t := 29) ?hr ?_; (case hd => rfl); (case hg => rfl); (case hr => first | (go_simp; done) | (go_simp; rfl)); intro g1 hg1 w1 hbox1 hb1; have HB1 := Aside0.mk hb1; have BK1 := Aside0.mk hbox1; clear hb1 hbox1 hg1) | ((with_reducible refine gate_dst (N := 4) rfl ?_); refine box_event ?hg (N := 4) ?hd (cs := #[.slice none 0 0, .int .i64 0, .bool false]) (t := 29) ?hr ?_; (case hd => rfl); (case hg => rfl); (case hr => first | (go_simp; done) | (go_simp; rfl)); intro g2 hg2 w2 hbox2 hb2; have BK12 := Aside0.mk (blk_below BK1.out hb2); have HB2 := Aside0.mk (below_step HB1.out hb2); have BK2 := Aside0.mk hbox2; have GE2 := Aside0.mk (show w.heap.size ≤ g2 by rw [hg2]; exact HB1.out.size); have LT2 := Aside0.mk (blk_lt hbox2); clear hb2 hbox2 hg2; have hx0 : w2.cell? ⟨g1, 0, none⟩ = some (.slice A0_0 l0_0.length c0_0) := (blk_cell BK12.out 0).trans rfl; have hx1 : w2.cell? ⟨g1, 1, none⟩ = some (.int .i64 a0_1) := (blk_cell BK12.out 1).trans rfl; have hx2 : w2.cell? ⟨g1, 2, none⟩ = some (.bool a0_2) := (blk_cell BK12.out 2).trans rfl) | (go_at_call 26; refine (impl_ServerOk.calls k _ _ l0_0 a0_1 a0_2 true _ (Kd.C_below HR0.out HB2.out) HC0.out HT.out (HG.out.below HB2.out)).mono ?_; rintro e w3 ⟨rfl, hb3⟩; have BK13 := Aside0.mk (blk_below BK12.out hb3); have BK23 := Aside0.mk (blk_below BK2.out hb3); have HB3 := Aside0.mk (below_step HB2.out hb3); have LT3 := Aside0.mk (Nat.lt_of_lt_of_le LT2.out hb3.size); clear hb3; have hy0 : w3.cell? ⟨g1, 0, none⟩ = some (.slice A0_0 l0_0.length c0_0) := (blk_cell BK13.out 0).trans rfl; have hy1 : w3.cell? ⟨g1, 1, none⟩ = some (.int .i64 a0_1) := (blk_cell BK13.out 1).trans rfl; have hy2 : w3.cell? ⟨g1, 2, none⟩ = some (.bool a0_2) := (blk_cell BK13.out 2).trans rfl; have hz0 : w3.cell? ⟨g2, 0, none⟩ = some (.slice none 0 0) := (blk_cell BK23.out 0).trans rfl; have hz1 : w3.cell? ⟨g2, 1, none⟩ = some (.int .i64 0) := (blk_cell BK23.out 1).trans rfl; have hz2 : w3.cell? ⟨g2, 2, none⟩ = some (.bool false) := (blk_cell BK23.out 2).trans rfl; have hzf0 := blk_frozen BK23.out 0; have hzf1 := blk_frozen BK23.out 1; have hzf2 := blk_frozen BK23.out 2) | (go_at_call 61; refine (impl_machineOf.calls _ _ l0_0 a0_1 a0_2 _ (Kd.C_below HR0.out HB3.out) HC0.out LM.out).mono ?_; rintro e w4 ⟨g, rfl, ⟨A4, c4, hk4, hr4, hge4⟩, hb4⟩; have HK4 := Aside0.mk hk4; have HRR4 := Aside0.mk hr4; have GE4 := Aside0.mk (Nat.le_trans HB3.out.size hge4); have NE4 := Aside0.mk (show g2 ≠ g by have := LT3.out; omega); have BK24 := Aside0.mk (blk_below BK23.out hb4); have HB4 := Aside0.mk (below_step HB3.out hb4); clear hb4 hk4 hr4 hge4))
            have hmin : (if (l0_0.length : Int) < wrap64 (a0_1 + a1) then (l0_0.length : Int) else wrap64 (a0_1 + a1)) = fallAt l0_0.length a0_1 a1 := rfl
            have hle := fallAt_le l0_0.length a0_1 a1
            have hm0 := HM.out
            generalize hme : fallAt l0_0.length a0_1 a1 = m at hmin hle hm0 ⊢
            have HME := Aside0.mk hme
            clear hme
            obtain ⟨_, hc4, _⟩ := Kd.R_reads' HRR4.out
            have hm1 : m ≤ (c4 : Int) := by omega
            have HLE := Aside0.mk (show m.toNat ≤ l0_0.length from by omega)
            have hm0 := eq_true hm0
            have hm1 := eq_true hm1
            have HKd := Aside0.mk (blk_drew HK4.out)
            have HRd := Aside0.mk (Kd.R_drew HRR4.out)
            have BKd := Aside0.mk (blk_drew BK24.out)
            have HBd := Aside0.mk (below_drew1 HB4.out)
            clear hle hc4
            refine start_ (n := 24) (S := fun w' => w'.cell? ⟨g, 0, none⟩ = some (.slice A4 l0_0.length c4) ∧ w'.cell? ⟨g, 2, none⟩ = some (.int .i64 a0_1)) (ds := [23]) #[false, false, false, false, false, false, false, false, false, false, false, false, false, false, false, false, false, false, false, false, false, false, false, false] (by kernel_rfl) rfl rfl ⟨(blk_cell HK4.out 0).trans rfl, (blk_cell HK4.out 2).trans rfl⟩ (fun hHeld => ?_)
            refine pure_ (i := 0) (N := some 20) (v := ?_) (a' := ?_) #[true, false, false, false, false, false, false, false, false, false, false, false, false, false, false, false, false, false, false, false, false, false, false, false] rfl rfl (by kernel_rfl) (fun _ _ _ h => h) (Or.inl ⟨by rfl, ?_⟩) ?_ ?_
            rotate_left
            · intro w'
              go_simp
              with_reducible rfl
            rotate_left
            · simp only [Act.put, List.setIfInBounds_toArray, List.set_cons_zero, List.set_cons_succ, i64_w, i32_w]
              rfl
            refine pure_ (i := 1) (N := some 21) (v := ?_) (a' := ?_) #[true, true, false, false, false, false, false, false, false, false, false, false, false, false, false, false, false, false, false, false, false, false, false, false] rfl rfl (by kernel_rfl) (fun _ _ _ h => h) (Or.inl ⟨by rfl, ?_⟩) ?_ ?_
            rotate_left
            · intro w'
              go_simp
              with_reducible rfl
            rotate_left
            · simp only [Act.put, List.setIfInBounds_toArray, List.set_cons_zero, List.set_cons_succ, i64_w, i32_w]
              rfl
            refine pure_ (i := 2) (N := some 22) (v := ?_) (a' := ?_) #[true, true, true, false, false, false, false, false, false, false, false, false, false, false, false, false, false, false, false, false, false, false, false, false] rfl rfl (by kernel_rfl) (fun _ _ _ h => h) (Or.inl ⟨by rfl, ?_⟩) ?_ ?_
            rotate_left
            · intro w'
              go_simp
              with_reducible rfl
            rotate_left
            · simp only [Act.put, List.setIfInBounds_toArray, List.set_cons_zero, List.set_cons_succ, i64_w, i32_w]
              rfl
            refine pure_ (i := 3) (N := some 23) (v := ?_) (a' := ?_) #[true, true, true, true, false, false, false, false, false, false, false, false, false, false, false, false, false, false, false, false, false, false, false, false] rfl rfl (by kernel_rfl) (fun _ _ _ h => h) (Or.inl ⟨by rfl, ?_⟩) ?_ ?_
            rotate_left
            · intro w'
              go_simp
              with_reducible rfl
            rotate_left
            · simp only [Act.put, List.setIfInBounds_toArray, List.set_cons_zero, List.set_cons_succ, i64_w, i32_w]
              rfl
            refine pure_ (i := 4) (N := some 24) (v := ?_) (a' := ?_) #[true, true, true, true, true, false, false, false, false, false, false, false, false, false, false, false, false, false, false, false, false, false, false, false] rfl rfl (by kernel_rfl) (fun _ _ _ h => h) (Or.inl ⟨by rfl, ?_⟩) ?_ ?_
            rotate_left
            · intro w'
              go_simp
              with_reducible rfl
            rotate_left
            · simp only [Act.put, List.setIfInBounds_toArray, List.set_cons_zero, List.set_cons_succ, i64_w, i32_w]
              rfl
            refine take_ (i := 5) (N := some 25) (v := ?_) (a' := ?_) #[true, true, true, true, true, true, false, false, false, false, false, false, false, false, false, false, false, false, false, false, false, false, false, false] rfl rfl (by kernel_rfl) (fun _ _ _ h => h) (Or.inl ⟨by rfl, ?_⟩) hHeld ?_ ?_
            rotate_left
            · rintro w' ⟨s0, s1⟩
              go_simp
              with_reducible rfl
            rotate_left
            · simp only [Act.put, List.setIfInBounds_toArray, List.set_cons_zero, List.set_cons_succ, i64_w, i32_w]
              rfl
            refine pure_ (i := 6) (N := some 26) (v := ?_) (a' := ?_) #[true, true, true, true, true, true, true, false, false, false, false, false, false, false, false, false, false, false, false, false, false, false, false, false] rfl rfl (by kernel_rfl) (fun _ _ _ h => h) (Or.inl ⟨by rfl, ?_⟩) ?_ ?_
            rotate_left
            · intro w'
              go_simp
              with_reducible rfl
            rotate_left
            · simp only [Act.put, List.setIfInBounds_toArray, List.set_cons_zero, List.set_cons_succ, i64_w, i32_w]
              rfl
            refine pure_ (i := 7) (N := some 27) (v := ?_) (a' := ?_) #[true, true, true, true, true, true, true, true, false, false, false, false, false, false, false, false, false, false, false, false, false, false, false, false] rfl rfl (by kernel_rfl) (fun _ _ _ h => h) (Or.inl ⟨by rfl, ?_⟩) ?_ ?_
            rotate_left
            · intro w'
              go_simp
              with_reducible rfl
            rotate_left
            · simp only [Act.put, List.setIfInBounds_toArray, List.set_cons_zero, List.set_cons_succ, i64_w, i32_w]
              rfl
            refine pure_ (i := 8) (N := some 28) (v := ?_) (a' := ?_) #[true, true, true, true, true, true, true, true, true, false, false, false, false, false, false, false, false, false, false, false, false, false, false, false] rfl rfl (by kernel_rfl) (fun _ _ _ h => h) (Or.inl ⟨by rfl, ?_⟩) ?_ ?_
            rotate_left
            · intro w'
              go_simp
              with_reducible rfl
            rotate_left
            · simp only [Act.put, List.setIfInBounds_toArray, List.set_cons_zero, List.set_cons_succ, i64_w, i32_w]
              rfl
            refine take_ (i := 9) (N := some 29) (v := ?_) (a' := ?_) #[true, true, true, true, true, true, true, true, true, true, false, false, false, false, false, false, false, false, false, false, false, false, false, false] rfl rfl (by kernel_rfl) (fun _ _ _ h => h) (Or.inl ⟨by rfl, ?_⟩) hHeld ?_ ?_
            rotate_left
            · rintro w' ⟨s0, s1⟩
              go_simp
              with_reducible rfl
            rotate_left
            · simp only [Act.put, List.setIfInBounds_toArray, List.set_cons_zero, List.set_cons_succ, i64_w, i32_w]
              rfl
            refine pure_ (i := 10) (N := some 30) (v := ?_) (a' := ?_) #[true, true, true, true, true, true, true, true, true, true, true, false, false, false, false, false, false, false, false, false, false, false, false, false] rfl rfl (by kernel_rfl) (fun _ _ _ h => h) (Or.inl ⟨by rfl, ?_⟩) ?_ ?_
            rotate_left
            · intro w'
              go_simp
              with_reducible rfl
            rotate_left
            · simp only [Act.put, List.setIfInBounds_toArray, List.set_cons_zero, List.set_cons_succ, i64_w, i32_w]
              rfl
            refine pure_ (i := 11) (N := some 31) (v := ?_) (a' := ?_) #[true, true, true, true, true, true, true, true, true, true, true, true, false, false, false, false, false, false, false, false, false, false, false, false] rfl rfl (by kernel_rfl) (fun _ _ _ h => h) (Or.inl ⟨by rfl, ?_⟩) ?_ ?_
            rotate_left
            · intro w'
              go_simp
              with_reducible rfl
            rotate_left
            · simp only [Act.put, List.setIfInBounds_toArray, List.set_cons_zero, List.set_cons_succ, i64_w, i32_w]
              rfl
            refine pure_ (i := 12) (N := some 32) (v := ?_) (a' := ?_) #[true, true, true, true, true, true, true, true, true, true, true, true, true, false, false, false, false, false, false, false, false, false, false, false] rfl rfl (by kernel_rfl) (fun _ _ _ h => h) (Or.inl ⟨by rfl, ?_⟩) ?_ ?_
            rotate_left
            · intro w'
              go_simp
              with_reducible rfl
            rotate_left
            · simp only [Act.put, List.setIfInBounds_toArray, List.set_cons_zero, List.set_cons_succ, i64_w, i32_w]
              rfl
            refine pure_ (i := 13) (N := some 33) (v := ?_) (a' := ?_) #[true, true, true, true, true, true, true, true, true, true, true, true, true, true, false, false, false, false, false, false, false, false, false, false] rfl rfl (by kernel_rfl) (fun _ _ _ h => h) (Or.inl ⟨by rfl, ?_⟩) ?_ ?_
            rotate_left
            · intro w'
              go_simp
              with_reducible rfl
            rotate_left
            · simp only [Act.put, List.setIfInBounds_toArray, List.set_cons_zero, List.set_cons_succ, i64_w, i32_w]
              rfl
            refine pure_ (i := 14) (N := some 34) (v := ?_) (a' := ?_) #[true, true, true, true, true, true, true, true, true, true, true, true, true, true, true, false, false, false, false, false, false, false, false, false] rfl rfl (by kernel_rfl) (fun _ _ _ h => h) (Or.inl ⟨by rfl, ?_⟩) ?_ ?_
            rotate_left
            · intro w'
              go_simp
              with_reducible rfl
            rotate_left
            · simp only [Act.put, List.setIfInBounds_toArray, List.set_cons_zero, List.set_cons_succ, i64_w, i32_w]
              rfl
            refine pure_ (i := 15) (N := some 35) (v := ?_) (a' := ?_) #[true, true, true, true, true, true, true, true, true, true, true, true, true, true, true, true, false, false, false, false, false, false, false, false] rfl rfl (by kernel_rfl) (fun _ _ _ h => h) (Or.inl ⟨by rfl, ?_⟩) ?_ ?_
            rotate_left
            · intro w'
              go_simp
              with_reducible rfl
            rotate_left
            · simp only [Act.put, List.setIfInBounds_toArray, List.set_cons_zero, List.set_cons_succ, i64_w, i32_w]
              rfl
            refine take_ (i := 16) (N := some 36) (v := ?_) (a' := ?_) #[true, true, true, true, true, true, true, true, true, true, true, true, true, true, true, true, true, false, false, false, false, false, false, false] rfl rfl (by kernel_rfl) (fun _ _ _ h => h) (Or.inl ⟨by rfl, ?_⟩) hHeld ?_ ?_
            rotate_left
            · rintro w' ⟨s0, s1⟩
              go_simp
              with_reducible rfl
            rotate_left
            · simp only [Act.put, List.setIfInBounds_toArray, List.set_cons_zero, List.set_cons_succ, i64_w, i32_w]
              rfl
            refine pure_ (i := 17) (N := some 37) (v := ?_) (a' := ?_) #[true, true, true, true, true, true, true, true, true, true, true, true, true, true, true, true, true, true, false, false, false, false, false, false] rfl rfl (by kernel_rfl) (fun _ _ _ h => h) (Or.inl ⟨by rfl, ?_⟩) ?_ ?_
            rotate_left
            · intro w'
              go_simp
              with_reducible rfl
            rotate_left
            · simp only [Act.put, List.setIfInBounds_toArray, List.set_cons_zero, List.set_cons_succ, i64_w, i32_w]
              rfl
            refine pure_ (i := 18) (N := some 38) (v := ?_) (a' := ?_) #[true, true, true, true, true, true, true, true, true, true, true, true, true, true, true, true, true, true, true, false, false, false, false, false] rfl rfl (by kernel_rfl) (fun _ _ _ h => h) (Or.inl ⟨by rfl, ?_⟩) ?_ ?_
            rotate_left
            · intro w'
              go_simp
              with_reducible rfl
            rotate_left
            · simp only [Act.put, List.setIfInBounds_toArray, List.set_cons_zero, List.set_cons_succ, i64_w, i32_w]
              rfl
            refine pure_ (i := 19) (N := some 39) (v := ?_) (a' := ?_) #[true, true, true, true, true, true, true, true, true, true, true, true, true, true, true, true, true, true, true, true, false, false, false, false] rfl rfl (by kernel_rfl) (fun _ _ _ h => h) (Or.inl ⟨by rfl, ?_⟩) ?_ ?_
            rotate_left
            · intro w'
              go_simp
              with_reducible rfl
            rotate_left
            · simp only [Act.put, List.setIfInBounds_toArray, List.set_cons_zero, List.set_cons_succ, i64_w, i32_w]
              rfl
            refine pure_ (i := 20) (N := some 40) (v := ?_) (a' := ?_) #[true, true, true, true, true, true, true, true, true, true, true, true, true, true, true, true, true, true, true, true, true, false, false, false] rfl rfl (by kernel_rfl) (fun _ _ _ h => h) (Or.inl ⟨by rfl, ?_⟩) ?_ ?_
            rotate_left
            · intro w'
              go_simp
              with_reducible rfl
            rotate_left
            · simp only [Act.put, List.setIfInBounds_toArray, List.set_cons_zero, List.set_cons_succ, i64_w, i32_w]
              rfl
            refine pure_ (i := 21) (N := some 41) (v := ?_) (a' := ?_) #[true, true, true, true, true, true, true, true, true, true, true, true, true, true, true, true, true, true, true, true, true, true, false, false] rfl rfl (by kernel_rfl) (fun _ _ _ h => h) (Or.inl ⟨by rfl, ?_⟩) ?_ ?_
            rotate_left
            · intro w'
              go_simp
              with_reducible rfl
            rotate_left
            · simp only [Act.put, List.setIfInBounds_toArray, List.set_cons_zero, List.set_cons_succ, i64_w, i32_w]
              rfl
            refine pure_ (i := 22) (N := some 42) (v := ?_) (a' := ?_) #[true, true, true, true, true, true, true, true, true, true, true, true, true, true, true, true, true, true, true, true, true, true, true, false] rfl rfl (by kernel_rfl) (fun _ _ _ h => h) (Or.inl ⟨by rfl, ?_⟩) ?_ ?_
            rotate_left
            · intro w'
              go_simp
              with_reducible rfl
            rotate_left
            · simp only [Act.put, List.setIfInBounds_toArray, List.set_cons_zero, List.set_cons_succ, i64_w, i32_w]
              rfl
            refine fin_ (i := 23) (N := none) #[true, true, true, true, true, true, true, true, true, true, true, true, true, true, true, true, true, true, true, true, true, true, true, true] rfl rfl (by kernel_rfl) (by decide) (fun K hK => ?_)
            generalize w4.drew = w5 at HKd HRd BKd HBd ⊢
            have hs5 : w5.cell? ⟨g, 0, none⟩ = some (.slice A4 l0_0.length c4) := (blk_cell HKd.out 0).trans rfl
            have hfs5 := blk_frozen HKd.out 0
            refine skip_ (w1 := ?_) (by rfl) rfl ?_ ?_
            rotate_left
            · go_simp
              rfl
            refine hK _ _ ?_
            clear hK K
            refine done_ (by kernel_rfl) ?_
            have HKe := Aside0.mk ((blk_set HKd.out 0 (.slice A4 m.toNat c4)).trans rfl)
            have HRe := Aside0.mk (Kd.R_far HRd.out (p := ⟨g, 0, none⟩) (fun _ hk => hk) (.slice A4 m.toNat c4))
            have BKe := Aside0.mk (blk_far BKd.out (p := ⟨g, 0, none⟩) NE4.out (.slice A4 m.toNat c4))
            have HBe := Aside0.mk (below_set (j := 0) (v := .slice A4 m.toNat c4) HBd.out GE4.out)
            generalize w5.setCell ⟨g, 0, none⟩ (.slice A4 m.toNat c4) = W5 at HKe HRe BKe HBe ⊢
            obtain ⟨_, hc4, hrd⟩ := Kd.R_reads' HRe.out
            have hlen : (l0_0.take m.toNat).length = m.toNat := by rw [List.length_take]; have := HLE.out; omega
            have hct := Kd.C_take hrd HLE.out
            have HCT := Aside0.mk hct
            have hbk := HKe.out
            rw [← hlen] at hbk
            have HBK := Aside0.mk (hbk.trans rfl : W5.heap[g]? = some (.cells #[.slice A4 (l0_0.take m.toNat).length c4, .slice none 0 0, .int .i64 a0_1, .bool a0_2] 83 (0, 0)))
            have HC4 := Aside0.mk (show (l0_0.take m.toNat).length ≤ c4 by rw [hlen]; have := HLE.out; omega)
            have HLT := Aside0.mk (show (l0_0.take m.toNat).length < 2199023255552 by rw [hlen]; have := HLE.out; have := LM.out; omega)
            clear hct hrd hc4 hbk hlen hmin hm0 hm1
            go_wp2_with (go_at_call 62; refine (impl_mserver.callsC g A4 c4 (l0_0.take m.toNat) _ a0_1 a0_2 _ HBK.out HCT.out HC4.out HLT.out).mono ?_; rintro e w6 ⟨v6, rfl, ho6, hb6⟩; obtain ⟨A6, c6, rfl⟩ := Kd.R_slice ho6; have HO6 := Aside0.mk (Kd.R_newB ho6 BKe.out); have HB6 := Aside0.mk (below_step HBe.out hb6); have BK6 := Aside0.mk (blk_below BKe.out hb6); clear ho6 hb6; have hz0 : w6.cell? ⟨g2, 0, none⟩ = some (.slice none 0 0) := (blk_cell BK6.out 0).trans rfl; have hz1 : w6.cell? ⟨g2, 1, none⟩ = some (.int .i64 0) := (blk_cell BK6.out 1).trans rfl; have hz2 : w6.cell? ⟨g2, 2, none⟩ = some (.bool false) := (blk_cell BK6.out 2).trans rfl; have hzf0 := blk_frozen BK6.out 0; have hzf1 := blk_frozen BK6.out 1; have hzf2 := blk_frozen BK6.out 2)
            (try simp only [Exit.inBlock, Exit.then])
            refine bodyPost_ret (results_cell_row rfl _ _ g2 29 #[.slice A6 (min m.toNat l0_0.length) c6, .int .i64 a0_1, .bool a0_2] (0, 0) _ rfl ((blk_set (blk_set (blk_set BK6.out 0 _) 1 _) 2 _).trans rfl) Tryd.underlying29 rfl (by kernel_rfl)) rfl ?_
            refine ⟨_, rfl, ?_, below_set (below_set (below_set HB6.out GE2.out) GE2.out) GE2.out⟩
            have ho := HO6.out
            rw [List.length_take] at ho
            rw [HME.out]
            exact Kd.R_mono (Kd.R_far (Kd.R_far (Kd.R_far (Kd.R_lower ho HBe.out.size) (p := ⟨g2, 0, none⟩) (fun _ hk => hk.2) _) (p := ⟨g2, 1, none⟩) (fun _ hk => hk.2) _) (p := ⟨g2, 2, none⟩) (fun _ hk => hk.2) _) (fun _ _ => trivial)
          · rw [if_neg hm] at h
            cases h
        · rw [if_neg hl] at h
          cases h
end Go.Proofs.YtnclcbjagleoeaaDoor.P
set_option linter.unusedVariables false
set_option linter.unusedSimpArgs false
namespace Go.Proofs.YtnclcbjagleoeaaDoor.P
open Go.RowKit Go.Proofs.YtnclcbjagleoeaaDoorW.PrintWords Go.Proofs.YtnclcbjagleoeaaDoorW.PrintLast Go.Proofs.YtnclcbjagleoeaaDoorW.PrintMore
/-- What a server at work keeps while it is not written to. -/
theorem Mach.below {w w' : World} {base g : Nat} {l : List S56} {q : Value} {s : Int} {u : Bool} (h : Mach w base g l q s u) (hb : Below w.heap.size w w') : Mach w' base g l q s u := by
  obtain ⟨A, c, h1, h2, h3⟩ := h
  exact ⟨A, c, blk_below h1 hb, Kd.R_below h2 hb, h3⟩
theorem Mach.set_safe {w : World} {base g : Nat} {l : List S56} {q : Value} {s : Int} {u : Bool} (h : Mach w base g l q s u) (x : Int) : Mach (w.setCell ⟨g, 2, none⟩ (.int .i64 x)) base g l q x u := by
  obtain ⟨A, c, h1, h2, h3⟩ := h
  exact ⟨A, c, (blk_set h1 2 _).trans rfl, Kd.R_far h2 (p := ⟨g, 2, none⟩) (fun _ hk => hk) _, h3⟩
end Go.Proofs.YtnclcbjagleoeaaDoor.P
namespace Go.Proofs.YtnclcbjagleoeaaDoor.P
open Go.RowKit Go.Proofs.YtnclcbjagleoeaaDoorW.PrintWords Go.Proofs.YtnclcbjagleoeaaDoorW.PrintLast
set_option linter.unusedVariables false
set_option linter.unusedSimpArgs false
/-- A state of type 96 at block g of W; what its slices lead to came in by w0. -/
def IsS96 (w0 W : World) (g : Nat) (f0 : List Int) (f1 : Int) : Prop := ∃ A0 c0, W.heap[g]? = some (.cells #[.slice A0 f0.length c0, .int .i64 f1] 96 (0, 0)) ∧ w0.heap.size ≤ g ∧ Kd.C (Kd.int .u8) w0 A0 f0.length f0
theorem IsS96.grown {w0 W : World} {g : Nat} {f0 : List Int} {f1 : Int} {W1 : World} {row : Option Nat} (h : IsS96 w0 W g f0 f1) (hw : W.grownBy W1 row) (hne : some g ≠ row) : IsS96 w0 W1 g f0 f1 := by
 obtain ⟨A0, c0, hb, hg, hr0⟩ := h
 exact ⟨A0, c0, blk_grown hb hw hne, hg, hr0⟩
theorem IsS96.own_neN {w0 W : World} {g : Nat} {f0 : List Int} {f1 : Int} {α : Type} {d : Kd α} {e : Nat} {base : Nat} {ok : Nat → Prop} {v : Value} {xs : List α} (h : IsS96 w0 W g f0 f1) (ho : Kd.N d e W base ok v xs) (ht : e ≠ 96) : some g ≠ v.ownBlock := by
 obtain ⟨A0, c0, hb, hg, hr0⟩ := h
 exact Kd.N_ne ho hb ht
theorem IsS96.fresh {w0 W : World} {g : Nat} {f0 : List Int} {f1 : Int} (h : IsS96 w0 W g f0 f1) : ∀ k, W.heap.size ≤ k → k ≠ g := by
 obtain ⟨A0, c0, hb, hg, hr0⟩ := h
 exact Kd.freshB hb
theorem IsS96.kept {w0 W : World} {g : Nat} {f0 : List Int} {f1 : Int} {W1 : World} {S : Nat → Prop} (h : IsS96 w0 W g f0 f1) (hk : Kept W W1 S) (hne : ¬ S g) : IsS96 w0 W1 g f0 f1 := by
 obtain ⟨A0, c0, hb, hg, hr0⟩ := h
 exact ⟨A0, c0, blk_kept hb hk hne, hg, hr0⟩
theorem IsS96.below {w0 W : World} {g : Nat} {f0 : List Int} {f1 : Int} {W1 : World} (h : IsS96 w0 W g f0 f1) (hw : Below W.heap.size W W1) : IsS96 w0 W1 g f0 f1 := h.grown (grown_of_below hw none) (by simp)
theorem IsS96.alloc {w0 W : World} {g : Nat} {f0 : List Int} {f1 : Int} (h : IsS96 w0 W g f0 f1) (o : Obj) : IsS96 w0 (W.alloc o) g f0 f1 := h.below (below_alloc (Below.refl _ _) o)
theorem IsS96.drewN {w0 W : World} {g : Nat} {f0 : List Int} {f1 : Int} (h : IsS96 w0 W g f0 f1) (m : Nat) : IsS96 w0 (W.drewN m) g f0 f1 := h
theorem IsS96.drew {w0 W : World} {g : Nat} {f0 : List Int} {f1 : Int} (h : IsS96 w0 W g f0 f1) : IsS96 w0 W.drew g f0 f1 := h
theorem IsS96.at_ {w0 W : World} {g : Nat} {f0 : List Int} {f1 : Int} {w' : World} {m : Nat} (hq : W.drewN m = w') (h : IsS96 w0 W g f0 f1) : IsS96 w0 w' g f0 f1 := by subst hq; exact IsS96.drewN h m
theorem IsS96.apart {w0 W : World} {g : Nat} {f0 : List Int} {f1 : Int} {α : Type} {d : Kd α} {e : Nat} {base : Nat} {ok : Nat → Prop} {v : Value} {xs : List α} (h : IsS96 w0 W g f0 f1) (ho : d.R e W base ok v xs) (ht : ∀ q, q ∈ e :: d.E → q ≠ 96) : d.R e W base (fun k => ok k ∧ k ≠ g) v xs := by
 obtain ⟨A0, c0, hb, hg, hr0⟩ := h
 exact Kd.R_types ho hb ht
theorem IsS96.own_ne {w0 W : World} {g : Nat} {f0 : List Int} {f1 : Int} {α : Type} {d : Kd α} {e : Nat} {base : Nat} {ok : Nat → Prop} {v : Value} {xs : List α} (h : IsS96 w0 W g f0 f1) (ho : d.R e W base ok v xs) (ht : e ≠ 96) : some g ≠ v.ownBlock := by
 obtain ⟨A0, c0, hb, hg, hr0⟩ := h
 exact Kd.R_ne ho hb ht
theorem IsS96.apartQ {w0 W : World} {g : Nat} {f0 : List Int} {f1 : Int} {α : Type} {d : Kd α} {e : Nat} {base : Nat} {ok : Nat → Prop} {v : Value} {xs : List α} (h : IsS96 w0 W g f0 f1) (ho : d.Q e W base ok v xs) (ht : ∀ q, q ∈ e :: d.E → q ≠ 96) : d.Q e W base (fun k => ok k ∧ k ≠ g) v xs := by
 obtain ⟨A0, c0, hb, hg, hr0⟩ := h
 exact Kd.Q_types ho hb ht
theorem IsS96.own_neQ {w0 W : World} {g : Nat} {f0 : List Int} {f1 : Int} {α : Type} {d : Kd α} {e : Nat} {base : Nat} {ok : Nat → Prop} {v : Value} {xs : List α} (h : IsS96 w0 W g f0 f1) (ho : d.Q e W base ok v xs) (ht : e ≠ 96) : some g ≠ v.ownBlock := by
 obtain ⟨A0, c0, hb, hg, hr0⟩ := h
 exact Kd.Q_ne ho hb ht
theorem IsS96.apartS {w0 W : World} {g : Nat} {f0 : List Int} {f1 : Int} {α : Type} {d : Kd α} {e : Nat} {base : Nat} {ok : Nat → Prop} {v : Value} {xs : List α} (h : IsS96 w0 W g f0 f1) (ho : d.S e W base ok v xs) (ht : ∀ q, q ∈ e :: d.E → q ≠ 96) : d.S e W base (fun k => ok k ∧ k ≠ g) v xs := by
 obtain ⟨A0, c0, hb, hg, hr0⟩ := h
 exact Kd.S_types ho hb ht
theorem IsS96.own_neS {w0 W : World} {g : Nat} {f0 : List Int} {f1 : Int} {α : Type} {d : Kd α} {e : Nat} {base : Nat} {ok : Nat → Prop} {v : Value} {xs : List α} (h : IsS96 w0 W g f0 f1) (ho : d.S e W base ok v xs) (ht : e ≠ 96) : some g ≠ v.ownBlock := by
 obtain ⟨A0, c0, hb, hg, hr0⟩ := h
 exact Kd.S_ne ho hb ht
theorem IsS96.lt {w0 W : World} {g : Nat} {f0 : List Int} {f1 : Int} (h : IsS96 w0 W g f0 f1) : g < W.heap.size := by
 obtain ⟨A0, c0, hb, hg, hr0⟩ := h
 exact blk_lt hb
theorem IsS96.ge {w0 W : World} {g : Nat} {f0 : List Int} {f1 : Int} (h : IsS96 w0 W g f0 f1) : w0.heap.size ≤ g := by
 obtain ⟨A0, c0, hb, hg, hr0⟩ := h
 exact hg
theorem IsS96.ne_blk {w0 W : World} {g : Nat} {f0 : List Int} {f1 : Int} {a : Nat} {cs : Array Value} {t : TypeId} {fr : Nat × Nat} (h : IsS96 w0 W g f0 f1) (hb2 : W.heap[a]? = some (.cells cs t fr)) (ht : t ≠ 96) : g ≠ a := by
 obtain ⟨A0, c0, hb, hg, hr0⟩ := h
 rintro rfl
 rw [hb] at hb2
 injection hb2 with hb2
 injection hb2 with _ ht2
 exact ht ht2.symm
theorem IsS96.far {w0 W : World} {g : Nat} {f0 : List Int} {f1 : Int} {p : Addr} (h : IsS96 w0 W g f0 f1) (hne : g ≠ p.block) (u : Value) : IsS96 w0 (W.setCell p u) g f0 f1 := by
 obtain ⟨A0, c0, hb, hg, hr0⟩ := h
 exact ⟨A0, c0, blk_far hb hne u, hg, hr0⟩
theorem cellS96_0 {W : World} {g : Nat} {A0 : Option Addr} {c0 : Nat} {f0 : List Int} {f1 : Int} (h : W.heap[g]? = some (.cells #[.slice A0 f0.length c0, .int .i64 f1] 96 (0, 0))) : W.cell? ⟨g, 0, none⟩ = some (.slice A0 f0.length c0) := (blk_cell h 0).trans rfl
theorem cellS96_1 {W : World} {g : Nat} {A0 : Option Addr} {c0 : Nat} {f0 : List Int} {f1 : Int} (h : W.heap[g]? = some (.cells #[.slice A0 f0.length c0, .int .i64 f1] 96 (0, 0))) : W.cell? ⟨g, 1, none⟩ = some (.int .i64 f1) := (blk_cell h 1).trans rfl
theorem IsS96.set_1 {w0 W : World} {g : Nat} {f0 : List Int} {f1 : Int} (h : IsS96 w0 W g f0 f1) (x : Int) : IsS96 w0 (W.setCell ⟨g, 1, none⟩ (.int .i64 x)) g f0 x := by
 obtain ⟨A0, c0, hb, hg, hr0⟩ := h
 exact ⟨A0, c0, by simpa using blk_set hb 1 (.int .i64 x), hg, hr0⟩
theorem IsS96.new (w0 W : World) (A0 : Option Addr) (c0 : Nat) (f0 : List Int) (f1 : Int) (hB : Below w0.heap.size w0 W) (hr0 : Kd.C (Kd.int .u8) w0 A0 f0.length f0) : IsS96 w0 (W.alloc (.cells #[.slice A0 f0.length c0, .int .i64 f1] 96)) W.heap.size f0 f1 := ⟨A0, c0, by simpa using heap_alloc_new W _, hB.size, hr0⟩

theorem is_HI0 {p : Prop} (h : p := by repeat (first | (with_reducible first | exact HI0.out | apply IsS96.alloc | apply IsS96.drewN | apply IsS96.drew | apply IsS96.set_1) | exact HI0.out)) : p := h
theorem rk96_ {w0 W : World} {g : Nat} {f0 : List Int} {f1 : Int} {α : Type} {d : Kd α} {e : Nat} {base : Nat} {ok : Nat → Prop} {v : Value} {xs : List α} (h : IsS96 w0 W g f0 f1) (ho : d.R e W base ok v xs) {W1 : World} (hk : KeepBut W W1 g none) (ht : ∀ q, q ∈ e :: d.E → q ≠ 96 := by decide) : Aside0 (d.R e W1 base ok v xs) := Aside0.mk (Kd.R_mono (Kd.R_keep (IsS96.apart h ho ht) hk (fun _ h => h.2)) (fun _ h => h.1))
def spec_l6Open.f (l0 : List Int) : Option (List Int × Int) := if (l0.length : Int) > 2000 then (if 2000 ≤ (l0.length : Int) then (some (l0.take 2000, 0)) else (none)) else (some (l0, 0))
set_option maxHeartbeats 8000000 in
set_option maxRecDepth 100000 in
theorem spec_l6Open.calls (A0 : Option Addr) (c0 : Nat) (l0 : List Int) (r1 : List Int) (r2 : Int) (w0 w : World) (hB : Below w0.heap.size w0 w) (hr0 : Kd.C (Kd.int .u8) w0 A0 l0.length l0) (hc0 : l0.length ≤ c0) (h : spec_l6Open.f l0 = some (r1, r2)) :
  Calls Tryd.prog 54 #[.slice A0 l0.length c0] w fun e w' => ∃ g_ : Nat, e = .returned (.pointer (some ⟨g_, 0, none⟩)) ∧ IsS96 w0 w' g_ r1 r2 ∧ Below w0.heap.size w0 w' ∧ Below w.heap.size w w' := by
 have hu96 := Tryd.underlying96
 have HR0 := Aside0.mk hr0
 have HC0 := Aside0.mk hc0
 clear hr0 hc0
 have HBW := Aside0.mk (Below.refl w.heap.size w)
 have HW0 := Aside0.mk hB.size
 have HB := Aside0.mk hB
 clear hB
 have H : (if (l0.length : Int) > 2000 then (if 2000 ≤ (l0.length : Int) then (some (l0.take 2000, 0)) else (none)) else (some (l0, 0))) = some (r1, r2) := h
 clear h
 by_cases c2 : (l0.length : Int) > 2000
 ·rw [if_pos c2] at H
  have c2b0 : decide (2000 < (l0.length : Int)) = true := decide_eq_true c2
  have c2b1 : decide (2000 < l0.length) = true := decide_eq_true (by omega)
  clear c2
  by_cases c3 : 2000 ≤ (l0.length : Int)
  ·rw [if_pos c3] at H
   have c3b0 := eq_true c3
   have c3b1 : decide (2000 ≤ (l0.length : Int)) = true := decide_eq_true c3
   clear c3
   simp only [Option.some.injEq, Prod.mk.injEq] at H
   obtain ⟨rfl, rfl⟩ := H
   obtain ⟨i04, hi04, _, hsz4, _⟩ := info_parts info5
   obtain ⟨hcut4, hA4, hC4⟩ := print_take_of (P := Tryd.prog) (Value.int .u8) 0 36 5 .i64 Tryd.underlying36 hi04 hsz4 A0 c0 l0 2000 (by omega) (od_) HC0.out
   have HR447 := Aside0.mk (Kd.C_of_reads (h1 := fun _ => rfl) (hA4 _ (Kd.reads_of_C HR0.out)))
   have HC447 := Aside0.mk hC4
   clear hA4 hC4 hi04 hsz4
   go_enter Tryd.func54, Tryd.ntmps54
   go_wp2_with (first | ((with_reducible refine gate_dst (N := 10) rfl ?_); refine box_event ?hg (N := 10) ?hd (cs := #[.slice A0 (l0.take 2000).length c0, .int .i64 0]) (t := 96) ?hr ?_; (case hd => rfl); (case hg => rfl); (case hr => first | (go_simp; done) | (go_simp; rfl)); intro gb448 hg w5 hbox hb; have n0_ := Aside0.mk (below_step HBW.out hb); have n1_ := Aside0.mk (below_step (bel_) hb); have n2_ := Aside0.mk (hbox); have n3_ := Aside0.mk ((by rw [hg]; exact (below_size (by repeat (first | (with_reducible first | exact HBW.out | apply below_alloc | apply pw_below_drewN | apply below_drew1) | exact HBW.out))) : w.heap.size ≤ gb448)); have n4_ := Aside0.mk ((Nat.le_trans HW0.out (by rw [hg]; exact (below_size (by repeat (first | (with_reducible first | exact HBW.out | apply below_alloc | apply pw_below_drewN | apply below_drew1) | exact HBW.out))) : w.heap.size ≤ gb448) : w0.heap.size ≤ gb448)); clear HBW; clear HB; have HBW := n0_; have HB := n1_; have BK448 := n2_; have GW448 := n3_; have GE448 := n4_; clear n0_ n1_ n2_ n3_ n4_; clear hb hbox hg))
   go_ret
   exact ⟨_, rfl, (show IsS96 w0 _ gb448 (l0.take 2000) 0 from ⟨_, _, by (with_reducible repeat (first | refine blk_drewN ?_ _ | refine blk_drew ?_ | refine blk_alloc ?_ _)); exact BK448.out, GE448.out, HR447.out⟩), bel_, by repeat (first | (with_reducible first | exact HBW.out | apply below_alloc | apply pw_below_drewN | apply below_drew1 | refine below_set ?_ GW448.out) | exact HBW.out)⟩
  ·rw [if_neg c3] at H
   exact absurd H (by simp)
 ·rw [if_neg c2] at H
  have c2b0 : decide (2000 < (l0.length : Int)) = false := decide_eq_false c2
  have c2b1 : decide (2000 < l0.length) = false := decide_eq_false (by omega)
  clear c2
  simp only [Option.some.injEq, Prod.mk.injEq] at H
  obtain ⟨rfl, rfl⟩ := H
  go_enter Tryd.func54, Tryd.ntmps54
  go_wp2_with (first | ((with_reducible refine gate_dst (N := 10) rfl ?_); refine box_event ?hg (N := 10) ?hd (cs := #[.slice A0 l0.length c0, .int .i64 0]) (t := 96) ?hr ?_; (case hd => rfl); (case hg => rfl); (case hr => first | (go_simp; done) | (go_simp; rfl)); intro gb449 hg w6 hbox hb; have n0_ := Aside0.mk (below_step HBW.out hb); have n1_ := Aside0.mk (below_step (bel_) hb); have n2_ := Aside0.mk (hbox); have n3_ := Aside0.mk ((by rw [hg]; exact (below_size (by repeat (first | (with_reducible first | exact HBW.out | apply below_alloc | apply pw_below_drewN | apply below_drew1) | exact HBW.out))) : w.heap.size ≤ gb449)); have n4_ := Aside0.mk ((Nat.le_trans HW0.out (by rw [hg]; exact (below_size (by repeat (first | (with_reducible first | exact HBW.out | apply below_alloc | apply pw_below_drewN | apply below_drew1) | exact HBW.out))) : w.heap.size ≤ gb449) : w0.heap.size ≤ gb449)); clear HBW; clear HB; have HBW := n0_; have HB := n1_; have BK449 := n2_; have GW449 := n3_; have GE449 := n4_; clear n0_ n1_ n2_ n3_ n4_; clear hb hbox hg))
  go_ret
  exact ⟨_, rfl, (show IsS96 w0 _ gb449 l0 0 from ⟨_, _, by (with_reducible repeat (first | refine blk_drewN ?_ _ | refine blk_drew ?_ | refine blk_alloc ?_ _)); exact BK449.out, GE449.out, HR0.out⟩), bel_, by repeat (first | (with_reducible first | exact HBW.out | apply below_alloc | apply pw_below_drewN | apply below_drew1 | refine below_set ?_ GW449.out) | exact HBW.out)⟩

def spec_l6Rd_pick.j0 : Nat → Int → Bool → List Int → Int → Option (Int × Int)
 | 0, _, _, _, _ => none
 | k + 1, x1, x24, x1000, x1001 => if x24 = true then (some (0, x1001)) else (if (wrap64 (x1001 - 1)) < (x1000.length : Int) then (if 0 ≤ (wrap64 (x1001 - 1)) then (if x1 = 0 then (none) else (some (Int.tmod (wrap64 (rd x1000 (wrap64 (x1001 - 1)))) x1, x1001))) else (none)) else (if (x1000.length : Int) = 0 then (none) else (if 0 ≤ (Int.tmod (wrap64 (x1001 - 1)) (x1000.length : Int)) then (if (Int.tmod (wrap64 (x1001 - 1)) (x1000.length : Int)) < (x1000.length : Int) then (if 0 ≤ (Int.tmod (wrap64 ((wrap64 ((wrap64 (x1001 - 1)) * 7)) + 3)) (x1000.length : Int)) then (if (Int.tmod (wrap64 ((wrap64 ((wrap64 (x1001 - 1)) * 7)) + 3)) (x1000.length : Int)) < (x1000.length : Int) then (if x1 = 0 then (none) else (some (Int.tmod (Go.bits .xor .i64 (wrap64 ((wrap64 ((wrap64 ((wrap64 ((wrap64 (rd x1000 (Int.tmod (wrap64 (x1001 - 1)) (x1000.length : Int)))) * 131)) + (wrap64 ((wrap64 (rd x1000 (Int.tmod (wrap64 ((wrap64 ((wrap64 (x1001 - 1)) * 7)) + 3)) (x1000.length : Int)))) * 1117)))) + (wrap64 ((wrap64 (x1001 - 1)) * 29)))) + (wrap64 ((wrap64 (Int.tdiv (wrap64 (x1001 - 1)) (x1000.length : Int))) * 53)))) (wrap64 (Int.tdiv (wrap64 ((wrap64 ((wrap64 ((wrap64 ((wrap64 (rd x1000 (Int.tmod (wrap64 (x1001 - 1)) (x1000.length : Int)))) * 131)) + (wrap64 ((wrap64 (rd x1000 (Int.tmod (wrap64 ((wrap64 ((wrap64 (x1001 - 1)) * 7)) + 3)) (x1000.length : Int)))) * 1117)))) + (wrap64 ((wrap64 (x1001 - 1)) * 29)))) + (wrap64 ((wrap64 (Int.tdiv (wrap64 (x1001 - 1)) (x1000.length : Int))) * 53)))) 64))) x1, x1001))) else (none)) else (none)) else (none)) else (none))))
def spec_l6Rd_pick.f (k : Nat) (s0_0 : List Int) (s0_1 : Int) (a1 : Int) : Option (Int × Int) := if a1 < 1 then (spec_l6Rd_pick.j0 k a1 true s0_0 (wrap64 (s0_1 + 1))) else (spec_l6Rd_pick.j0 k a1 ((s0_0.length : Int) == 0) s0_0 (wrap64 (s0_1 + 1)))
theorem spec_l6Rd_pick.mono_l : ∀ k, (∀ y0 y1 y2 y3, LeO (spec_l6Rd_pick.j0 k y0 y1 y2 y3) (spec_l6Rd_pick.j0 (k + 1) y0 y1 y2 y3))
 | 0 => fun _ _ _ _ r h => by simp [spec_l6Rd_pick.j0] at h
 | k + 1 => by
  have ih0 := spec_l6Rd_pick.mono_l k
  ·intro y0 y1 y2 y3
   unfold spec_l6Rd_pick.j0
   repeat' first
   | (with_reducible exact ih0 _ _ _ _)
   | (with_reducible exact LeO.refl _)
   | (with_reducible exact LeO.none _)
   | (with_reducible refine LeO.ite ?_ ?_)
   | (with_reducible refine LeO.bind ?_ (fun _ => ?_))
   | exact ih0 _ _ _ _
   | exact LeO.none _
   | refine LeO.ite ?_ ?_
   | refine LeO.bind ?_ (fun _ => ?_)
theorem spec_l6Rd_pick.mono : ∀ a0 a1 a2 k, LeO (spec_l6Rd_pick.f k a0 a1 a2) (spec_l6Rd_pick.f (k + 1) a0 a1 a2) := by
 intro a0 a1 a2 k
 have ih0 := spec_l6Rd_pick.mono_l k
 unfold spec_l6Rd_pick.f
 repeat' first
   | (with_reducible exact ih0 _ _ _ _)
   | (with_reducible exact LeO.refl _)
   | (with_reducible exact LeO.none _)
   | (with_reducible refine LeO.ite ?_ ?_)
   | (with_reducible refine LeO.bind ?_ (fun _ => ?_))
   | exact ih0 _ _ _ _
   | exact LeO.none _
   | refine LeO.ite ?_ ?_
   | refine LeO.bind ?_ (fun _ => ?_)
set_option maxHeartbeats 8000000 in
set_option maxRecDepth 100000 in
theorem spec_l6Rd_pick.calls (k : Nat) (g : Nat) (s0_0 : List Int) (s0_1 : Int) (a1 : Int) (r1 : Int) (r2 : Int) (w0 w : World) (hI : IsS96 w0 w g s0_0 s0_1) (hB : Below w0.heap.size w0 w) (h : spec_l6Rd_pick.f k s0_0 s0_1 a1 = some (r1, r2)) :
  Calls Tryd.prog 56 #[.pointer (some ⟨g, 0, none⟩), .int .i64 a1] w fun e w' => e = .returned (.int .i64 r1) ∧ IsS96 w0 w' g s0_0 r2 ∧ Below w0.heap.size w0 w' ∧ KeepBut w w' g none := by
 have HI0 := Aside0.mk hI
 have HK := Aside0.mk (KeepBut.refl w g none)
 have HL := Aside0.mk hB.size
 clear hI
 have HW0 := Aside0.mk hB.size
 have HB := Aside0.mk hB
 clear hB
 have H : (if a1 < 1 then (spec_l6Rd_pick.j0 k a1 true s0_0 (wrap64 (s0_1 + 1))) else (spec_l6Rd_pick.j0 k a1 ((s0_0.length : Int) == 0) s0_0 (wrap64 (s0_1 + 1)))) = some (r1, r2) := h
 clear h
 have HC3 := Aside0.mk H
 clear H
 obtain ⟨ASz4_0, cSz4_0, HGz4, hgz4, HSz4_0⟩ := HI0.out
 have hcz4_0 := cellS96_0 HGz4
 have hcz4_1 := cellS96_1 HGz4
 have hfz4_1 := blk_frozen HGz4 1
 clear HGz4 hgz4
 go_enter Tryd.func56, Tryd.ntmps56
 go_upto_region 2 with (fail)
 repeat (go_quiet (fail); go_upto_region 2 with (fail))
 go_cut [24] (fun v24 wc => ∃ (kq : Nat) (x24_2 : Bool), v24 = .bool x24_2 ∧ Aside0 (spec_l6Rd_pick.j0 kq a1 x24_2 s0_0 (wrap64 (s0_1 + 1)) = some (r1, r2)) ∧ Aside0 (kq ≤ k) ∧ Aside0 (IsS96 w0 wc g s0_0 (wrap64 (s0_1 + 1))) ∧ Aside0 (KeepBut w wc g none) ∧ Aside0 (Below w0.heap.size w0 wc))
 case first =>
  have H := HC3.out
  clear HC3
  by_cases c5 : a1 < 1
  ·rw [if_pos c5] at H
   have c5b0 : decide (a1 < 1) = true := decide_eq_true c5
   clear c5
   (first | rw [c5b0] | (simp only [i64_w, i32_w]; rw [c5b0]) | skip)
   have H' := Aside0.mk H
   clear H
   go_wp2
   repeat (go_quiet (fail); try go_wp2)
   go_meet
   case rel => exact ⟨_, (true), (si_), H', ⟨by first | omega | exact Nat.le_refl _⟩, ⟨is_HI0⟩, ⟨ke_⟩, ⟨bel_⟩⟩
  ·rw [if_neg c5] at H
   have c5b0 : decide (a1 < 1) = false := decide_eq_false c5
   clear c5
   (first | rw [c5b0] | (simp only [i64_w, i32_w]; rw [c5b0]) | skip)
   have H' := Aside0.mk H
   clear H
   obtain ⟨ASz6_0, cSz6_0, HGz6, hgz6, HSz6_0⟩ := HI0.out
   have hcz6_0 := cellS96_0 HGz6
   have hcz6_1 := cellS96_1 HGz6
   have hfz6_1 := blk_frozen HGz6 1
   clear HGz6 hgz6
   go_wp2
   repeat (go_quiet (fail); try go_wp2)
   go_meet
   case rel => exact ⟨_, (((s0_0.length : Int) == 0)), (si_), H', ⟨by first | omega | exact Nat.le_refl _⟩, ⟨is_HI0⟩, ⟨ke_⟩, ⟨bel_⟩⟩
 case rest =>
  clear HC3
  try clear p2
  try clear c5
  try clear c5b0
  try clear p6
  try clear hcz4_0
  try clear hcz4_1
  try clear hcz6_0
  try clear hcz6_1
  try clear hfz4_1
  try clear hfz6_1
  obtain ⟨kq, x24_2, rfl, HA, HJ2, HI0, HK, HB⟩ := hcut
  cases kq with
  | zero => exact absurd HA.out (by simp [spec_l6Rd_pick.j0])
  | succ kj2 =>
   have H := HA.out
   clear HA
   simp only [spec_l6Rd_pick.j0] at H
   by_cases c7 : x24_2 = true
   ·subst c7
    have H1 : (some (0, (wrap64 (s0_1 + 1)))) = some (r1, r2) := by rw [if_pos rfl] at H; exact H
    clear H
    have H := H1
    clear H1
    simp only [Option.some.injEq, Prod.mk.injEq] at H
    obtain ⟨rfl, rfl⟩ := H
    go_wp2
    repeat (go_quiet (fail); try go_wp2)
    go_ret
    exact ⟨fi_, is_HI0, bel_, ke_⟩
   ·replace c7 := Bool.eq_false_iff.mpr c7
    subst c7
    have H1 : (if (wrap64 ((wrap64 (s0_1 + 1)) - 1)) < (s0_0.length : Int) then (if 0 ≤ (wrap64 ((wrap64 (s0_1 + 1)) - 1)) then (if a1 = 0 then (none) else (some (Int.tmod (wrap64 (rd s0_0 (wrap64 ((wrap64 (s0_1 + 1)) - 1)))) a1, (wrap64 (s0_1 + 1))))) else (none)) else (if (s0_0.length : Int) = 0 then (none) else (if 0 ≤ (Int.tmod (wrap64 ((wrap64 (s0_1 + 1)) - 1)) (s0_0.length : Int)) then (if (Int.tmod (wrap64 ((wrap64 (s0_1 + 1)) - 1)) (s0_0.length : Int)) < (s0_0.length : Int) then (if 0 ≤ (Int.tmod (wrap64 ((wrap64 ((wrap64 ((wrap64 (s0_1 + 1)) - 1)) * 7)) + 3)) (s0_0.length : Int)) then (if (Int.tmod (wrap64 ((wrap64 ((wrap64 ((wrap64 (s0_1 + 1)) - 1)) * 7)) + 3)) (s0_0.length : Int)) < (s0_0.length : Int) then (if a1 = 0 then (none) else (some (Int.tmod (Go.bits .xor .i64 (wrap64 ((wrap64 ((wrap64 ((wrap64 ((wrap64 (rd s0_0 (Int.tmod (wrap64 ((wrap64 (s0_1 + 1)) - 1)) (s0_0.length : Int)))) * 131)) + (wrap64 ((wrap64 (rd s0_0 (Int.tmod (wrap64 ((wrap64 ((wrap64 ((wrap64 (s0_1 + 1)) - 1)) * 7)) + 3)) (s0_0.length : Int)))) * 1117)))) + (wrap64 ((wrap64 ((wrap64 (s0_1 + 1)) - 1)) * 29)))) + (wrap64 ((wrap64 (Int.tdiv (wrap64 ((wrap64 (s0_1 + 1)) - 1)) (s0_0.length : Int))) * 53)))) (wrap64 (Int.tdiv (wrap64 ((wrap64 ((wrap64 ((wrap64 ((wrap64 (rd s0_0 (Int.tmod (wrap64 ((wrap64 (s0_1 + 1)) - 1)) (s0_0.length : Int)))) * 131)) + (wrap64 ((wrap64 (rd s0_0 (Int.tmod (wrap64 ((wrap64 ((wrap64 ((wrap64 (s0_1 + 1)) - 1)) * 7)) + 3)) (s0_0.length : Int)))) * 1117)))) + (wrap64 ((wrap64 ((wrap64 (s0_1 + 1)) - 1)) * 29)))) + (wrap64 ((wrap64 (Int.tdiv (wrap64 ((wrap64 (s0_1 + 1)) - 1)) (s0_0.length : Int))) * 53)))) 64))) a1, (wrap64 (s0_1 + 1))))) else (none)) else (none)) else (none)) else (none)))) = some (r1, r2) := by rw [if_neg (show ¬ (false = true) by decide)] at H; exact H
    clear H
    have H := H1
    clear H1
    by_cases c8 : (wrap64 ((wrap64 (s0_1 + 1)) - 1)) < (s0_0.length : Int)
    ·rw [if_pos c8] at H
     have c8b0 : decide ((wrap64 ((wrap64 (s0_1 + 1)) - 1)) < (s0_0.length : Int)) = true := decide_eq_true c8
     clear c8
     obtain ⟨ji9, hji9⟩ : ∃ j_ : Int, (wrap64 ((wrap64 (s0_1 + 1)) - 1)) = j_ := ⟨_, rfl⟩
     replace H : (if 0 ≤ (ji9) then (if a1 = 0 then (none) else (some (Int.tmod (wrap64 (rd s0_0 (ji9))) a1, (wrap64 (s0_1 + 1))))) else (none)) = some (r1, r2) := by first | (rw [hji9] at H; exact H) | (simp only [hji9] at H ⊢; exact H)
     (try rw [hji9] at c8b0)
     have hji9w : (IntKind.i64.wrap ((wrap64 (s0_1 + 1)) - 1)) = ji9 := (i64_w _).trans hji9
     by_cases c10 : 0 ≤ (ji9)
     ·rw [if_pos c10] at H
      have c10b0 : decide (0 ≤ (ji9)) = true := decide_eq_true c10
      clear c10
      by_cases c11 : a1 = 0
      ·rw [if_pos c11] at H
       exact absurd H (by simp)
      ·rw [if_neg c11] at H
       have c11b0 : (a1 == 0) = false := beq_eq_false_iff_ne.mpr c11
       have c11b1 : (a1 != 0) = true := bne_iff_ne.mpr c11
       simp only [Option.some.injEq, Prod.mk.injEq] at H
       obtain ⟨rfl, rfl⟩ := H
       obtain ⟨ASz12_0, cSz12_0, HGz12, hgz12, HSz12_0⟩ := HI0.out
       have hcz12_0 := cellS96_0 HGz12
       have hcz12_1 := cellS96_1 HGz12
       have hfz12_1 := blk_frozen HGz12 1
       clear HGz12 hgz12
       have p450 : 0 ≤ ((ji9) : Int) := od_
       have q450 : (ji9) < (s0_0.length : Int) := od_
       obtain ⟨ad450, e450, hx450_0⟩ := Kd.at_int HSz12_0 (ji9) p450 q450
       cases e450
       replace hx450_0 := pw_cell_below HB.out hx450_0
       replace p450 := eq_true p450
       replace q450 := eq_true q450
       go_wp2
       repeat (go_quiet (fail); try go_wp2)
       go_ret
       exact ⟨by first | rfl | (simp [errW_none, errW_some] <;> rfl) | (simp only [← hji9]; first | rfl | (simp [errW_none, errW_some] <;> rfl)) | (simp [*, errW_none, errW_some] <;> rfl), is_HI0, bel_, ke_⟩
     ·rw [if_neg c10] at H
      exact absurd H (by simp)
    ·rw [if_neg c8] at H
     have c8b0 : decide ((wrap64 ((wrap64 (s0_1 + 1)) - 1)) < (s0_0.length : Int)) = false := decide_eq_false c8
     clear c8
     by_cases c13 : (s0_0.length : Int) = 0
     ·rw [if_pos c13] at H
      exact absurd H (by simp)
     ·rw [if_neg c13] at H
      have c13b0 : ((s0_0.length : Int) == 0) = false := beq_eq_false_iff_ne.mpr c13
      have c13b1 : ((s0_0.length : Int) != 0) = true := bne_iff_ne.mpr c13
      have c13b2 : ¬ (s0_0 = []) := fun h_ => c13 (by rw [h_]; rfl)
      obtain ⟨ji14, hji14⟩ : ∃ j_ : Int, (Int.tmod (wrap64 ((wrap64 (s0_1 + 1)) - 1)) (s0_0.length : Int)) = j_ := ⟨_, rfl⟩
      replace H : (if 0 ≤ (ji14) then (if (ji14) < (s0_0.length : Int) then (if 0 ≤ (Int.tmod (wrap64 ((wrap64 ((wrap64 ((wrap64 (s0_1 + 1)) - 1)) * 7)) + 3)) (s0_0.length : Int)) then (if (Int.tmod (wrap64 ((wrap64 ((wrap64 ((wrap64 (s0_1 + 1)) - 1)) * 7)) + 3)) (s0_0.length : Int)) < (s0_0.length : Int) then (if a1 = 0 then (none) else (some (Int.tmod (Go.bits .xor .i64 (wrap64 ((wrap64 ((wrap64 ((wrap64 ((wrap64 (rd s0_0 (ji14))) * 131)) + (wrap64 ((wrap64 (rd s0_0 (Int.tmod (wrap64 ((wrap64 ((wrap64 ((wrap64 (s0_1 + 1)) - 1)) * 7)) + 3)) (s0_0.length : Int)))) * 1117)))) + (wrap64 ((wrap64 ((wrap64 (s0_1 + 1)) - 1)) * 29)))) + (wrap64 ((wrap64 (Int.tdiv (wrap64 ((wrap64 (s0_1 + 1)) - 1)) (s0_0.length : Int))) * 53)))) (wrap64 (Int.tdiv (wrap64 ((wrap64 ((wrap64 ((wrap64 ((wrap64 (rd s0_0 (ji14))) * 131)) + (wrap64 ((wrap64 (rd s0_0 (Int.tmod (wrap64 ((wrap64 ((wrap64 ((wrap64 (s0_1 + 1)) - 1)) * 7)) + 3)) (s0_0.length : Int)))) * 1117)))) + (wrap64 ((wrap64 ((wrap64 (s0_1 + 1)) - 1)) * 29)))) + (wrap64 ((wrap64 (Int.tdiv (wrap64 ((wrap64 (s0_1 + 1)) - 1)) (s0_0.length : Int))) * 53)))) 64))) a1, (wrap64 (s0_1 + 1))))) else (none)) else (none)) else (none)) else (none)) = some (r1, r2) := by first | (rw [hji14] at H; exact H) | (simp only [hji14] at H ⊢; exact H)
      by_cases c15 : 0 ≤ (ji14)
      ·rw [if_pos c15] at H
       have c15b0 : decide (0 ≤ (ji14)) = true := decide_eq_true c15
       clear c15
       by_cases c16 : (ji14) < (s0_0.length : Int)
       ·rw [if_pos c16] at H
        have c16b0 : decide ((ji14) < (s0_0.length : Int)) = true := decide_eq_true c16
        clear c16
        obtain ⟨ji17, hji17⟩ : ∃ j_ : Int, (Int.tmod (wrap64 ((wrap64 ((wrap64 ((wrap64 (s0_1 + 1)) - 1)) * 7)) + 3)) (s0_0.length : Int)) = j_ := ⟨_, rfl⟩
        replace H : (if 0 ≤ (ji17) then (if (ji17) < (s0_0.length : Int) then (if a1 = 0 then (none) else (some (Int.tmod (Go.bits .xor .i64 (wrap64 ((wrap64 ((wrap64 ((wrap64 ((wrap64 (rd s0_0 (ji14))) * 131)) + (wrap64 ((wrap64 (rd s0_0 (ji17))) * 1117)))) + (wrap64 ((wrap64 ((wrap64 (s0_1 + 1)) - 1)) * 29)))) + (wrap64 ((wrap64 (Int.tdiv (wrap64 ((wrap64 (s0_1 + 1)) - 1)) (s0_0.length : Int))) * 53)))) (wrap64 (Int.tdiv (wrap64 ((wrap64 ((wrap64 ((wrap64 ((wrap64 (rd s0_0 (ji14))) * 131)) + (wrap64 ((wrap64 (rd s0_0 (ji17))) * 1117)))) + (wrap64 ((wrap64 ((wrap64 (s0_1 + 1)) - 1)) * 29)))) + (wrap64 ((wrap64 (Int.tdiv (wrap64 ((wrap64 (s0_1 + 1)) - 1)) (s0_0.length : Int))) * 53)))) 64))) a1, (wrap64 (s0_1 + 1))))) else (none)) else (none)) = some (r1, r2) := by first | (rw [hji17] at H; exact H) | (simp only [hji17] at H ⊢; exact H)
        by_cases c18 : 0 ≤ (ji17)
        ·rw [if_pos c18] at H
         have c18b0 : decide (0 ≤ (ji17)) = true := decide_eq_true c18
         clear c18
         by_cases c19 : (ji17) < (s0_0.length : Int)
         ·rw [if_pos c19] at H
          have c19b0 : decide ((ji17) < (s0_0.length : Int)) = true := decide_eq_true c19
          clear c19
          by_cases c20 : a1 = 0
          ·rw [if_pos c20] at H
           exact absurd H (by simp)
          ·rw [if_neg c20] at H
           have c20b0 : (a1 == 0) = false := beq_eq_false_iff_ne.mpr c20
           have c20b1 : (a1 != 0) = true := bne_iff_ne.mpr c20
           simp only [Option.some.injEq, Prod.mk.injEq] at H
           obtain ⟨rfl, rfl⟩ := H
           obtain ⟨ASz21_0, cSz21_0, HGz21, hgz21, HSz21_0⟩ := HI0.out
           have hcz21_0 := cellS96_0 HGz21
           have hcz21_1 := cellS96_1 HGz21
           have hfz21_1 := blk_frozen HGz21 1
           clear HGz21 hgz21
           have p451 : 0 ≤ ((ji14) : Int) := od_
           have q451 : (ji14) < (s0_0.length : Int) := od_
           obtain ⟨ad451, e451, hx451_0⟩ := Kd.at_int HSz21_0 (ji14) p451 q451
           cases e451
           replace hx451_0 := pw_cell_below HB.out hx451_0
           replace p451 := eq_true p451
           replace q451 := eq_true q451
           have p452 : 0 ≤ ((ji17) : Int) := od_
           have q452 : (ji17) < (s0_0.length : Int) := od_
           obtain ⟨ad452, e452, hx452_0⟩ := Kd.at_int HSz21_0 (ji17) p452 q452
           obtain rfl : ad451 = ad452 := (by injection e452)
           replace hx452_0 := pw_cell_below HB.out hx452_0
           replace p452 := eq_true p452
           replace q452 := eq_true q452
           go_wp2
           repeat (go_quiet (fail); try go_wp2)
           go_ret
           exact ⟨by first | rfl | (simp [errW_none, errW_some] <;> rfl) | (simp only [← hji14, ← hji17]; first | rfl | (simp [errW_none, errW_some] <;> rfl)) | (simp [*, errW_none, errW_some] <;> rfl), is_HI0, bel_, ke_⟩
         ·rw [if_neg c19] at H
          exact absurd H (by simp)
        ·rw [if_neg c18] at H
         exact absurd H (by simp)
       ·rw [if_neg c16] at H
        exact absurd H (by simp)
      ·rw [if_neg c15] at H
       exact absurd H (by simp)

def spec_TreeNew.f  : Option ((List (S120))) := some (([(⟨1, 0, (⟨#[]⟩ : ByteArray)⟩ : S120), (⟨2, 0, (⟨#[]⟩ : ByteArray)⟩ : S120), (⟨3, 0, (⟨#[]⟩ : ByteArray)⟩ : S120)] : List (S120)))
set_option maxHeartbeats 8000000 in
set_option maxRecDepth 100000 in
theorem spec_TreeNew.calls  (r : List (S120)) (w : World) (h : spec_TreeNew.f  = some r) :
  Calls Tryd.prog 87 #[] w fun e w' => ∃ v0_ : Value, e = .returned (v0_) ∧ Kd.R k120 120 w' w.heap.size (fun _ => True) v0_ r ∧ Below w.heap.size w w' := by
 have hu120 := Tryd.underlying120
 have HB := Aside0.mk (Below.refl w.heap.size w)
 have H : (some (([(⟨1, 0, (⟨#[]⟩ : ByteArray)⟩ : S120), (⟨2, 0, (⟨#[]⟩ : ByteArray)⟩ : S120), (⟨3, 0, (⟨#[]⟩ : ByteArray)⟩ : S120)] : List (S120)))) = some r := h
 clear h
 obtain ⟨y453, hy453⟩ : ∃ y_ : List (S120), y_ = (([(⟨1, 0, (⟨#[]⟩ : ByteArray)⟩ : S120), (⟨2, 0, (⟨#[]⟩ : ByteArray)⟩ : S120), (⟨3, 0, (⟨#[]⟩ : ByteArray)⟩ : S120)] : List (S120))) := ⟨_, rfl⟩
 replace H : (some y453) = some r := by first | (rw [hy453]; with_reducible exact H) | (have H2_ := (Option.bind_some _ _).symm.trans H; rw [hy453]; with_reducible exact H2_) | (have H2_ := (Option.bind_some _ _).symm.trans H; with_reducible exact H2_) | with_reducible exact H | (rw [hy453]; exact H) | exact H
 have Ny453 := Aside0.mk hy453
 clear hy453
 obtain rfl := Option.some.inj H
 go_enter Tryd.func87, Tryd.ntmps87
 go_wp2_with (first | ((with_reducible refine gate_dst (N := 4) rfl ?_); refine Kd.R_lit k120 _ 120 ?hg (N := 4) ?hd (xs := ([(⟨1, 0, (⟨#[]⟩ : ByteArray)⟩ : S120), (⟨2, 0, (⟨#[]⟩ : ByteArray)⟩ : S120), (⟨3, 0, (⟨#[]⟩ : ByteArray)⟩ : S120)] : List (S120))) (inner := [.int .i64 1, .int .i64 0, .string (⟨#[]⟩ : ByteArray), .int .i64 2, .int .i64 0, .string (⟨#[]⟩ : ByteArray), .int .i64 3, .int .i64 0, .string (⟨#[]⟩ : ByteArray)]) (ok := fun _ => True) (okp := fun _ => True) ?hr ?hp (fun _ hk => hk) trivial (Below.refl _ _) (Nat.le_refl _) (by simp) ?_; (case hd => rfl); (case hg => rfl); (case hr => first | (go_simp; done) | (go_simp; rfl)); (case hp => exact (Reps.c3 (show Kd.M k120 _ _ _ (⟨1, 0, (⟨#[]⟩ : ByteArray)⟩ : S120) [.int .i64 1, .int .i64 0, .string (⟨#[]⟩ : ByteArray)] from (k120_mkM _ _ _ (⟨1, 0, (⟨#[]⟩ : ByteArray)⟩ : S120) )) (Reps.c3 (show Kd.M k120 _ _ _ (⟨2, 0, (⟨#[]⟩ : ByteArray)⟩ : S120) [.int .i64 2, .int .i64 0, .string (⟨#[]⟩ : ByteArray)] from (k120_mkM _ _ _ (⟨2, 0, (⟨#[]⟩ : ByteArray)⟩ : S120) )) (Reps.c3 (show Kd.M k120 _ _ _ (⟨3, 0, (⟨#[]⟩ : ByteArray)⟩ : S120) [.int .i64 3, .int .i64 0, .string (⟨#[]⟩ : ByteArray)] from (k120_mkM _ _ _ (⟨3, 0, (⟨#[]⟩ : ByteArray)⟩ : S120) )) (Reps.none _ _))))); intro v454 w1 ho2 hb hg_ hnew_; clear hg_ hnew_; (first | rw [← Ny453.out] at ho2 | (simp only [Int.reduceToNat] at ho2; rw [← Ny453.out] at ho2)); have HO455 := Aside0.mk (Kd.R_lower ho2 (below_size (bel_))); replace HB := Aside0.mk (below_step (bel_) hb); clear hb ho2))
 go_ret
 exact ⟨_, fi_, by (with_reducible repeat (first | apply Kd.R_alloc | apply Kd.R_drewN | apply Kd.R_drew)); exact HO455.out, bel_⟩

def spec_l2At.l0 : Nat → List (S120) → Int → Int → Option (Int)
 | 0, _, _, _ => none
 | k + 1, x0, x1, x5 => if x5 < (x0.length : Int) then (if 0 ≤ x5 then (if ((rd_T120 x0 x5).f0) = x1 then (some x5) else (spec_l2At.l0 k x0 x1 (wrap64 (x5 + 1)))) else (none)) else (some (-1))
def spec_l2At.f (k : Nat) (l0 : List (S120)) (a1 : Int) : Option (Int) := spec_l2At.l0 k l0 a1 0
theorem spec_l2At.mono_l : ∀ k, (∀ y0 y1 y2, LeO (spec_l2At.l0 k y0 y1 y2) (spec_l2At.l0 (k + 1) y0 y1 y2))
 | 0 => fun _ _ _ r h => by simp [spec_l2At.l0] at h
 | k + 1 => by
  have ih0 := spec_l2At.mono_l k
  ·intro y0 y1 y2
   unfold spec_l2At.l0
   repeat' first
   | (with_reducible exact ih0 _ _ _)
   | (with_reducible exact LeO.refl _)
   | (with_reducible exact LeO.none _)
   | (with_reducible refine LeO.ite ?_ ?_)
   | (with_reducible refine LeO.bind ?_ (fun _ => ?_))
   | exact ih0 _ _ _
   | exact LeO.none _
   | refine LeO.ite ?_ ?_
   | refine LeO.bind ?_ (fun _ => ?_)
theorem spec_l2At.mono : ∀ a0 a1 k, LeO (spec_l2At.f k a0 a1) (spec_l2At.f (k + 1) a0 a1) := by
 intro a0 a1 k
 have ih0 := spec_l2At.mono_l k
 unfold spec_l2At.f
 repeat' first
   | (with_reducible exact ih0 _ _ _)
   | (with_reducible exact LeO.refl _)
   | (with_reducible exact LeO.none _)
   | (with_reducible refine LeO.ite ?_ ?_)
   | (with_reducible refine LeO.bind ?_ (fun _ => ?_))
   | exact ih0 _ _ _
   | exact LeO.none _
   | refine LeO.ite ?_ ?_
   | refine LeO.bind ?_ (fun _ => ?_)
set_option maxHeartbeats 8000000 in
set_option maxRecDepth 100000 in
theorem spec_l2At.calls (k : Nat) (A0 : Option Addr) (c0 : Nat) (l0 : List (S120)) (a1 : Int) (r : Int) (w : World) (hr0 : Kd.C k120 w A0 l0.length l0) (hc0 : l0.length ≤ c0) (h : spec_l2At.f k l0 a1 = some r) :
  Calls Tryd.prog 98 #[.slice A0 l0.length c0, .int .i64 a1] w fun e w' => e = .returned (.int .i64 r) ∧ Drawn0 w w' := by
 have HR0 := Aside0.mk hr0
 have HC0 := Aside0.mk hc0
 clear hr0 hc0
 have H : (spec_l2At.l0 k l0 a1 0) = some r := h
 clear h
 have H' := Aside0.mk H
 clear H
 go_enter Tryd.func98, Tryd.ntmps98
 go_wp2
 go_loopg [5] k (fun kq v5 w' => ∃ (x5_1 : Int), v5 = .int .i64 x5_1 ∧ Aside0 (spec_l2At.l0 kq l0 a1 x5_1 = some r) ∧ Aside0 (kq ≤ k) ∧ Drawn0 w w')
 case atStart => exact ⟨(0), (si_), H', ⟨Nat.le_refl _⟩, by repeat (first | exact Drawn0.refl _ | apply Drawn0.step)⟩
 case round =>
  clear H'
  try clear p2
  obtain ⟨x5_1, rfl, HA, HK1, ⟨m1, rfl⟩⟩ := hrel
  cases gk with
  | zero => exact absurd HA.out (by simp [spec_l2At.l0])
  | succ k1 =>
   have H := HA.out
   clear HA
   simp only [spec_l2At.l0] at H
   by_cases c3 : x5_1 < (l0.length : Int)
   ·rw [if_pos c3] at H
    have c3b0 : decide (x5_1 < (l0.length : Int)) = true := decide_eq_true c3
    clear c3
    by_cases c4 : 0 ≤ x5_1
    ·rw [if_pos c4] at H
     have c4b0 : decide (0 ≤ x5_1) = true := decide_eq_true c4
     clear c4
     by_cases c5 : ((rd_T120 l0 x5_1).f0) = a1
     ·rw [if_pos c5] at H
      have c5b0 : (((rd_T120 l0 x5_1).f0) == a1) = true := beq_iff_eq.mpr c5
      have c5b1 : (((rd_T120 l0 x5_1).f0) != a1) = false := bne_eq_false_iff_eq.mpr c5
      clear c5
      obtain rfl := Option.some.inj H
      have p456 : 0 ≤ (x5_1 : Int) := od_
      have q456 : x5_1 < (l0.length : Int) := od_
      obtain ⟨ad456, e456, hx456_0, hx456_1, hx456_2⟩ := at_T120 HR0.out x5_1 p456 q456
      cases e456
      replace p456 := eq_true p456
      replace q456 := eq_true q456
      go_wp2
      go_ret
      exact ⟨si_, by repeat (first | exact Drawn0.refl _ | apply Drawn0.step)⟩
     ·rw [if_neg c5] at H
      have c5b0 : (((rd_T120 l0 x5_1).f0) == a1) = false := beq_eq_false_iff_ne.mpr c5
      have c5b1 : (((rd_T120 l0 x5_1).f0) != a1) = true := bne_iff_ne.mpr c5
      have H' := Aside0.mk H
      clear H
      have p456 : 0 ≤ (x5_1 : Int) := od_
      have q456 : x5_1 < (l0.length : Int) := od_
      obtain ⟨ad456, e456, hx456_0, hx456_1, hx456_2⟩ := at_T120 HR0.out x5_1 p456 q456
      cases e456
      replace p456 := eq_true p456
      replace q456 := eq_true q456
      go_wp2
      go_roundg k1
      case measure => have := HK1.out; omega
      case rel => exact ⟨(wrap64 (x5_1 + 1)), (si_), H', ⟨by have := HK1.out; omega⟩, by repeat (first | exact Drawn0.refl _ | apply Drawn0.step)⟩
    ·rw [if_neg c4] at H
     exact absurd H (by simp)
   ·rw [if_neg c3] at H
    have c3b0 : decide (x5_1 < (l0.length : Int)) = false := decide_eq_false c3
    clear c3
    obtain rfl := Option.some.inj H
    go_wp2
    go_ret
    exact ⟨si_, by repeat (first | exact Drawn0.refl _ | apply Drawn0.step)⟩

end Go.Proofs.YtnclcbjagleoeaaDoor.P
namespace Go.Proofs.YtnclcbjagleoeaaDoor.P
open Go.RowKit Go.Proofs.YtnclcbjagleoeaaDoorW.PrintWords Go.Proofs.YtnclcbjagleoeaaDoorW.PrintLast
set_option linter.unusedVariables false
set_option linter.unusedSimpArgs false
def spec_l2End.l0 : Nat → List (S120) → Int → Int → Option (Int)
 | 0, _, _, _ => none
 | k + 1, x0, x1, x5 => if x5 < (x0.length : Int) then (if 0 ≤ x5 then (if 0 ≤ x1 then (if x1 < (x0.length : Int) then (if ((rd_T120 x0 x5).f1) > ((rd_T120 x0 x1).f1) then (spec_l2End.l0 k x0 x1 (wrap64 (x5 + 1))) else (some x5)) else (none)) else (none)) else (none)) else (some x5)
def spec_l2End.f (k : Nat) (l0 : List (S120)) (a1 : Int) : Option (Int) := spec_l2End.l0 k l0 a1 (wrap64 (a1 + 1))
theorem spec_l2End.mono_l : ∀ k, (∀ y0 y1 y2, LeO (spec_l2End.l0 k y0 y1 y2) (spec_l2End.l0 (k + 1) y0 y1 y2))
 | 0 => fun _ _ _ r h => by simp [spec_l2End.l0] at h
 | k + 1 => by
  have ih0 := spec_l2End.mono_l k
  ·intro y0 y1 y2
   unfold spec_l2End.l0
   repeat' first
   | (with_reducible exact ih0 _ _ _)
   | (with_reducible exact LeO.refl _)
   | (with_reducible exact LeO.none _)
   | (with_reducible refine LeO.ite ?_ ?_)
   | (with_reducible refine LeO.bind ?_ (fun _ => ?_))
   | exact ih0 _ _ _
   | exact LeO.none _
   | refine LeO.ite ?_ ?_
   | refine LeO.bind ?_ (fun _ => ?_)
theorem spec_l2End.mono : ∀ a0 a1 k, LeO (spec_l2End.f k a0 a1) (spec_l2End.f (k + 1) a0 a1) := by
 intro a0 a1 k
 have ih0 := spec_l2End.mono_l k
 unfold spec_l2End.f
 repeat' first
   | (with_reducible exact ih0 _ _ _)
   | (with_reducible exact LeO.refl _)
   | (with_reducible exact LeO.none _)
   | (with_reducible refine LeO.ite ?_ ?_)
   | (with_reducible refine LeO.bind ?_ (fun _ => ?_))
   | exact ih0 _ _ _
   | exact LeO.none _
   | refine LeO.ite ?_ ?_
   | refine LeO.bind ?_ (fun _ => ?_)
set_option maxHeartbeats 8000000 in
set_option maxRecDepth 100000 in
theorem spec_l2End.calls (k : Nat) (A0 : Option Addr) (c0 : Nat) (l0 : List (S120)) (a1 : Int) (r : Int) (w : World) (hr0 : Kd.C k120 w A0 l0.length l0) (hc0 : l0.length ≤ c0) (h : spec_l2End.f k l0 a1 = some r) :
  Calls Tryd.prog 101 #[.slice A0 l0.length c0, .int .i64 a1] w fun e w' => e = .returned (.int .i64 r) ∧ Drawn0 w w' := by
 have HR0 := Aside0.mk hr0
 have HC0 := Aside0.mk hc0
 clear hr0 hc0
 have H : (spec_l2End.l0 k l0 a1 (wrap64 (a1 + 1))) = some r := h
 clear h
 have H' := Aside0.mk H
 clear H
 go_enter Tryd.func101, Tryd.ntmps101
 go_wp2
 repeat (go_quiet (fail); try go_wp2)
 go_loopg [5] k (fun kq v5 w' => ∃ (x5_1 : Int), v5 = .int .i64 x5_1 ∧ Aside0 (spec_l2End.l0 kq l0 a1 x5_1 = some r) ∧ Aside0 (kq ≤ k) ∧ Drawn0 w w')
 case atStart => exact ⟨(wrap64 (a1 + 1)), (si_), H', ⟨Nat.le_refl _⟩, by repeat (first | exact Drawn0.refl _ | apply Drawn0.step)⟩
 case round =>
  clear H'
  try clear c1
  try clear p2
  obtain ⟨x5_1, rfl, HA, HK1, ⟨m1, rfl⟩⟩ := hrel
  cases gk with
  | zero => exact absurd HA.out (by simp [spec_l2End.l0])
  | succ k1 =>
   have H := HA.out
   clear HA
   simp only [spec_l2End.l0] at H
   by_cases c3 : x5_1 < (l0.length : Int)
   ·rw [if_pos c3] at H
    have c3b0 : decide (x5_1 < (l0.length : Int)) = true := decide_eq_true c3
    clear c3
    by_cases c4 : 0 ≤ x5_1
    ·rw [if_pos c4] at H
     have c4b0 : decide (0 ≤ x5_1) = true := decide_eq_true c4
     clear c4
     by_cases c5 : 0 ≤ a1
     ·rw [if_pos c5] at H
      have c5b0 : decide (0 ≤ a1) = true := decide_eq_true c5
      clear c5
      by_cases c6 : a1 < (l0.length : Int)
      ·rw [if_pos c6] at H
       have c6b0 : decide (a1 < (l0.length : Int)) = true := decide_eq_true c6
       clear c6
       by_cases c7 : ((rd_T120 l0 x5_1).f1) > ((rd_T120 l0 a1).f1)
       ·rw [if_pos c7] at H
        have c7b0 : decide (((rd_T120 l0 a1).f1) < ((rd_T120 l0 x5_1).f1)) = true := decide_eq_true c7
        clear c7
        have H' := Aside0.mk H
        clear H
        have p457 : 0 ≤ (x5_1 : Int) := od_
        have q457 : x5_1 < (l0.length : Int) := od_
        obtain ⟨ad457, e457, hx457_0, hx457_1, hx457_2⟩ := at_T120 HR0.out x5_1 p457 q457
        cases e457
        replace p457 := eq_true p457
        replace q457 := eq_true q457
        have p458 : 0 ≤ (a1 : Int) := od_
        have q458 : a1 < (l0.length : Int) := od_
        obtain ⟨ad458, e458, hx458_0, hx458_1, hx458_2⟩ := at_T120 HR0.out a1 p458 q458
        obtain rfl : ad457 = ad458 := (by injection e458)
        replace p458 := eq_true p458
        replace q458 := eq_true q458
        go_wp2
        repeat (go_quiet (fail); try go_wp2)
        go_roundg k1
        case measure => have := HK1.out; omega
        case rel => exact ⟨(wrap64 (x5_1 + 1)), (si_), H', ⟨by have := HK1.out; omega⟩, by repeat (first | exact Drawn0.refl _ | apply Drawn0.step)⟩
       ·rw [if_neg c7] at H
        have c7b0 : decide (((rd_T120 l0 a1).f1) < ((rd_T120 l0 x5_1).f1)) = false := decide_eq_false c7
        clear c7
        obtain rfl := Option.some.inj H
        have p457 : 0 ≤ (x5_1 : Int) := od_
        have q457 : x5_1 < (l0.length : Int) := od_
        obtain ⟨ad457, e457, hx457_0, hx457_1, hx457_2⟩ := at_T120 HR0.out x5_1 p457 q457
        cases e457
        replace p457 := eq_true p457
        replace q457 := eq_true q457
        have p458 : 0 ≤ (a1 : Int) := od_
        have q458 : a1 < (l0.length : Int) := od_
        obtain ⟨ad458, e458, hx458_0, hx458_1, hx458_2⟩ := at_T120 HR0.out a1 p458 q458
        obtain rfl : ad457 = ad458 := (by injection e458)
        replace p458 := eq_true p458
        replace q458 := eq_true q458
        go_wp2
        repeat (go_quiet (fail); try go_wp2)
        go_ret
        exact ⟨si_, by repeat (first | exact Drawn0.refl _ | apply Drawn0.step)⟩
      ·rw [if_neg c6] at H
       exact absurd H (by simp)
     ·rw [if_neg c5] at H
      exact absurd H (by simp)
    ·rw [if_neg c4] at H
     exact absurd H (by simp)
   ·rw [if_neg c3] at H
    have c3b0 : decide (x5_1 < (l0.length : Int)) = false := decide_eq_false c3
    clear c3
    obtain rfl := Option.some.inj H
    go_wp2
    repeat (go_quiet (fail); try go_wp2)
    go_ret
    exact ⟨si_, by repeat (first | exact Drawn0.refl _ | apply Drawn0.step)⟩

def spec_l2Kids.l0 : Nat → List (S120) → List Int → Int → Int → Option (List Int)
 | 0, _, _, _, _ => none
 | k + 1, x0, x5, x6, x7 => (spec_l2End.f k x0 x6).bind fun t463 => (if x7 < t463 then (if 0 ≤ x7 then (if x7 < (x0.length : Int) then (if 0 ≤ x6 then (if x6 < (x0.length : Int) then (if ((rd_T120 x0 x7).f1) = (wrap64 (((rd_T120 x0 x6).f1) + 1)) then (if x5.length < 17592186044416 then (spec_l2Kids.l0 k x0 (x5 ++ [(rd_T120 x0 x7).f0]) x6 (wrap64 (x7 + 1))) else (none)) else (spec_l2Kids.l0 k x0 x5 x6 (wrap64 (x7 + 1)))) else (none)) else (none)) else (none)) else (none)) else (some x5))
def spec_l2Kids.f (k : Nat) (l0 : List (S120)) (a1 : Int) : Option (List Int) := (some (([] : List Int) : List Int)).bind fun y459 => ((spec_l2At.f k l0 a1).bind fun t462 => (if t462 < 0 then (some y459) else (spec_l2Kids.l0 k l0 y459 t462 (wrap64 (t462 + 1)))))
theorem spec_l2Kids.mono_l : ∀ k, (∀ y0 y1 y2 y3, LeO (spec_l2Kids.l0 k y0 y1 y2 y3) (spec_l2Kids.l0 (k + 1) y0 y1 y2 y3))
 | 0 => fun _ _ _ _ r h => by simp [spec_l2Kids.l0] at h
 | k + 1 => by
  have ih0 := spec_l2Kids.mono_l k
  ·intro y0 y1 y2 y3
   unfold spec_l2Kids.l0
   repeat' first
   | (with_reducible exact ih0 _ _ _ _)
   | (with_reducible exact spec_l2At.mono _ _ _)
   | (with_reducible exact spec_l2End.mono _ _ _)
   | (with_reducible exact LeO.refl _)
   | (with_reducible exact LeO.none _)
   | (with_reducible refine LeO.ite ?_ ?_)
   | (with_reducible refine LeO.bind ?_ (fun _ => ?_))
   | exact ih0 _ _ _ _
   | exact spec_l2At.mono _ _ _
   | exact spec_l2End.mono _ _ _
   | exact LeO.none _
   | refine LeO.ite ?_ ?_
   | refine LeO.bind ?_ (fun _ => ?_)
theorem spec_l2Kids.mono : ∀ a0 a1 k, LeO (spec_l2Kids.f k a0 a1) (spec_l2Kids.f (k + 1) a0 a1) := by
 intro a0 a1 k
 have ih0 := spec_l2Kids.mono_l k
 unfold spec_l2Kids.f
 repeat' first
   | (with_reducible exact ih0 _ _ _ _)
   | (with_reducible exact spec_l2At.mono _ _ _)
   | (with_reducible exact spec_l2End.mono _ _ _)
   | (with_reducible exact LeO.refl _)
   | (with_reducible exact LeO.none _)
   | (with_reducible refine LeO.ite ?_ ?_)
   | (with_reducible refine LeO.bind ?_ (fun _ => ?_))
   | exact ih0 _ _ _ _
   | exact spec_l2At.mono _ _ _
   | exact spec_l2End.mono _ _ _
   | exact LeO.none _
   | refine LeO.ite ?_ ?_
   | refine LeO.bind ?_ (fun _ => ?_)
set_option maxHeartbeats 8000000 in
set_option maxRecDepth 100000 in
theorem spec_l2Kids.calls (k : Nat) (A0 : Option Addr) (c0 : Nat) (l0 : List (S120)) (a1 : Int) (r : List Int) (w : World) (hr0 : Kd.C k120 w A0 l0.length l0) (hc0 : l0.length ≤ c0) (h : spec_l2Kids.f k l0 a1 = some r) :
  Calls Tryd.prog 94 #[.slice A0 l0.length c0, .int .i64 a1] w fun e w' => ∃ v0_ : Value, e = .returned (v0_) ∧ Kd.R (Kd.int .i64) 3 w' w.heap.size (fun _ => True) v0_ r ∧ Below w.heap.size w w' := by
 have HR0 := Aside0.mk hr0
 have HC0 := Aside0.mk hc0
 clear hr0 hc0
 have HB := Aside0.mk (Below.refl w.heap.size w)
 have H : ((some (([] : List Int) : List Int)).bind fun y459 => ((spec_l2At.f k l0 a1).bind fun t462 => (if t462 < 0 then (some y459) else (spec_l2Kids.l0 k l0 y459 t462 (wrap64 (t462 + 1)))))) = some r := h
 clear h
 obtain ⟨y459, hy459⟩ : ∃ y_ : List Int, y_ = (([] : List Int)) := ⟨_, rfl⟩
 replace H : ((spec_l2At.f k l0 a1).bind fun t462 => (if t462 < 0 then (some y459) else (spec_l2Kids.l0 k l0 y459 t462 (wrap64 (t462 + 1))))) = some r := by first | (rw [hy459]; with_reducible exact H) | (have H2_ := (Option.bind_some _ _).symm.trans H; rw [hy459]; with_reducible exact H2_) | (have H2_ := (Option.bind_some _ _).symm.trans H; with_reducible exact H2_) | with_reducible exact H | (rw [hy459]; exact H) | exact H
 have Ny459 := Aside0.mk hy459
 clear hy459
 replace H := Option.bind_eq_some_iff.mp H
 obtain ⟨t462, A30, H⟩ := H
 replace H : (if t462 < 0 then (some y459) else (spec_l2Kids.l0 k l0 y459 t462 (wrap64 (t462 + 1)))) = some r := H
 have A3 := Aside0.mk A30
 clear A30
 by_cases c4 : t462 < 0
 ·rw [if_pos c4] at H
  have c4b0 : decide (t462 < 0) = true := decide_eq_true c4
  clear c4
  obtain rfl := Option.some.inj H
  go_enter Tryd.func94, Tryd.ntmps94
  go_wp2_with (first | ((with_reducible refine gate_dst (N := 8) rfl ?_); refine Kd.R_lit (Kd.int .i64) _ 3 ?hg (N := 8) ?hd (xs := ([] : List Int)) (inner := []) (ok := fun _ => True) (okp := fun _ => True) ?hr ?hp (fun _ hk => hk) trivial (Below.refl _ _) (Nat.le_refl _) (by simp) ?_; (case hd => rfl); (case hg => rfl); (case hr => first | (go_simp; done) | (go_simp; rfl)); (case hp => exact (Reps.none _ _)); intro v460 w5 ho6 hb hg_ hnew_; clear hg_ hnew_; (first | rw [← Ny459.out] at ho6 | (simp only [Int.reduceToNat] at ho6; rw [← Ny459.out] at ho6)); have HO461 := Aside0.mk (Kd.R_lower ho6 (below_size (bel_))); replace HB := Aside0.mk (below_step (bel_) hb); clear hb ho6) | (go_at_call 98; (with_reducible refine (spec_l2At.calls k _ _ l0 a1 t462 _ ?side1 ?side2 A3.out).mono ?_); (case side1 => exact cp_ HR0.out); (case side2 => exact HC0.out); rintro e w' ⟨rfl, ⟨nd, rfl⟩⟩; (try first | exact ⟨rfl, _, World.drewN_drewN _ _ _⟩ | exact ⟨rfl, _, Eq.trans (World.drewN_drewN _ _ _) (congrArg (World.drewN _) (Nat.add_assoc _ _ _))⟩)))
  repeat (go_quiet (first | ((with_reducible refine gate_dst (N := 8) rfl ?_); refine Kd.R_lit (Kd.int .i64) _ 3 ?hg (N := 8) ?hd (xs := ([] : List Int)) (inner := []) (ok := fun _ => True) (okp := fun _ => True) ?hr ?hp (fun _ hk => hk) trivial (Below.refl _ _) (Nat.le_refl _) (by simp) ?_; (case hd => rfl); (case hg => rfl); (case hr => first | (go_simp; done) | (go_simp; rfl)); (case hp => exact (Reps.none _ _)); intro v460 w5 ho6 hb hg_ hnew_; clear hg_ hnew_; (first | rw [← Ny459.out] at ho6 | (simp only [Int.reduceToNat] at ho6; rw [← Ny459.out] at ho6)); have HO461 := Aside0.mk (Kd.R_lower ho6 (below_size (bel_))); replace HB := Aside0.mk (below_step (bel_) hb); clear hb ho6) | (go_at_call 98; (with_reducible refine (spec_l2At.calls k _ _ l0 a1 t462 _ ?side1 ?side2 A3.out).mono ?_); (case side1 => exact cp_ HR0.out); (case side2 => exact HC0.out); rintro e w' ⟨rfl, ⟨nd, rfl⟩⟩; (try first | exact ⟨rfl, _, World.drewN_drewN _ _ _⟩ | exact ⟨rfl, _, Eq.trans (World.drewN_drewN _ _ _) (congrArg (World.drewN _) (Nat.add_assoc _ _ _))⟩))); try go_wp2_with (first | ((with_reducible refine gate_dst (N := 8) rfl ?_); refine Kd.R_lit (Kd.int .i64) _ 3 ?hg (N := 8) ?hd (xs := ([] : List Int)) (inner := []) (ok := fun _ => True) (okp := fun _ => True) ?hr ?hp (fun _ hk => hk) trivial (Below.refl _ _) (Nat.le_refl _) (by simp) ?_; (case hd => rfl); (case hg => rfl); (case hr => first | (go_simp; done) | (go_simp; rfl)); (case hp => exact (Reps.none _ _)); intro v460 w5 ho6 hb hg_ hnew_; clear hg_ hnew_; (first | rw [← Ny459.out] at ho6 | (simp only [Int.reduceToNat] at ho6; rw [← Ny459.out] at ho6)); have HO461 := Aside0.mk (Kd.R_lower ho6 (below_size (bel_))); replace HB := Aside0.mk (below_step (bel_) hb); clear hb ho6) | (go_at_call 98; (with_reducible refine (spec_l2At.calls k _ _ l0 a1 t462 _ ?side1 ?side2 A3.out).mono ?_); (case side1 => exact cp_ HR0.out); (case side2 => exact HC0.out); rintro e w' ⟨rfl, ⟨nd, rfl⟩⟩; (try first | exact ⟨rfl, _, World.drewN_drewN _ _ _⟩ | exact ⟨rfl, _, Eq.trans (World.drewN_drewN _ _ _) (congrArg (World.drewN _) (Nat.add_assoc _ _ _))⟩))))
  go_ret
  exact ⟨_, fi_, by (with_reducible repeat (first | apply Kd.R_alloc | apply Kd.R_drewN | apply Kd.R_drew)); exact HO461.out, bel_⟩
 ·rw [if_neg c4] at H
  have c4b0 : decide (t462 < 0) = false := decide_eq_false c4
  clear c4
  have H' := Aside0.mk H
  clear H
  go_enter Tryd.func94, Tryd.ntmps94
  go_wp2_with (first | ((with_reducible refine gate_dst (N := 8) rfl ?_); refine Kd.R_lit (Kd.int .i64) _ 3 ?hg (N := 8) ?hd (xs := ([] : List Int)) (inner := []) (ok := fun _ => True) (okp := fun _ => True) ?hr ?hp (fun _ hk => hk) trivial (Below.refl _ _) (Nat.le_refl _) (by simp) ?_; (case hd => rfl); (case hg => rfl); (case hr => first | (go_simp; done) | (go_simp; rfl)); (case hp => exact (Reps.none _ _)); intro v460 w7 ho8 hb hg_ hnew_; clear hg_ hnew_; (first | rw [← Ny459.out] at ho8 | (simp only [Int.reduceToNat] at ho8; rw [← Ny459.out] at ho8)); have HO461 := Aside0.mk (Kd.R_lower ho8 (below_size (bel_))); replace HB := Aside0.mk (below_step (bel_) hb); clear hb ho8) | (go_at_call 98; (with_reducible refine (spec_l2At.calls k _ _ l0 a1 t462 _ ?side1 ?side2 A3.out).mono ?_); (case side1 => exact cp_ HR0.out); (case side2 => exact HC0.out); rintro e w' ⟨rfl, ⟨nd, rfl⟩⟩; (try first | exact ⟨rfl, _, World.drewN_drewN _ _ _⟩ | exact ⟨rfl, _, Eq.trans (World.drewN_drewN _ _ _) (congrArg (World.drewN _) (Nat.add_assoc _ _ _))⟩)))
  repeat (go_quiet (first | ((with_reducible refine gate_dst (N := 8) rfl ?_); refine Kd.R_lit (Kd.int .i64) _ 3 ?hg (N := 8) ?hd (xs := ([] : List Int)) (inner := []) (ok := fun _ => True) (okp := fun _ => True) ?hr ?hp (fun _ hk => hk) trivial (Below.refl _ _) (Nat.le_refl _) (by simp) ?_; (case hd => rfl); (case hg => rfl); (case hr => first | (go_simp; done) | (go_simp; rfl)); (case hp => exact (Reps.none _ _)); intro v460 w7 ho8 hb hg_ hnew_; clear hg_ hnew_; (first | rw [← Ny459.out] at ho8 | (simp only [Int.reduceToNat] at ho8; rw [← Ny459.out] at ho8)); have HO461 := Aside0.mk (Kd.R_lower ho8 (below_size (bel_))); replace HB := Aside0.mk (below_step (bel_) hb); clear hb ho8) | (go_at_call 98; (with_reducible refine (spec_l2At.calls k _ _ l0 a1 t462 _ ?side1 ?side2 A3.out).mono ?_); (case side1 => exact cp_ HR0.out); (case side2 => exact HC0.out); rintro e w' ⟨rfl, ⟨nd, rfl⟩⟩; (try first | exact ⟨rfl, _, World.drewN_drewN _ _ _⟩ | exact ⟨rfl, _, Eq.trans (World.drewN_drewN _ _ _) (congrArg (World.drewN _) (Nat.add_assoc _ _ _))⟩))); try go_wp2_with (first | ((with_reducible refine gate_dst (N := 8) rfl ?_); refine Kd.R_lit (Kd.int .i64) _ 3 ?hg (N := 8) ?hd (xs := ([] : List Int)) (inner := []) (ok := fun _ => True) (okp := fun _ => True) ?hr ?hp (fun _ hk => hk) trivial (Below.refl _ _) (Nat.le_refl _) (by simp) ?_; (case hd => rfl); (case hg => rfl); (case hr => first | (go_simp; done) | (go_simp; rfl)); (case hp => exact (Reps.none _ _)); intro v460 w7 ho8 hb hg_ hnew_; clear hg_ hnew_; (first | rw [← Ny459.out] at ho8 | (simp only [Int.reduceToNat] at ho8; rw [← Ny459.out] at ho8)); have HO461 := Aside0.mk (Kd.R_lower ho8 (below_size (bel_))); replace HB := Aside0.mk (below_step (bel_) hb); clear hb ho8) | (go_at_call 98; (with_reducible refine (spec_l2At.calls k _ _ l0 a1 t462 _ ?side1 ?side2 A3.out).mono ?_); (case side1 => exact cp_ HR0.out); (case side2 => exact HC0.out); rintro e w' ⟨rfl, ⟨nd, rfl⟩⟩; (try first | exact ⟨rfl, _, World.drewN_drewN _ _ _⟩ | exact ⟨rfl, _, Eq.trans (World.drewN_drewN _ _ _) (congrArg (World.drewN _) (Nat.add_assoc _ _ _))⟩))))
  go_loopg [5, 7] k (fun kq v5 v7 w' => ∃ (x5_1 : List Int) (x7_1 : Int), v7 = .int .i64 x7_1 ∧ Aside0 (spec_l2Kids.l0 kq l0 x5_1 t462 x7_1 = some r) ∧ Aside0 (kq ≤ k) ∧ Aside0 (Kd.R (Kd.int .i64) 3 w' w.heap.size (fun _ => True) v5 x5_1) ∧ Aside0 (Below w.heap.size w w'))
  case atStart => exact ⟨(y459), (wrap64 (t462 + 1)), (si_), H', ⟨Nat.le_refl _⟩, ⟨by (with_reducible repeat (first | apply Kd.R_alloc | apply Kd.R_drewN | apply Kd.R_drew)); exact HO461.out⟩, ⟨bel_⟩⟩
  case round =>
   clear H'
   try clear p2
   try clear c4
   try clear c4b0
   try clear p6
   obtain ⟨x5_1, x7_1, rfl, HA, HK1, HO_5, HB⟩ := hrel
   cases gk with
   | zero => exact absurd HA.out (by simp [spec_l2Kids.l0])
   | succ k1 =>
    have H := HA.out
    clear HA
    simp only [spec_l2Kids.l0] at H
    replace H := Option.bind_eq_some_iff.mp H
    obtain ⟨t463, A90, H⟩ := H
    replace H : (if x7_1 < t463 then (if 0 ≤ x7_1 then (if x7_1 < (l0.length : Int) then (if 0 ≤ t462 then (if t462 < (l0.length : Int) then (if ((rd_T120 l0 x7_1).f1) = (wrap64 (((rd_T120 l0 t462).f1) + 1)) then (if x5_1.length < 17592186044416 then (spec_l2Kids.l0 k1 l0 (x5_1 ++ [(rd_T120 l0 x7_1).f0]) t462 (wrap64 (x7_1 + 1))) else (none)) else (spec_l2Kids.l0 k1 l0 x5_1 t462 (wrap64 (x7_1 + 1)))) else (none)) else (none)) else (none)) else (none)) else (some x5_1)) = some r := H
    have A9 := Aside0.mk A90
    clear A90
    by_cases c10 : x7_1 < t463
    ·rw [if_pos c10] at H
     have c10b0 : decide (x7_1 < t463) = true := decide_eq_true c10
     clear c10
     by_cases c11 : 0 ≤ x7_1
     ·rw [if_pos c11] at H
      have c11b0 : decide (0 ≤ x7_1) = true := decide_eq_true c11
      clear c11
      by_cases c12 : x7_1 < (l0.length : Int)
      ·rw [if_pos c12] at H
       have c12b0 : decide (x7_1 < (l0.length : Int)) = true := decide_eq_true c12
       clear c12
       by_cases c13 : 0 ≤ t462
       ·rw [if_pos c13] at H
        have c13b0 : decide (0 ≤ t462) = true := decide_eq_true c13
        clear c13
        by_cases c14 : t462 < (l0.length : Int)
        ·rw [if_pos c14] at H
         have c14b0 : decide (t462 < (l0.length : Int)) = true := decide_eq_true c14
         clear c14
         by_cases c15 : ((rd_T120 l0 x7_1).f1) = (wrap64 (((rd_T120 l0 t462).f1) + 1))
         ·rw [if_pos c15] at H
          have c15b0 : (((rd_T120 l0 x7_1).f1) == (wrap64 (((rd_T120 l0 t462).f1) + 1))) = true := beq_iff_eq.mpr c15
          have c15b1 : (((rd_T120 l0 x7_1).f1) != (wrap64 (((rd_T120 l0 t462).f1) + 1))) = false := bne_eq_false_iff_eq.mpr c15
          clear c15
          by_cases c16 : x5_1.length < 17592186044416
          ·rw [if_pos c16] at H
           have LMc16 := Aside0.mk c16
           clear c16
           obtain ⟨y467, hy467⟩ : ∃ y_ : List Int, y_ = (x5_1 ++ [(rd_T120 l0 x7_1).f0]) := ⟨_, rfl⟩
           replace H : (spec_l2Kids.l0 k1 l0 y467 t462 (wrap64 (x7_1 + 1))) = some r := by first | (rw [hy467]; with_reducible exact H) | (have H2_ := (Option.bind_some _ _).symm.trans H; rw [hy467]; with_reducible exact H2_) | (have H2_ := (Option.bind_some _ _).symm.trans H; with_reducible exact H2_) | with_reducible exact H | (rw [hy467]; exact H) | exact H
           have Ny467 := Aside0.mk hy467
           clear hy467
           have H' := Aside0.mk H
           clear H
           go_wp2_with (first | (go_at_call 101; (with_reducible refine (spec_l2End.calls k1 _ _ l0 t462 t463 _ ?side1 ?side2 A9.out).mono ?_); (case side1 => exact cp_ HR0.out); (case side2 => exact HC0.out); rintro e w' ⟨rfl, ⟨nd, rfl⟩⟩; (try first | exact ⟨rfl, _, World.drewN_drewN _ _ _⟩ | exact ⟨rfl, _, Eq.trans (World.drewN_drewN _ _ _) (congrArg (World.drewN _) (Nat.add_assoc _ _ _))⟩); have p464 : 0 ≤ (x7_1 : Int) := od_; have q464 : x7_1 < (l0.length : Int) := od_; obtain ⟨ad464, e464, hx464_0, hx464_1, hx464_2⟩ := at_T120 HR0.out x7_1 p464 q464; cases e464; replace hx464_0 := (cb_ HB.out hx464_0 :); replace hx464_1 := (cb_ HB.out hx464_1 :); replace hx464_2 := (cb_ HB.out hx464_2 :); replace p464 := eq_true p464; replace q464 := eq_true q464; have p465 : 0 ≤ (t462 : Int) := od_; have q465 : t462 < (l0.length : Int) := od_; obtain ⟨ad465, e465, hx465_0, hx465_1, hx465_2⟩ := at_T120 HR0.out t462 p465 q465; obtain rfl : ad464 = ad465 := (by injection e465); replace hx465_0 := (cb_ HB.out hx465_0 :); replace hx465_1 := (cb_ HB.out hx465_1 :); replace hx465_2 := (cb_ HB.out hx465_2 :); replace p465 := eq_true p465; replace q465 := eq_true q465; have p466 : 0 ≤ (x7_1 : Int) := od_; have q466 : x7_1 < (l0.length : Int) := od_; obtain ⟨ad466, e466, hx466_0, hx466_1, hx466_2⟩ := at_T120 HR0.out x7_1 p466 q466; obtain rfl : ad464 = ad466 := (by injection e466); replace hx466_0 := (cb_ HB.out hx466_0 :); replace hx466_1 := (cb_ HB.out hx466_1 :); replace hx466_2 := (cb_ HB.out hx466_2 :); replace p466 := eq_true p466; replace q466 := eq_true q466) | ((with_reducible refine gate_builtin (b := .append) (xs := #[.tmp 36, .tmp 42]) rfl ?_); at_builtin; refine Kd.R_append (Kd.int .i64) (w0 := w) w.heap.size rfl (.tmp 36) (.tmp 42) 109 3 (.int .i64 0) 8 rfl Tryd.underlying109 info3 rfl (by decide) (by omega) u5 x5_1 ((rd_T120 l0 x7_1).f0) [.int .i64 ((rd_T120 l0 x7_1).f0)] (fun _ => True) (fun _ => False) rfl rfl ?aP (fun _ hk => hk.elim) ?aF ?aO ?aB ?aS ?aL ?_; (case aP => exact rfl); (case aB => exact (bel_)); (case aF => exact (fun _ _ => trivial)); (case aO => exact (rp_ HO_5.out)); (case aS => exact (below_size (bel_))); (case aL => have := LMc16.out; omega); intro v468 w17 ho hb hg hat; rw [← Ny467.out] at ho; replace HB := Aside0.mk (hb); have HO469 := Aside0.mk (ho); clear HO_5; clear ho hb hg hat))
           repeat (go_quiet (first | (go_at_call 101; (with_reducible refine (spec_l2End.calls k1 _ _ l0 t462 t463 _ ?side1 ?side2 A9.out).mono ?_); (case side1 => exact cp_ HR0.out); (case side2 => exact HC0.out); rintro e w' ⟨rfl, ⟨nd, rfl⟩⟩; (try first | exact ⟨rfl, _, World.drewN_drewN _ _ _⟩ | exact ⟨rfl, _, Eq.trans (World.drewN_drewN _ _ _) (congrArg (World.drewN _) (Nat.add_assoc _ _ _))⟩); have p464 : 0 ≤ (x7_1 : Int) := od_; have q464 : x7_1 < (l0.length : Int) := od_; obtain ⟨ad464, e464, hx464_0, hx464_1, hx464_2⟩ := at_T120 HR0.out x7_1 p464 q464; cases e464; replace hx464_0 := (cb_ HB.out hx464_0 :); replace hx464_1 := (cb_ HB.out hx464_1 :); replace hx464_2 := (cb_ HB.out hx464_2 :); replace p464 := eq_true p464; replace q464 := eq_true q464; have p465 : 0 ≤ (t462 : Int) := od_; have q465 : t462 < (l0.length : Int) := od_; obtain ⟨ad465, e465, hx465_0, hx465_1, hx465_2⟩ := at_T120 HR0.out t462 p465 q465; obtain rfl : ad464 = ad465 := (by injection e465); replace hx465_0 := (cb_ HB.out hx465_0 :); replace hx465_1 := (cb_ HB.out hx465_1 :); replace hx465_2 := (cb_ HB.out hx465_2 :); replace p465 := eq_true p465; replace q465 := eq_true q465; have p466 : 0 ≤ (x7_1 : Int) := od_; have q466 : x7_1 < (l0.length : Int) := od_; obtain ⟨ad466, e466, hx466_0, hx466_1, hx466_2⟩ := at_T120 HR0.out x7_1 p466 q466; obtain rfl : ad464 = ad466 := (by injection e466); replace hx466_0 := (cb_ HB.out hx466_0 :); replace hx466_1 := (cb_ HB.out hx466_1 :); replace hx466_2 := (cb_ HB.out hx466_2 :); replace p466 := eq_true p466; replace q466 := eq_true q466) | ((with_reducible refine gate_builtin (b := .append) (xs := #[.tmp 36, .tmp 42]) rfl ?_); at_builtin; refine Kd.R_append (Kd.int .i64) (w0 := w) w.heap.size rfl (.tmp 36) (.tmp 42) 109 3 (.int .i64 0) 8 rfl Tryd.underlying109 info3 rfl (by decide) (by omega) u5 x5_1 ((rd_T120 l0 x7_1).f0) [.int .i64 ((rd_T120 l0 x7_1).f0)] (fun _ => True) (fun _ => False) rfl rfl ?aP (fun _ hk => hk.elim) ?aF ?aO ?aB ?aS ?aL ?_; (case aP => exact rfl); (case aB => exact (bel_)); (case aF => exact (fun _ _ => trivial)); (case aO => exact (rp_ HO_5.out)); (case aS => exact (below_size (bel_))); (case aL => have := LMc16.out; omega); intro v468 w17 ho hb hg hat; rw [← Ny467.out] at ho; replace HB := Aside0.mk (hb); have HO469 := Aside0.mk (ho); clear HO_5; clear ho hb hg hat)); try go_wp2_with (first | (go_at_call 101; (with_reducible refine (spec_l2End.calls k1 _ _ l0 t462 t463 _ ?side1 ?side2 A9.out).mono ?_); (case side1 => exact cp_ HR0.out); (case side2 => exact HC0.out); rintro e w' ⟨rfl, ⟨nd, rfl⟩⟩; (try first | exact ⟨rfl, _, World.drewN_drewN _ _ _⟩ | exact ⟨rfl, _, Eq.trans (World.drewN_drewN _ _ _) (congrArg (World.drewN _) (Nat.add_assoc _ _ _))⟩); have p464 : 0 ≤ (x7_1 : Int) := od_; have q464 : x7_1 < (l0.length : Int) := od_; obtain ⟨ad464, e464, hx464_0, hx464_1, hx464_2⟩ := at_T120 HR0.out x7_1 p464 q464; cases e464; replace hx464_0 := (cb_ HB.out hx464_0 :); replace hx464_1 := (cb_ HB.out hx464_1 :); replace hx464_2 := (cb_ HB.out hx464_2 :); replace p464 := eq_true p464; replace q464 := eq_true q464; have p465 : 0 ≤ (t462 : Int) := od_; have q465 : t462 < (l0.length : Int) := od_; obtain ⟨ad465, e465, hx465_0, hx465_1, hx465_2⟩ := at_T120 HR0.out t462 p465 q465; obtain rfl : ad464 = ad465 := (by injection e465); replace hx465_0 := (cb_ HB.out hx465_0 :); replace hx465_1 := (cb_ HB.out hx465_1 :); replace hx465_2 := (cb_ HB.out hx465_2 :); replace p465 := eq_true p465; replace q465 := eq_true q465; have p466 : 0 ≤ (x7_1 : Int) := od_; have q466 : x7_1 < (l0.length : Int) := od_; obtain ⟨ad466, e466, hx466_0, hx466_1, hx466_2⟩ := at_T120 HR0.out x7_1 p466 q466; obtain rfl : ad464 = ad466 := (by injection e466); replace hx466_0 := (cb_ HB.out hx466_0 :); replace hx466_1 := (cb_ HB.out hx466_1 :); replace hx466_2 := (cb_ HB.out hx466_2 :); replace p466 := eq_true p466; replace q466 := eq_true q466) | ((with_reducible refine gate_builtin (b := .append) (xs := #[.tmp 36, .tmp 42]) rfl ?_); at_builtin; refine Kd.R_append (Kd.int .i64) (w0 := w) w.heap.size rfl (.tmp 36) (.tmp 42) 109 3 (.int .i64 0) 8 rfl Tryd.underlying109 info3 rfl (by decide) (by omega) u5 x5_1 ((rd_T120 l0 x7_1).f0) [.int .i64 ((rd_T120 l0 x7_1).f0)] (fun _ => True) (fun _ => False) rfl rfl ?aP (fun _ hk => hk.elim) ?aF ?aO ?aB ?aS ?aL ?_; (case aP => exact rfl); (case aB => exact (bel_)); (case aF => exact (fun _ _ => trivial)); (case aO => exact (rp_ HO_5.out)); (case aS => exact (below_size (bel_))); (case aL => have := LMc16.out; omega); intro v468 w17 ho hb hg hat; rw [← Ny467.out] at ho; replace HB := Aside0.mk (hb); have HO469 := Aside0.mk (ho); clear HO_5; clear ho hb hg hat)))
           go_roundg k1
           case measure => have := HK1.out; omega
           case rel => exact ⟨(y467), (wrap64 (x7_1 + 1)), (si_), H', ⟨by have := HK1.out; omega⟩, ⟨by (with_reducible repeat (first | apply Kd.R_alloc | apply Kd.R_drewN | apply Kd.R_drew)); exact HO469.out⟩, ⟨bel_⟩⟩
          ·rw [if_neg c16] at H
           exact absurd H (by simp)
         ·rw [if_neg c15] at H
          have c15b0 : (((rd_T120 l0 x7_1).f1) == (wrap64 (((rd_T120 l0 t462).f1) + 1))) = false := beq_eq_false_iff_ne.mpr c15
          have c15b1 : (((rd_T120 l0 x7_1).f1) != (wrap64 (((rd_T120 l0 t462).f1) + 1))) = true := bne_iff_ne.mpr c15
          have H' := Aside0.mk H
          clear H
          go_wp2_with (first | (go_at_call 101; (with_reducible refine (spec_l2End.calls k1 _ _ l0 t462 t463 _ ?side1 ?side2 A9.out).mono ?_); (case side1 => exact cp_ HR0.out); (case side2 => exact HC0.out); rintro e w' ⟨rfl, ⟨nd, rfl⟩⟩; (try first | exact ⟨rfl, _, World.drewN_drewN _ _ _⟩ | exact ⟨rfl, _, Eq.trans (World.drewN_drewN _ _ _) (congrArg (World.drewN _) (Nat.add_assoc _ _ _))⟩); have p464 : 0 ≤ (x7_1 : Int) := od_; have q464 : x7_1 < (l0.length : Int) := od_; obtain ⟨ad464, e464, hx464_0, hx464_1, hx464_2⟩ := at_T120 HR0.out x7_1 p464 q464; cases e464; replace hx464_0 := (cb_ HB.out hx464_0 :); replace hx464_1 := (cb_ HB.out hx464_1 :); replace hx464_2 := (cb_ HB.out hx464_2 :); replace p464 := eq_true p464; replace q464 := eq_true q464; have p465 : 0 ≤ (t462 : Int) := od_; have q465 : t462 < (l0.length : Int) := od_; obtain ⟨ad465, e465, hx465_0, hx465_1, hx465_2⟩ := at_T120 HR0.out t462 p465 q465; obtain rfl : ad464 = ad465 := (by injection e465); replace hx465_0 := (cb_ HB.out hx465_0 :); replace hx465_1 := (cb_ HB.out hx465_1 :); replace hx465_2 := (cb_ HB.out hx465_2 :); replace p465 := eq_true p465; replace q465 := eq_true q465))
          repeat (go_quiet (first | (go_at_call 101; (with_reducible refine (spec_l2End.calls k1 _ _ l0 t462 t463 _ ?side1 ?side2 A9.out).mono ?_); (case side1 => exact cp_ HR0.out); (case side2 => exact HC0.out); rintro e w' ⟨rfl, ⟨nd, rfl⟩⟩; (try first | exact ⟨rfl, _, World.drewN_drewN _ _ _⟩ | exact ⟨rfl, _, Eq.trans (World.drewN_drewN _ _ _) (congrArg (World.drewN _) (Nat.add_assoc _ _ _))⟩); have p464 : 0 ≤ (x7_1 : Int) := od_; have q464 : x7_1 < (l0.length : Int) := od_; obtain ⟨ad464, e464, hx464_0, hx464_1, hx464_2⟩ := at_T120 HR0.out x7_1 p464 q464; cases e464; replace hx464_0 := (cb_ HB.out hx464_0 :); replace hx464_1 := (cb_ HB.out hx464_1 :); replace hx464_2 := (cb_ HB.out hx464_2 :); replace p464 := eq_true p464; replace q464 := eq_true q464; have p465 : 0 ≤ (t462 : Int) := od_; have q465 : t462 < (l0.length : Int) := od_; obtain ⟨ad465, e465, hx465_0, hx465_1, hx465_2⟩ := at_T120 HR0.out t462 p465 q465; obtain rfl : ad464 = ad465 := (by injection e465); replace hx465_0 := (cb_ HB.out hx465_0 :); replace hx465_1 := (cb_ HB.out hx465_1 :); replace hx465_2 := (cb_ HB.out hx465_2 :); replace p465 := eq_true p465; replace q465 := eq_true q465)); try go_wp2_with (first | (go_at_call 101; (with_reducible refine (spec_l2End.calls k1 _ _ l0 t462 t463 _ ?side1 ?side2 A9.out).mono ?_); (case side1 => exact cp_ HR0.out); (case side2 => exact HC0.out); rintro e w' ⟨rfl, ⟨nd, rfl⟩⟩; (try first | exact ⟨rfl, _, World.drewN_drewN _ _ _⟩ | exact ⟨rfl, _, Eq.trans (World.drewN_drewN _ _ _) (congrArg (World.drewN _) (Nat.add_assoc _ _ _))⟩); have p464 : 0 ≤ (x7_1 : Int) := od_; have q464 : x7_1 < (l0.length : Int) := od_; obtain ⟨ad464, e464, hx464_0, hx464_1, hx464_2⟩ := at_T120 HR0.out x7_1 p464 q464; cases e464; replace hx464_0 := (cb_ HB.out hx464_0 :); replace hx464_1 := (cb_ HB.out hx464_1 :); replace hx464_2 := (cb_ HB.out hx464_2 :); replace p464 := eq_true p464; replace q464 := eq_true q464; have p465 : 0 ≤ (t462 : Int) := od_; have q465 : t462 < (l0.length : Int) := od_; obtain ⟨ad465, e465, hx465_0, hx465_1, hx465_2⟩ := at_T120 HR0.out t462 p465 q465; obtain rfl : ad464 = ad465 := (by injection e465); replace hx465_0 := (cb_ HB.out hx465_0 :); replace hx465_1 := (cb_ HB.out hx465_1 :); replace hx465_2 := (cb_ HB.out hx465_2 :); replace p465 := eq_true p465; replace q465 := eq_true q465)))
          go_roundg k1
          case measure => have := HK1.out; omega
          case rel => exact ⟨(x5_1), (wrap64 (x7_1 + 1)), (si_), H', ⟨by have := HK1.out; omega⟩, ⟨by (with_reducible repeat (first | apply Kd.R_alloc | apply Kd.R_drewN | apply Kd.R_drew)); exact HO_5.out⟩, ⟨bel_⟩⟩
        ·rw [if_neg c14] at H
         exact absurd H (by simp)
       ·rw [if_neg c13] at H
        exact absurd H (by simp)
      ·rw [if_neg c12] at H
       exact absurd H (by simp)
     ·rw [if_neg c11] at H
      exact absurd H (by simp)
    ·rw [if_neg c10] at H
     have c10b0 : decide (x7_1 < t463) = false := decide_eq_false c10
     clear c10
     obtain rfl := Option.some.inj H
     go_wp2_with (first | (go_at_call 101; (with_reducible refine (spec_l2End.calls k1 _ _ l0 t462 t463 _ ?side1 ?side2 A9.out).mono ?_); (case side1 => exact cp_ HR0.out); (case side2 => exact HC0.out); rintro e w' ⟨rfl, ⟨nd, rfl⟩⟩; (try first | exact ⟨rfl, _, World.drewN_drewN _ _ _⟩ | exact ⟨rfl, _, Eq.trans (World.drewN_drewN _ _ _) (congrArg (World.drewN _) (Nat.add_assoc _ _ _))⟩)))
     repeat (go_quiet (first | (go_at_call 101; (with_reducible refine (spec_l2End.calls k1 _ _ l0 t462 t463 _ ?side1 ?side2 A9.out).mono ?_); (case side1 => exact cp_ HR0.out); (case side2 => exact HC0.out); rintro e w' ⟨rfl, ⟨nd, rfl⟩⟩; (try first | exact ⟨rfl, _, World.drewN_drewN _ _ _⟩ | exact ⟨rfl, _, Eq.trans (World.drewN_drewN _ _ _) (congrArg (World.drewN _) (Nat.add_assoc _ _ _))⟩))); try go_wp2_with (first | (go_at_call 101; (with_reducible refine (spec_l2End.calls k1 _ _ l0 t462 t463 _ ?side1 ?side2 A9.out).mono ?_); (case side1 => exact cp_ HR0.out); (case side2 => exact HC0.out); rintro e w' ⟨rfl, ⟨nd, rfl⟩⟩; (try first | exact ⟨rfl, _, World.drewN_drewN _ _ _⟩ | exact ⟨rfl, _, Eq.trans (World.drewN_drewN _ _ _) (congrArg (World.drewN _) (Nat.add_assoc _ _ _))⟩))))
     go_ret
     exact ⟨_, fi_, by (with_reducible repeat (first | apply Kd.R_alloc | apply Kd.R_drewN | apply Kd.R_drew)); exact HO_5.out, bel_⟩

def spec_l6Rd_of.f (k : Nat) (s0_0 : List Int) (s0_1 : Int) (l1 : List ByteArray) : Option (ByteArray × Int) := (spec_l6Rd_pick.f k s0_0 s0_1 (l1.length : Int)).bind fun bt470 => (if 0 ≤ bt470.1 then (if bt470.1 < (l1.length : Int) then (some (rdOf ByteArray.empty l1 bt470.1, bt470.2)) else (none)) else (none))
theorem spec_l6Rd_of.mono : ∀ a0 a1 a2 k, LeO (spec_l6Rd_of.f k a0 a1 a2) (spec_l6Rd_of.f (k + 1) a0 a1 a2) := by
 intro a0 a1 a2 k
 unfold spec_l6Rd_of.f
 repeat' first
   | (with_reducible exact spec_l6Rd_pick.mono _ _ _ _)
   | (with_reducible exact LeO.refl _)
   | (with_reducible exact LeO.none _)
   | (with_reducible refine LeO.ite ?_ ?_)
   | (with_reducible refine LeO.bind ?_ (fun _ => ?_))
   | exact spec_l6Rd_pick.mono _ _ _ _
   | exact LeO.none _
   | refine LeO.ite ?_ ?_
   | refine LeO.bind ?_ (fun _ => ?_)
set_option maxHeartbeats 8000000 in
set_option maxRecDepth 100000 in
theorem spec_l6Rd_of.calls (k : Nat) (g : Nat) (s0_0 : List Int) (s0_1 : Int) (A1 : Option Addr) (c1 : Nat) (l1 : List ByteArray) (r1 : ByteArray) (r2 : Int) (w0 w : World) (hI : IsS96 w0 w g s0_0 s0_1) (hB : Below w0.heap.size w0 w) (hr1 : Kd.C Kd.string w A1 l1.length l1) (hc1 : l1.length ≤ c1) (hf1 : ∀ ad, A1 = some ad → 0 < l1.length → ad.block ≠ g) (h : spec_l6Rd_of.f k s0_0 s0_1 l1 = some (r1, r2)) :
  Calls Tryd.prog 105 #[.pointer (some ⟨g, 0, none⟩), .slice A1 l1.length c1] w fun e w' => e = .returned (.string r1) ∧ IsS96 w0 w' g s0_0 r2 ∧ Below w0.heap.size w0 w' ∧ KeepBut w w' g none := by
 have HR1 := Aside0.mk hr1
 have HC1 := Aside0.mk hc1
 clear hr1 hc1
 have HI0 := Aside0.mk hI
 have HK := Aside0.mk (KeepBut.refl w g none)
 have HL := Aside0.mk hB.size
 clear hI
 have HW0 := Aside0.mk hB.size
 have HB := Aside0.mk hB
 clear hB
 have H : ((spec_l6Rd_pick.f k s0_0 s0_1 (l1.length : Int)).bind fun bt470 => (if 0 ≤ bt470.1 then (if bt470.1 < (l1.length : Int) then (some (rdOf ByteArray.empty l1 bt470.1, bt470.2)) else (none)) else (none))) = some (r1, r2) := h
 clear h
 replace H := Option.bind_eq_some_iff.mp H
 obtain ⟨⟨t470, t471⟩, A30, H⟩ := H
 replace H : (if 0 ≤ t470 then (if t470 < (l1.length : Int) then (some (rdOf ByteArray.empty l1 t470, t471)) else (none)) else (none)) = some (r1, r2) := H
 have A3 := Aside0.mk A30
 clear A30
 by_cases c4 : 0 ≤ t470
 ·rw [if_pos c4] at H
  have c4b0 : decide (0 ≤ t470) = true := decide_eq_true c4
  clear c4
  by_cases c5 : t470 < (l1.length : Int)
  ·rw [if_pos c5] at H
   have c5b0 : decide (t470 < (l1.length : Int)) = true := decide_eq_true c5
   clear c5
   simp only [Option.some.injEq, Prod.mk.injEq] at H
   obtain ⟨rfl, rfl⟩ := H
   go_enter Tryd.func105, Tryd.ntmps105
   go_wp2_with (first | ((with_reducible refine gate_callee (f := 56) rfl ?_); refine gl_ 9 Tryd.func56 #[.pointer (some ⟨g, 0, none⟩), .int .i64 (l1.length : Int)] ?_; (with_reducible refine (spec_l6Rd_pick.calls k g s0_0 s0_1 (l1.length : Int) t470 t471 w0 _ ?side1 ?side2 A3.out).mono ?_); (case side1 => exact is_HI0); (case side2 => exact bel_); rintro e w6 ⟨rfl, hi, hb, hk⟩; refine ⟨_, rfl, ?_⟩; replace HK := Aside0.mk (KeepBut.trans (ke_) hk (.inl rfl)); replace HB := Aside0.mk (hb); replace HI0 := Aside0.mk (hi); (try clear hb); (try clear hb2); (try clear hk); (try clear hi); have p472 : 0 ≤ (t470 : Int) := od_; have q472 : t470 < (l1.length : Int) := od_; obtain ⟨ad472, e472, hx472_0⟩ := Kd.at_string HR1.out t470 p472 q472; cases e472; replace hx472_0 := keep_cell HK.out hx472_0 (by first | (rw [add_block]; exact hf1 _ rfl (by omega)) | exact hf1 _ rfl (by omega) | exact hf1 ad472 rfl (by omega)); replace p472 := eq_true p472; replace q472 := eq_true q472))
   go_ret
   exact ⟨fi_, is_HI0, bel_, ke_⟩
  ·rw [if_neg c5] at H
   exact absurd H (by simp)
 ·rw [if_neg c4] at H
  exact absurd H (by simp)

def spec_l71Text.l0 : Nat → ByteArray → Int → List Int → Int → Option (ByteArray × Int)
 | 0, _, _, _, _ => none
 | k + 1, x3, x4, x1000, x1001 => if x4 > 0 then ((spec_l6Rd_of.f k x1000 x1001 (([(⟨#[97]⟩ : ByteArray), (⟨#[98]⟩ : ByteArray), (⟨#[99]⟩ : ByteArray), (⟨#[100]⟩ : ByteArray)] : List ByteArray))).bind fun bt478 => (if x3.size + bt478.1.size ≤ 9223372036854775807 then (spec_l71Text.l0 k (x3 ++ bt478.1) (wrap64 (x4 - 1)) x1000 bt478.2) else (none))) else ((spec_l6Rd_pick.f k x1000 x1001 40).bind fun bt480 => (if bt480.1 = 0 then ((spec_l6Rd_of.f k x1000 bt480.2 (([(⟨#[101]⟩ : ByteArray), (⟨#[32]⟩ : ByteArray), (⟨#[97, 97, 97, 97]⟩ : ByteArray), (⟨#[39]⟩ : ByteArray)] : List ByteArray))).bind fun bt485 => (if x3.size + bt485.1.size ≤ 9223372036854775807 then (some (x3 ++ bt485.1, bt485.2)) else (none))) else (some (x3, bt480.2))))
def spec_l71Text.f (k : Nat) (s0_0 : List Int) (s0_1 : Int) : Option (ByteArray × Int) := (spec_l6Rd_pick.f k s0_0 s0_1 4).bind fun bt473 => (spec_l71Text.l0 k (⟨#[]⟩ : ByteArray) bt473.1 s0_0 bt473.2)
theorem spec_l71Text.mono_l : ∀ k, (∀ y0 y1 y2 y3, LeO (spec_l71Text.l0 k y0 y1 y2 y3) (spec_l71Text.l0 (k + 1) y0 y1 y2 y3))
 | 0 => fun _ _ _ _ r h => by simp [spec_l71Text.l0] at h
 | k + 1 => by
  have ih0 := spec_l71Text.mono_l k
  ·intro y0 y1 y2 y3
   unfold spec_l71Text.l0
   repeat' first
   | (with_reducible exact ih0 _ _ _ _)
   | (with_reducible exact spec_l6Rd_of.mono _ _ _ _)
   | (with_reducible exact spec_l6Rd_pick.mono _ _ _ _)
   | (with_reducible exact LeO.refl _)
   | (with_reducible exact LeO.none _)
   | (with_reducible refine LeO.ite ?_ ?_)
   | (with_reducible refine LeO.bind ?_ (fun _ => ?_))
   | exact ih0 _ _ _ _
   | exact spec_l6Rd_of.mono _ _ _ _
   | exact spec_l6Rd_pick.mono _ _ _ _
   | exact LeO.none _
   | refine LeO.ite ?_ ?_
   | refine LeO.bind ?_ (fun _ => ?_)
theorem spec_l71Text.mono : ∀ a0 a1 k, LeO (spec_l71Text.f k a0 a1) (spec_l71Text.f (k + 1) a0 a1) := by
 intro a0 a1 k
 have ih0 := spec_l71Text.mono_l k
 unfold spec_l71Text.f
 repeat' first
   | (with_reducible exact ih0 _ _ _ _)
   | (with_reducible exact spec_l6Rd_of.mono _ _ _ _)
   | (with_reducible exact spec_l6Rd_pick.mono _ _ _ _)
   | (with_reducible exact LeO.refl _)
   | (with_reducible exact LeO.none _)
   | (with_reducible refine LeO.ite ?_ ?_)
   | (with_reducible refine LeO.bind ?_ (fun _ => ?_))
   | exact ih0 _ _ _ _
   | exact spec_l6Rd_of.mono _ _ _ _
   | exact spec_l6Rd_pick.mono _ _ _ _
   | exact LeO.none _
   | refine LeO.ite ?_ ?_
   | refine LeO.bind ?_ (fun _ => ?_)
set_option maxHeartbeats 8000000 in
set_option maxRecDepth 100000 in
theorem spec_l71Text.calls (k : Nat) (g : Nat) (s0_0 : List Int) (s0_1 : Int) (r1 : ByteArray) (r2 : Int) (w0 w : World) (hI : IsS96 w0 w g s0_0 s0_1) (hB : Below w0.heap.size w0 w) (h : spec_l71Text.f k s0_0 s0_1 = some (r1, r2)) :
  Calls Tryd.prog 95 #[.pointer (some ⟨g, 0, none⟩)] w fun e w' => e = .returned (.string r1) ∧ IsS96 w0 w' g s0_0 r2 ∧ Below w0.heap.size w0 w' ∧ KeepBut w w' g none := by
 have HI0 := Aside0.mk hI
 have HK := Aside0.mk (KeepBut.refl w g none)
 have HL := Aside0.mk hB.size
 clear hI
 have HW0 := Aside0.mk hB.size
 have HB := Aside0.mk hB
 clear hB
 have H : ((spec_l6Rd_pick.f k s0_0 s0_1 4).bind fun bt473 => (spec_l71Text.l0 k (⟨#[]⟩ : ByteArray) bt473.1 s0_0 bt473.2)) = some (r1, r2) := h
 clear h
 replace H := Option.bind_eq_some_iff.mp H
 obtain ⟨⟨t473, t474⟩, A20, H⟩ := H
 replace H : (spec_l71Text.l0 k (⟨#[]⟩ : ByteArray) t473 s0_0 t474) = some (r1, r2) := H
 have A2 := Aside0.mk A20
 clear A20
 have H' := Aside0.mk H
 clear H
 go_enter Tryd.func95, Tryd.ntmps95
 go_wp2_with (first | ((with_reducible refine gate_callee (f := 56) rfl ?_); refine gl_ 6 Tryd.func56 #[.pointer (some ⟨g, 0, none⟩), .int .i64 4] ?_; (with_reducible refine (spec_l6Rd_pick.calls k g s0_0 s0_1 4 t473 t474 w0 _ ?side1 ?side2 A2.out).mono ?_); (case side1 => exact is_HI0); (case side2 => exact bel_); rintro e w3 ⟨rfl, hi, hb, hk⟩; refine ⟨_, rfl, ?_⟩; replace HK := Aside0.mk (KeepBut.trans (ke_) hk (.inl rfl)); replace HB := Aside0.mk (hb); replace HI0 := Aside0.mk (hi); (try clear hb); (try clear hb2); (try clear hk); (try clear hi)))
 go_loopg [3, 4] k (fun kq v3 v4 w' => ∃ (x3_1 : ByteArray) (x4_1 : Int) (x1001_1 : Int), v3 = .string x3_1 ∧ v4 = .int .i64 x4_1 ∧ Aside0 (spec_l71Text.l0 kq x3_1 x4_1 s0_0 x1001_1 = some (r1, r2)) ∧ Aside0 (kq ≤ k) ∧ Aside0 (IsS96 w0 w' g s0_0 x1001_1) ∧ Aside0 (KeepBut w w' g none) ∧ Aside0 (Below w0.heap.size w0 w'))
 case atStart => exact ⟨((⟨#[]⟩ : ByteArray)), (t473), (t474), (si_), (si_), H', ⟨Nat.le_refl _⟩, ⟨is_HI0⟩, ⟨ke_⟩, ⟨bel_⟩⟩
 case round =>
  clear H'
  try clear p2
  obtain ⟨x3_1, x4_1, x1001_1, rfl, rfl, HA, HK1, HI0, HK, HB⟩ := hrel
  cases gk with
  | zero => exact absurd HA.out (by simp [spec_l71Text.l0])
  | succ k1 =>
   have H := HA.out
   clear HA
   simp only [spec_l71Text.l0] at H
   by_cases c4 : x4_1 > 0
   ·rw [if_pos c4] at H
    have c4b0 : decide (0 < x4_1) = true := decide_eq_true c4
    clear c4
    obtain ⟨y475, hy475⟩ : ∃ y_ : List ByteArray, y_ = (([(⟨#[97]⟩ : ByteArray), (⟨#[98]⟩ : ByteArray), (⟨#[99]⟩ : ByteArray), (⟨#[100]⟩ : ByteArray)] : List ByteArray)) := ⟨_, rfl⟩
    replace H : ((spec_l6Rd_of.f k1 s0_0 x1001_1 y475).bind fun bt478 => (if x3_1.size + bt478.1.size ≤ 9223372036854775807 then (spec_l71Text.l0 k1 (x3_1 ++ bt478.1) (wrap64 (x4_1 - 1)) s0_0 bt478.2) else (none))) = some (r1, r2) := by first | (rw [hy475]; with_reducible exact H) | (have H2_ := (Option.bind_some _ _).symm.trans H; rw [hy475]; with_reducible exact H2_) | (have H2_ := (Option.bind_some _ _).symm.trans H; with_reducible exact H2_) | with_reducible exact H | (rw [hy475]; exact H) | exact H
    have Ny475 := Aside0.mk hy475
    clear hy475
    replace H := Option.bind_eq_some_iff.mp H
    obtain ⟨⟨t478, t479⟩, A50, H⟩ := H
    replace H : (if x3_1.size + t478.size ≤ 9223372036854775807 then (spec_l71Text.l0 k1 (x3_1 ++ t478) (wrap64 (x4_1 - 1)) s0_0 t479) else (none)) = some (r1, r2) := H
    have A5 := Aside0.mk A50
    clear A50
    by_cases c6 : x3_1.size + t478.size ≤ 9223372036854775807
    ·rw [if_pos c6] at H
     have c6b0 := eq_true c6
     have c6b1 : decide (x3_1.size + t478.size ≤ 9223372036854775807) = true := decide_eq_true c6
     try have c6b2 : (9223372036854775807 < x3_1.size + t478.size) = False := eq_false (Nat.not_lt.2 c6)
     have H' := Aside0.mk H
     clear H
     go_wp2_with (first | ((with_reducible refine gate_dst (N := 13) rfl ?_); refine Kd.R_lit Kd.string _ 9 ?hg (N := 13) ?hd (xs := ([(⟨#[97]⟩ : ByteArray), (⟨#[98]⟩ : ByteArray), (⟨#[99]⟩ : ByteArray), (⟨#[100]⟩ : ByteArray)] : List ByteArray)) (inner := [.string (⟨#[97]⟩ : ByteArray), .string (⟨#[98]⟩ : ByteArray), .string (⟨#[99]⟩ : ByteArray), .string (⟨#[100]⟩ : ByteArray)]) (ok := fun _ => True) (okp := fun _ => True) ?hr ?hp (fun _ hk => hk) trivial (Below.refl _ _) (Nat.le_refl _) (by simp) ?_; (case hd => rfl); (case hg => rfl); (case hr => first | (go_simp; done) | (go_simp; rfl)); (case hp => exact (Reps.one (show Kd.M Kd.string _ _ _ (⟨#[97]⟩ : ByteArray) [.string (⟨#[97]⟩ : ByteArray)] from rfl) (Reps.one (show Kd.M Kd.string _ _ _ (⟨#[98]⟩ : ByteArray) [.string (⟨#[98]⟩ : ByteArray)] from rfl) (Reps.one (show Kd.M Kd.string _ _ _ (⟨#[99]⟩ : ByteArray) [.string (⟨#[99]⟩ : ByteArray)] from rfl) (Reps.one (show Kd.M Kd.string _ _ _ (⟨#[100]⟩ : ByteArray) [.string (⟨#[100]⟩ : ByteArray)] from rfl) (Reps.none _ _)))))); intro v476 w7 ho8 hb hg_ hnew_; clear hg_ hnew_; (first | rw [← Ny475.out] at ho8 | (simp only [Int.reduceToNat] at ho8; rw [← Ny475.out] at ho8)); have HO477 := Aside0.mk (Kd.R_lower ho8 (keep_size (w := w) (g := g) (row := none) (ke_))); replace HK := Aside0.mk (KeepBut.trans (ke_) (KeepBut.of_below hb g none) (.inl rfl)); replace HB := Aside0.mk (below_step (bel_) hb); replace HI0 := Aside0.mk (IsS96.below (is_HI0) hb); clear hb ho8; obtain ⟨Ao9, co9, eo9⟩ := Kd.R_slice HO477.out; subst eo9) | ((with_reducible refine gate_callee (f := 105) rfl ?_); refine gl_ 14 Tryd.func105 #[.pointer (some ⟨g, 0, none⟩), .slice Ao9 y475.length co9] ?_; (with_reducible refine (spec_l6Rd_of.calls k1 g s0_0 x1001_1 _ _ y475 t478 t479 w0 _ ?side1 ?side2 ?side3 ?side4 ?side5 A5.out).mono ?_); (case side1 => exact is_HI0); (case side2 => exact bel_); (case side3 => repeat (first | exact (Kd.R_reads' HO477.out).2.2 | (with_reducible refine Kd.C_alloc ?_ _) | (with_reducible refine Kd.C_drewN ?_ _) | (with_reducible refine Kd.C_drew ?_))); (case side4 => exact (Kd.R_reads' HO477.out).2.1); (case side5 => exact far_slice (IsS96.own_ne HI0.out HO477.out (by decide))); rintro e w10 ⟨rfl, hi, hb, hk⟩; refine ⟨_, rfl, ?_⟩; replace HO477 := Aside0.mk (Kd.R_mono (Kd.R_keep (IsS96.apart (show IsS96 w0 _ g s0_0 x1001_1 from is_HI0) (rp_ HO477.out) (by decide)) hk (fun _ h => h.2)) (fun _ h => h.1)); replace HK := Aside0.mk (KeepBut.trans (ke_) hk (.inl rfl)); replace HB := Aside0.mk (hb); replace HI0 := Aside0.mk (hi); (try clear hb); (try clear hb2); (try clear hk); (try clear hi)))
     go_roundg k1
     case measure => have := HK1.out; omega
     case rel => exact ⟨(x3_1 ++ t478), (wrap64 (x4_1 - 1)), (t479), (si_), (si_), H', ⟨by have := HK1.out; omega⟩, ⟨is_HI0⟩, ⟨ke_⟩, ⟨bel_⟩⟩
    ·rw [if_neg c6] at H
     exact absurd H (by simp)
   ·rw [if_neg c4] at H
    have c4b0 : decide (0 < x4_1) = false := decide_eq_false c4
    clear c4
    replace H := Option.bind_eq_some_iff.mp H
    obtain ⟨⟨t480, t481⟩, A110, H⟩ := H
    replace H : (if t480 = 0 then ((spec_l6Rd_of.f k1 s0_0 t481 (([(⟨#[101]⟩ : ByteArray), (⟨#[32]⟩ : ByteArray), (⟨#[97, 97, 97, 97]⟩ : ByteArray), (⟨#[39]⟩ : ByteArray)] : List ByteArray))).bind fun bt485 => (if x3_1.size + bt485.1.size ≤ 9223372036854775807 then (some (x3_1 ++ bt485.1, bt485.2)) else (none))) else (some (x3_1, t481))) = some (r1, r2) := H
    have A11 := Aside0.mk A110
    clear A110
    by_cases c12 : t480 = 0
    ·rw [if_pos c12] at H
     have c12b0 : (t480 == 0) = true := beq_iff_eq.mpr c12
     have c12b1 : (t480 != 0) = false := bne_eq_false_iff_eq.mpr c12
     clear c12
     obtain ⟨y482, hy482⟩ : ∃ y_ : List ByteArray, y_ = (([(⟨#[101]⟩ : ByteArray), (⟨#[32]⟩ : ByteArray), (⟨#[97, 97, 97, 97]⟩ : ByteArray), (⟨#[39]⟩ : ByteArray)] : List ByteArray)) := ⟨_, rfl⟩
     replace H : ((spec_l6Rd_of.f k1 s0_0 t481 y482).bind fun bt485 => (if x3_1.size + bt485.1.size ≤ 9223372036854775807 then (some (x3_1 ++ bt485.1, bt485.2)) else (none))) = some (r1, r2) := by first | (rw [hy482]; with_reducible exact H) | (have H2_ := (Option.bind_some _ _).symm.trans H; rw [hy482]; with_reducible exact H2_) | (have H2_ := (Option.bind_some _ _).symm.trans H; with_reducible exact H2_) | with_reducible exact H | (rw [hy482]; exact H) | exact H
     have Ny482 := Aside0.mk hy482
     clear hy482
     replace H := Option.bind_eq_some_iff.mp H
     obtain ⟨⟨t485, t486⟩, A130, H⟩ := H
     replace H : (if x3_1.size + t485.size ≤ 9223372036854775807 then (some (x3_1 ++ t485, t486)) else (none)) = some (r1, r2) := H
     have A13 := Aside0.mk A130
     clear A130
     by_cases c14 : x3_1.size + t485.size ≤ 9223372036854775807
     ·rw [if_pos c14] at H
      have c14b0 := eq_true c14
      have c14b1 : decide (x3_1.size + t485.size ≤ 9223372036854775807) = true := decide_eq_true c14
      try have c14b2 : (9223372036854775807 < x3_1.size + t485.size) = False := eq_false (Nat.not_lt.2 c14)
      simp only [Option.some.injEq, Prod.mk.injEq] at H
      obtain ⟨rfl, rfl⟩ := H
      go_wp2_with (first | ((with_reducible refine gate_callee (f := 56) rfl ?_); refine gl_ 17 Tryd.func56 #[.pointer (some ⟨g, 0, none⟩), .int .i64 40] ?_; (with_reducible refine (spec_l6Rd_pick.calls k1 g s0_0 x1001_1 40 t480 t481 w0 _ ?side1 ?side2 A11.out).mono ?_); (case side1 => exact is_HI0); (case side2 => exact bel_); rintro e w15 ⟨rfl, hi, hb, hk⟩; refine ⟨_, rfl, ?_⟩; replace HK := Aside0.mk (KeepBut.trans (ke_) hk (.inl rfl)); replace HB := Aside0.mk (hb); replace HI0 := Aside0.mk (hi); (try clear hb); (try clear hb2); (try clear hk); (try clear hi)) | ((with_reducible refine gate_dst (N := 21) rfl ?_); refine Kd.R_lit Kd.string _ 9 ?hg (N := 21) ?hd (xs := ([(⟨#[101]⟩ : ByteArray), (⟨#[32]⟩ : ByteArray), (⟨#[97, 97, 97, 97]⟩ : ByteArray), (⟨#[39]⟩ : ByteArray)] : List ByteArray)) (inner := [.string (⟨#[101]⟩ : ByteArray), .string (⟨#[32]⟩ : ByteArray), .string (⟨#[97, 97, 97, 97]⟩ : ByteArray), .string (⟨#[39]⟩ : ByteArray)]) (ok := fun _ => True) (okp := fun _ => True) ?hr ?hp (fun _ hk => hk) trivial (Below.refl _ _) (Nat.le_refl _) (by simp) ?_; (case hd => rfl); (case hg => rfl); (case hr => first | (go_simp; done) | (go_simp; rfl)); (case hp => exact (Reps.one (show Kd.M Kd.string _ _ _ (⟨#[101]⟩ : ByteArray) [.string (⟨#[101]⟩ : ByteArray)] from rfl) (Reps.one (show Kd.M Kd.string _ _ _ (⟨#[32]⟩ : ByteArray) [.string (⟨#[32]⟩ : ByteArray)] from rfl) (Reps.one (show Kd.M Kd.string _ _ _ (⟨#[97, 97, 97, 97]⟩ : ByteArray) [.string (⟨#[97, 97, 97, 97]⟩ : ByteArray)] from rfl) (Reps.one (show Kd.M Kd.string _ _ _ (⟨#[39]⟩ : ByteArray) [.string (⟨#[39]⟩ : ByteArray)] from rfl) (Reps.none _ _)))))); intro v483 w16 ho17 hb hg_ hnew_; clear hg_ hnew_; (first | rw [← Ny482.out] at ho17 | (simp only [Int.reduceToNat] at ho17; rw [← Ny482.out] at ho17)); have HO484 := Aside0.mk (Kd.R_lower ho17 (keep_size (w := w) (g := g) (row := none) (ke_))); replace HK := Aside0.mk (KeepBut.trans (ke_) (KeepBut.of_below hb g none) (.inl rfl)); replace HB := Aside0.mk (below_step (bel_) hb); replace HI0 := Aside0.mk (IsS96.below (is_HI0) hb); clear hb ho17; obtain ⟨Ao18, co18, eo18⟩ := Kd.R_slice HO484.out; subst eo18) | ((with_reducible refine gate_callee (f := 105) rfl ?_); refine gl_ 22 Tryd.func105 #[.pointer (some ⟨g, 0, none⟩), .slice Ao18 y482.length co18] ?_; (with_reducible refine (spec_l6Rd_of.calls k1 g s0_0 t481 _ _ y482 t485 t486 w0 _ ?side1 ?side2 ?side3 ?side4 ?side5 A13.out).mono ?_); (case side1 => exact is_HI0); (case side2 => exact bel_); (case side3 => repeat (first | exact (Kd.R_reads' HO484.out).2.2 | (with_reducible refine Kd.C_alloc ?_ _) | (with_reducible refine Kd.C_drewN ?_ _) | (with_reducible refine Kd.C_drew ?_))); (case side4 => exact (Kd.R_reads' HO484.out).2.1); (case side5 => exact far_slice (IsS96.own_ne HI0.out HO484.out (by decide))); rintro e w19 ⟨rfl, hi, hb, hk⟩; refine ⟨_, rfl, ?_⟩; replace HO484 := Aside0.mk (Kd.R_mono (Kd.R_keep (IsS96.apart (show IsS96 w0 _ g s0_0 t481 from is_HI0) (rp_ HO484.out) (by decide)) hk (fun _ h => h.2)) (fun _ h => h.1)); replace HK := Aside0.mk (KeepBut.trans (ke_) hk (.inl rfl)); replace HB := Aside0.mk (hb); replace HI0 := Aside0.mk (hi); (try clear hb); (try clear hb2); (try clear hk); (try clear hi)))
      go_ret
      exact ⟨fi_, is_HI0, bel_, ke_⟩
     ·rw [if_neg c14] at H
      exact absurd H (by simp)
    ·rw [if_neg c12] at H
     have c12b0 : (t480 == 0) = false := beq_eq_false_iff_ne.mpr c12
     have c12b1 : (t480 != 0) = true := bne_iff_ne.mpr c12
     simp only [Option.some.injEq, Prod.mk.injEq] at H
     obtain ⟨rfl, rfl⟩ := H
     go_wp2_with (first | ((with_reducible refine gate_callee (f := 56) rfl ?_); refine gl_ 17 Tryd.func56 #[.pointer (some ⟨g, 0, none⟩), .int .i64 40] ?_; (with_reducible refine (spec_l6Rd_pick.calls k1 g s0_0 x1001_1 40 t480 t481 w0 _ ?side1 ?side2 A11.out).mono ?_); (case side1 => exact is_HI0); (case side2 => exact bel_); rintro e w20 ⟨rfl, hi, hb, hk⟩; refine ⟨_, rfl, ?_⟩; replace HK := Aside0.mk (KeepBut.trans (ke_) hk (.inl rfl)); replace HB := Aside0.mk (hb); replace HI0 := Aside0.mk (hi); (try clear hb); (try clear hb2); (try clear hk); (try clear hi)))
     go_ret
     exact ⟨fi_, is_HI0, bel_, ke_⟩

def spec_l71Id.f (k : Nat) (s0_0 : List Int) (s0_1 : Int) : Option (Int × Int) := (spec_l6Rd_pick.f k s0_0 s0_1 3).bind fun bt487 => ((spec_l6Rd_pick.f k s0_0 bt487.2 4).bind fun bt489 => (some (wrap64 ((wrap64 ((wrap64 (10 * (wrap64 (1 + bt487.1)))) + 1)) + bt489.1), bt489.2)))
theorem spec_l71Id.mono : ∀ a0 a1 k, LeO (spec_l71Id.f k a0 a1) (spec_l71Id.f (k + 1) a0 a1) := by
 intro a0 a1 k
 unfold spec_l71Id.f
 repeat' first
   | (with_reducible exact spec_l6Rd_pick.mono _ _ _ _)
   | (with_reducible exact LeO.refl _)
   | (with_reducible exact LeO.none _)
   | (with_reducible refine LeO.ite ?_ ?_)
   | (with_reducible refine LeO.bind ?_ (fun _ => ?_))
   | exact spec_l6Rd_pick.mono _ _ _ _
   | exact LeO.none _
   | refine LeO.ite ?_ ?_
   | refine LeO.bind ?_ (fun _ => ?_)
set_option maxHeartbeats 8000000 in
set_option maxRecDepth 100000 in
theorem spec_l71Id.calls (k : Nat) (g : Nat) (s0_0 : List Int) (s0_1 : Int) (r1 : Int) (r2 : Int) (w0 w : World) (hI : IsS96 w0 w g s0_0 s0_1) (hB : Below w0.heap.size w0 w) (h : spec_l71Id.f k s0_0 s0_1 = some (r1, r2)) :
  Calls Tryd.prog 96 #[.pointer (some ⟨g, 0, none⟩)] w fun e w' => e = .returned (.int .i64 r1) ∧ IsS96 w0 w' g s0_0 r2 ∧ Below w0.heap.size w0 w' ∧ KeepBut w w' g none := by
 have HI0 := Aside0.mk hI
 have HK := Aside0.mk (KeepBut.refl w g none)
 have HL := Aside0.mk hB.size
 clear hI
 have HW0 := Aside0.mk hB.size
 have HB := Aside0.mk hB
 clear hB
 have H : ((spec_l6Rd_pick.f k s0_0 s0_1 3).bind fun bt487 => ((spec_l6Rd_pick.f k s0_0 bt487.2 4).bind fun bt489 => (some (wrap64 ((wrap64 ((wrap64 (10 * (wrap64 (1 + bt487.1)))) + 1)) + bt489.1), bt489.2)))) = some (r1, r2) := h
 clear h
 replace H := Option.bind_eq_some_iff.mp H
 obtain ⟨⟨t487, t488⟩, A20, H⟩ := H
 replace H : ((spec_l6Rd_pick.f k s0_0 t488 4).bind fun bt489 => (some (wrap64 ((wrap64 ((wrap64 (10 * (wrap64 (1 + t487)))) + 1)) + bt489.1), bt489.2))) = some (r1, r2) := H
 have A2 := Aside0.mk A20
 clear A20
 replace H := Option.bind_eq_some_iff.mp H
 obtain ⟨⟨t489, t490⟩, A30, H⟩ := H
 replace H : (some (wrap64 ((wrap64 ((wrap64 (10 * (wrap64 (1 + t487)))) + 1)) + t489), t490)) = some (r1, r2) := H
 have A3 := Aside0.mk A30
 clear A30
 simp only [Option.some.injEq, Prod.mk.injEq] at H
 obtain ⟨rfl, rfl⟩ := H
 go_enter Tryd.func96, Tryd.ntmps96
 go_wp2_with (first | ((with_reducible refine gate_callee (f := 56) rfl ?_); refine gl_ 4 Tryd.func56 #[.pointer (some ⟨g, 0, none⟩), .int .i64 3] ?_; (with_reducible refine (spec_l6Rd_pick.calls k g s0_0 s0_1 3 t487 t488 w0 _ ?side1 ?side2 A2.out).mono ?_); (case side1 => exact is_HI0); (case side2 => exact bel_); rintro e w4 ⟨rfl, hi, hb, hk⟩; refine ⟨_, rfl, ?_⟩; replace HK := Aside0.mk (KeepBut.trans (ke_) hk (.inl rfl)); replace HB := Aside0.mk (hb); replace HI0 := Aside0.mk (hi); (try clear hb); (try clear hb2); (try clear hk); (try clear hi)) | ((with_reducible refine gate_callee (f := 56) rfl ?_); refine gl_ 9 Tryd.func56 #[.pointer (some ⟨g, 0, none⟩), .int .i64 4] ?_; (with_reducible refine (spec_l6Rd_pick.calls k g s0_0 t488 4 t489 t490 w0 _ ?side1 ?side2 A3.out).mono ?_); (case side1 => exact is_HI0); (case side2 => exact bel_); rintro e w5 ⟨rfl, hi, hb, hk⟩; refine ⟨_, rfl, ?_⟩; replace HK := Aside0.mk (KeepBut.trans (ke_) hk (.inl rfl)); replace HB := Aside0.mk (hb); replace HI0 := Aside0.mk (hi); (try clear hb); (try clear hb2); (try clear hk); (try clear hi)))
 go_ret
 exact ⟨fi_, is_HI0, bel_, ke_⟩

def spec_RowMade.f (a0 : Int) (a1 : Int) : Option (Int) := (spec_l6In.f a0 1 3).bind fun t491 => (if t491 = true then ((spec_l6In.f a1 1 6).bind fun t492 => (if t492 = true then (some (wrap64 ((wrap64 (10 * a0)) + a1))) else (some 0))) else (some 0))
set_option maxHeartbeats 8000000 in
set_option maxRecDepth 100000 in
theorem spec_RowMade.calls (a0 : Int) (a1 : Int) (r : Int) (w : World) (h : spec_RowMade.f a0 a1 = some r) :
  Calls Tryd.prog 97 #[.int .i64 a0, .int .i64 a1] w fun e w' => e = .returned (.int .i64 r) ∧ Drawn0 w w' := by
 have H : ((spec_l6In.f a0 1 3).bind fun t491 => (if t491 = true then ((spec_l6In.f a1 1 6).bind fun t492 => (if t492 = true then (some (wrap64 ((wrap64 (10 * a0)) + a1))) else (some 0))) else (some 0))) = some r := h
 clear h
 replace H := Option.bind_eq_some_iff.mp H
 obtain ⟨t491, A30, H⟩ := H
 replace H : (if t491 = true then ((spec_l6In.f a1 1 6).bind fun t492 => (if t492 = true then (some (wrap64 ((wrap64 (10 * a0)) + a1))) else (some 0))) else (some 0)) = some r := H
 have A3 := Aside0.mk A30
 clear A30
 by_cases c4 : t491 = true
 ·subst c4
  have H1 : ((spec_l6In.f a1 1 6).bind fun t492 => (if t492 = true then (some (wrap64 ((wrap64 (10 * a0)) + a1))) else (some 0))) = some r := by rw [if_pos rfl] at H; exact H
  clear H
  have H := H1
  clear H1
  replace H := Option.bind_eq_some_iff.mp H
  obtain ⟨t492, A50, H⟩ := H
  replace H : (if t492 = true then (some (wrap64 ((wrap64 (10 * a0)) + a1))) else (some 0)) = some r := H
  have A5 := Aside0.mk A50
  clear A50
  by_cases c6 : t492 = true
  ·subst c6
   have H1 : (some (wrap64 ((wrap64 (10 * a0)) + a1))) = some r := by rw [if_pos rfl] at H; exact H
   clear H
   have H := H1
   clear H1
   obtain rfl := Option.some.inj H
   go_enter Tryd.func97, Tryd.ntmps97
   go_wp2_with (first | ((with_reducible refine gate_callee (f := 49) rfl ?_); refine gl_ 6 Tryd.func49 #[.int .i64 a0, .int .i64 1, .int .i64 3] ?_; (with_reducible refine (spec_l6In.calls a0 1 3 true _ A3.out).mono ?_); rintro e w' ⟨rfl, ⟨nd, rfl⟩⟩; refine ⟨_, rfl, ?_⟩) | (go_at_call 49; (with_reducible refine (spec_l6In.calls a1 1 6 true _ A5.out).mono ?_); rintro e w' ⟨rfl, ⟨nd, rfl⟩⟩))
   go_ret
   exact ⟨si_, by repeat (first | exact Drawn0.refl _ | apply Drawn0.step)⟩
  ·replace c6 := Bool.eq_false_iff.mpr c6
   subst c6
   have H1 : (some 0) = some r := by rw [if_neg (show ¬ (false = true) by decide)] at H; exact H
   clear H
   have H := H1
   clear H1
   obtain rfl := Option.some.inj H
   go_enter Tryd.func97, Tryd.ntmps97
   go_wp2_with (first | ((with_reducible refine gate_callee (f := 49) rfl ?_); refine gl_ 6 Tryd.func49 #[.int .i64 a0, .int .i64 1, .int .i64 3] ?_; (with_reducible refine (spec_l6In.calls a0 1 3 true _ A3.out).mono ?_); rintro e w' ⟨rfl, ⟨nd, rfl⟩⟩; refine ⟨_, rfl, ?_⟩) | (go_at_call 49; (with_reducible refine (spec_l6In.calls a1 1 6 false _ A5.out).mono ?_); rintro e w' ⟨rfl, ⟨nd, rfl⟩⟩))
   go_ret
   exact ⟨si_, by repeat (first | exact Drawn0.refl _ | apply Drawn0.step)⟩
 ·replace c4 := Bool.eq_false_iff.mpr c4
  subst c4
  have H1 : (some 0) = some r := by rw [if_neg (show ¬ (false = true) by decide)] at H; exact H
  clear H
  have H := H1
  clear H1
  obtain rfl := Option.some.inj H
  go_enter Tryd.func97, Tryd.ntmps97
  go_wp2_with (first | ((with_reducible refine gate_callee (f := 49) rfl ?_); refine gl_ 6 Tryd.func49 #[.int .i64 a0, .int .i64 1, .int .i64 3] ?_; (with_reducible refine (spec_l6In.calls a0 1 3 false _ A3.out).mono ?_); rintro e w' ⟨rfl, ⟨nd, rfl⟩⟩; refine ⟨_, rfl, ?_⟩))
  go_ret
  exact ⟨si_, by repeat (first | exact Drawn0.refl _ | apply Drawn0.step)⟩

end Go.Proofs.YtnclcbjagleoeaaDoor.P
