/- Joined by a program (wip/shake.py): the declarations that 'YtkopimbbgckcnaaDoorCardFnExactOpDo' reaches. -/
import Derived.Test.YtkopimbbgckcnaaDoorZXo1
namespace Go.Proofs.YtkopimbbgckcnaaDoor.P
open Go.RowKit Go.Proofs.YtkopimbbgckcnaaDoorW.PrintWords Go.Proofs.YtkopimbbgckcnaaDoorW.PrintLast
set_option linter.unusedVariables false
set_option linter.unusedSimpArgs false
set_option maxHeartbeats 8000000 in
set_option maxRecDepth 100000 in
theorem laws_eqRow.calls (a0_0 : Int) (a0_1 : Int) (a0_2 : ByteArray) (a1_0 : Int) (a1_1 : Int) (a1_2 : ByteArray) (r : Bool) (w : World) (h : laws_eqRow.f a0_0 a0_1 a0_2 a1_0 a1_1 a1_2 = some r) :
  Calls Tryd.prog 44 #[.agg #[.int .i64 a0_0, .int .i64 a0_1, .string a0_2], .agg #[.int .i64 a1_0, .int .i64 a1_1, .string a1_2]] w fun e w' => e = .returned (.bool r) ∧ Below w.heap.size w w' := by
 have hu43 := Tryd.underlying43
 have HB := Aside0.mk (Below.refl w.heap.size w)
 have H : (if a0_0 = a1_0 then (if a0_1 = a1_1 then (if a0_2.toList = a1_2.toList then (some true) else (some false)) else (some false)) else (some false)) = some r := h
 clear h
 by_cases c3 : a0_0 = a1_0
 ·rw [if_pos c3] at H
  have c3b0 : (a0_0 == a1_0) = true := beq_iff_eq.mpr c3
  have c3b1 : (a0_0 != a1_0) = false := bne_eq_false_iff_eq.mpr c3
  clear c3
  by_cases c4 : a0_1 = a1_1
  ·rw [if_pos c4] at H
   have c4b0 : (a0_1 == a1_1) = true := beq_iff_eq.mpr c4
   have c4b1 : (a0_1 != a1_1) = false := bne_eq_false_iff_eq.mpr c4
   clear c4
   by_cases c5 : a0_2.toList = a1_2.toList
   ·rw [if_pos c5] at H
    have c5b0 : (a0_2.toList == a1_2.toList) = true := beq_iff_eq.mpr c5
    have c5b1 : (a0_2.toList != a1_2.toList) = false := bne_eq_false_iff_eq.mpr c5
    clear c5
    obtain rfl := Option.some.inj H
    go_enter Tryd.func44, Tryd.ntmps44
    go_wp2_with (first | ((with_reducible refine gate_dst (N := 2) rfl ?_); refine box_event ?hg (N := 2) ?hd (cs := #[.int .i64 a0_0, .int .i64 a0_1, .string a0_2]) (t := 43) ?hr ?_; (case hd => rfl); (case hg => rfl); (case hr => first | (go_simp; done) | (go_simp; rfl)); intro gb279 hg w6 hbox hb; have n0_ := Aside0.mk (below_step (bel_) hb); have n1_ := Aside0.mk (hbox); have n2_ := Aside0.mk ((by rw [hg]; exact (below_size (bel_)) : w.heap.size ≤ gb279)); have n3_ := Aside0.mk ((by rw [hg]; exact (below_size (bel_)) : w.heap.size ≤ gb279)); clear HB; have HB := n0_; have BK279 := n1_; have GW279 := n2_; have GE279 := n3_; clear n0_ n1_ n2_ n3_; clear hb hbox hg) | ((with_reducible refine gate_dst (N := 3) rfl ?_); refine box_event ?hg (N := 3) ?hd (cs := #[.int .i64 a1_0, .int .i64 a1_1, .string a1_2]) (t := 43) ?hr ?_; (case hd => rfl); (case hg => rfl); (case hr => first | (go_simp; done) | (go_simp; rfl)); intro gb280 hg w7 hbox hb; have n0_ := Aside0.mk (blk_below (g := gb279) (o := .cells #[.int .i64 a0_0, .int .i64 a0_1, .string a0_2] 43 (0, 0)) (bp_ BK279.out) hb); have n1_ := Aside0.mk (below_step (bel_) hb); have n2_ := Aside0.mk (hbox); have n3_ := Aside0.mk ((by rw [hg]; exact (below_size (bel_)) : w.heap.size ≤ gb280)); have n4_ := Aside0.mk ((by rw [hg]; exact (below_size (bel_)) : w.heap.size ≤ gb280)); have n5_ := Aside0.mk ((by rw [hg]; exact Nat.ne_of_lt (blk_lt (g := gb279) (o := .cells #[.int .i64 a0_0, .int .i64 a0_1, .string a0_2] 43 (0, 0)) (bp_ BK279.out)) : gb279 ≠ gb280)); have n6_ := Aside0.mk ((by rw [hg]; exact Nat.ne_of_gt (blk_lt (g := gb279) (o := .cells #[.int .i64 a0_0, .int .i64 a0_1, .string a0_2] 43 (0, 0)) (bp_ BK279.out)) : gb280 ≠ gb279)); clear BK279; clear HB; have BK279 := n0_; have HB := n1_; have BK280 := n2_; have GW280 := n3_; have GE280 := n4_; have NB279_280 := n5_; have NB280_279 := n6_; clear n0_ n1_ n2_ n3_ n4_ n5_ n6_; clear hb hbox hg; have hnb8 := NB279_280.out; have hnc8 := NB280_279.out; have hcz9_0 : w7.cell? ⟨gb279, 0, none⟩ = some (.int .i64 a0_0) := (blk_cell BK279.out 0).trans rfl; have hcz9_1 : w7.cell? ⟨gb279, 1, none⟩ = some (.int .i64 a0_1) := (blk_cell BK279.out 1).trans rfl; have hcz9_2 : w7.cell? ⟨gb279, 2, none⟩ = some (.string a0_2) := (blk_cell BK279.out 2).trans rfl; have hfz9_0 := blk_frozen BK279.out 0; have hfz9_1 := blk_frozen BK279.out 1; have hfz9_2 := blk_frozen BK279.out 2; have hcz10_0 : w7.cell? ⟨gb280, 0, none⟩ = some (.int .i64 a1_0) := (blk_cell BK280.out 0).trans rfl; have hcz10_1 : w7.cell? ⟨gb280, 1, none⟩ = some (.int .i64 a1_1) := (blk_cell BK280.out 1).trans rfl; have hcz10_2 : w7.cell? ⟨gb280, 2, none⟩ = some (.string a1_2) := (blk_cell BK280.out 2).trans rfl; have hfz10_0 := blk_frozen BK280.out 0; have hfz10_1 := blk_frozen BK280.out 1; have hfz10_2 := blk_frozen BK280.out 2))
    go_ret
    exact ⟨fi_, bel_⟩
   ·rw [if_neg c5] at H
    have c5b0 : (a0_2.toList == a1_2.toList) = false := beq_eq_false_iff_ne.mpr c5
    have c5b1 : (a0_2.toList != a1_2.toList) = true := bne_iff_ne.mpr c5
    obtain rfl := Option.some.inj H
    go_enter Tryd.func44, Tryd.ntmps44
    go_wp2_with (first | ((with_reducible refine gate_dst (N := 2) rfl ?_); refine box_event ?hg (N := 2) ?hd (cs := #[.int .i64 a0_0, .int .i64 a0_1, .string a0_2]) (t := 43) ?hr ?_; (case hd => rfl); (case hg => rfl); (case hr => first | (go_simp; done) | (go_simp; rfl)); intro gb279 hg w11 hbox hb; have n0_ := Aside0.mk (below_step (bel_) hb); have n1_ := Aside0.mk (hbox); have n2_ := Aside0.mk ((by rw [hg]; exact (below_size (bel_)) : w.heap.size ≤ gb279)); have n3_ := Aside0.mk ((by rw [hg]; exact (below_size (bel_)) : w.heap.size ≤ gb279)); clear HB; have HB := n0_; have BK279 := n1_; have GW279 := n2_; have GE279 := n3_; clear n0_ n1_ n2_ n3_; clear hb hbox hg) | ((with_reducible refine gate_dst (N := 3) rfl ?_); refine box_event ?hg (N := 3) ?hd (cs := #[.int .i64 a1_0, .int .i64 a1_1, .string a1_2]) (t := 43) ?hr ?_; (case hd => rfl); (case hg => rfl); (case hr => first | (go_simp; done) | (go_simp; rfl)); intro gb280 hg w12 hbox hb; have n0_ := Aside0.mk (blk_below (g := gb279) (o := .cells #[.int .i64 a0_0, .int .i64 a0_1, .string a0_2] 43 (0, 0)) (bp_ BK279.out) hb); have n1_ := Aside0.mk (below_step (bel_) hb); have n2_ := Aside0.mk (hbox); have n3_ := Aside0.mk ((by rw [hg]; exact (below_size (bel_)) : w.heap.size ≤ gb280)); have n4_ := Aside0.mk ((by rw [hg]; exact (below_size (bel_)) : w.heap.size ≤ gb280)); have n5_ := Aside0.mk ((by rw [hg]; exact Nat.ne_of_lt (blk_lt (g := gb279) (o := .cells #[.int .i64 a0_0, .int .i64 a0_1, .string a0_2] 43 (0, 0)) (bp_ BK279.out)) : gb279 ≠ gb280)); have n6_ := Aside0.mk ((by rw [hg]; exact Nat.ne_of_gt (blk_lt (g := gb279) (o := .cells #[.int .i64 a0_0, .int .i64 a0_1, .string a0_2] 43 (0, 0)) (bp_ BK279.out)) : gb280 ≠ gb279)); clear BK279; clear HB; have BK279 := n0_; have HB := n1_; have BK280 := n2_; have GW280 := n3_; have GE280 := n4_; have NB279_280 := n5_; have NB280_279 := n6_; clear n0_ n1_ n2_ n3_ n4_ n5_ n6_; clear hb hbox hg; have hnb13 := NB279_280.out; have hnc13 := NB280_279.out; have hcz14_0 : w12.cell? ⟨gb279, 0, none⟩ = some (.int .i64 a0_0) := (blk_cell BK279.out 0).trans rfl; have hcz14_1 : w12.cell? ⟨gb279, 1, none⟩ = some (.int .i64 a0_1) := (blk_cell BK279.out 1).trans rfl; have hcz14_2 : w12.cell? ⟨gb279, 2, none⟩ = some (.string a0_2) := (blk_cell BK279.out 2).trans rfl; have hfz14_0 := blk_frozen BK279.out 0; have hfz14_1 := blk_frozen BK279.out 1; have hfz14_2 := blk_frozen BK279.out 2; have hcz15_0 : w12.cell? ⟨gb280, 0, none⟩ = some (.int .i64 a1_0) := (blk_cell BK280.out 0).trans rfl; have hcz15_1 : w12.cell? ⟨gb280, 1, none⟩ = some (.int .i64 a1_1) := (blk_cell BK280.out 1).trans rfl; have hcz15_2 : w12.cell? ⟨gb280, 2, none⟩ = some (.string a1_2) := (blk_cell BK280.out 2).trans rfl; have hfz15_0 := blk_frozen BK280.out 0; have hfz15_1 := blk_frozen BK280.out 1; have hfz15_2 := blk_frozen BK280.out 2))
    go_ret
    exact ⟨fi_, bel_⟩
  ·rw [if_neg c4] at H
   have c4b0 : (a0_1 == a1_1) = false := beq_eq_false_iff_ne.mpr c4
   have c4b1 : (a0_1 != a1_1) = true := bne_iff_ne.mpr c4
   obtain rfl := Option.some.inj H
   go_enter Tryd.func44, Tryd.ntmps44
   go_wp2_with (first | ((with_reducible refine gate_dst (N := 2) rfl ?_); refine box_event ?hg (N := 2) ?hd (cs := #[.int .i64 a0_0, .int .i64 a0_1, .string a0_2]) (t := 43) ?hr ?_; (case hd => rfl); (case hg => rfl); (case hr => first | (go_simp; done) | (go_simp; rfl)); intro gb279 hg w16 hbox hb; have n0_ := Aside0.mk (below_step (bel_) hb); have n1_ := Aside0.mk (hbox); have n2_ := Aside0.mk ((by rw [hg]; exact (below_size (bel_)) : w.heap.size ≤ gb279)); have n3_ := Aside0.mk ((by rw [hg]; exact (below_size (bel_)) : w.heap.size ≤ gb279)); clear HB; have HB := n0_; have BK279 := n1_; have GW279 := n2_; have GE279 := n3_; clear n0_ n1_ n2_ n3_; clear hb hbox hg) | ((with_reducible refine gate_dst (N := 3) rfl ?_); refine box_event ?hg (N := 3) ?hd (cs := #[.int .i64 a1_0, .int .i64 a1_1, .string a1_2]) (t := 43) ?hr ?_; (case hd => rfl); (case hg => rfl); (case hr => first | (go_simp; done) | (go_simp; rfl)); intro gb280 hg w17 hbox hb; have n0_ := Aside0.mk (blk_below (g := gb279) (o := .cells #[.int .i64 a0_0, .int .i64 a0_1, .string a0_2] 43 (0, 0)) (bp_ BK279.out) hb); have n1_ := Aside0.mk (below_step (bel_) hb); have n2_ := Aside0.mk (hbox); have n3_ := Aside0.mk ((by rw [hg]; exact (below_size (bel_)) : w.heap.size ≤ gb280)); have n4_ := Aside0.mk ((by rw [hg]; exact (below_size (bel_)) : w.heap.size ≤ gb280)); have n5_ := Aside0.mk ((by rw [hg]; exact Nat.ne_of_lt (blk_lt (g := gb279) (o := .cells #[.int .i64 a0_0, .int .i64 a0_1, .string a0_2] 43 (0, 0)) (bp_ BK279.out)) : gb279 ≠ gb280)); have n6_ := Aside0.mk ((by rw [hg]; exact Nat.ne_of_gt (blk_lt (g := gb279) (o := .cells #[.int .i64 a0_0, .int .i64 a0_1, .string a0_2] 43 (0, 0)) (bp_ BK279.out)) : gb280 ≠ gb279)); clear BK279; clear HB; have BK279 := n0_; have HB := n1_; have BK280 := n2_; have GW280 := n3_; have GE280 := n4_; have NB279_280 := n5_; have NB280_279 := n6_; clear n0_ n1_ n2_ n3_ n4_ n5_ n6_; clear hb hbox hg; have hnb18 := NB279_280.out; have hnc18 := NB280_279.out; have hcz19_0 : w17.cell? ⟨gb279, 0, none⟩ = some (.int .i64 a0_0) := (blk_cell BK279.out 0).trans rfl; have hcz19_1 : w17.cell? ⟨gb279, 1, none⟩ = some (.int .i64 a0_1) := (blk_cell BK279.out 1).trans rfl; have hcz19_2 : w17.cell? ⟨gb279, 2, none⟩ = some (.string a0_2) := (blk_cell BK279.out 2).trans rfl; have hfz19_0 := blk_frozen BK279.out 0; have hfz19_1 := blk_frozen BK279.out 1; have hfz19_2 := blk_frozen BK279.out 2; have hcz20_0 : w17.cell? ⟨gb280, 0, none⟩ = some (.int .i64 a1_0) := (blk_cell BK280.out 0).trans rfl; have hcz20_1 : w17.cell? ⟨gb280, 1, none⟩ = some (.int .i64 a1_1) := (blk_cell BK280.out 1).trans rfl; have hcz20_2 : w17.cell? ⟨gb280, 2, none⟩ = some (.string a1_2) := (blk_cell BK280.out 2).trans rfl; have hfz20_0 := blk_frozen BK280.out 0; have hfz20_1 := blk_frozen BK280.out 1; have hfz20_2 := blk_frozen BK280.out 2))
   go_ret
   exact ⟨fi_, bel_⟩
 ·rw [if_neg c3] at H
  have c3b0 : (a0_0 == a1_0) = false := beq_eq_false_iff_ne.mpr c3
  have c3b1 : (a0_0 != a1_0) = true := bne_iff_ne.mpr c3
  obtain rfl := Option.some.inj H
  go_enter Tryd.func44, Tryd.ntmps44
  go_wp2_with (first | ((with_reducible refine gate_dst (N := 2) rfl ?_); refine box_event ?hg (N := 2) ?hd (cs := #[.int .i64 a0_0, .int .i64 a0_1, .string a0_2]) (t := 43) ?hr ?_; (case hd => rfl); (case hg => rfl); (case hr => first | (go_simp; done) | (go_simp; rfl)); intro gb279 hg w21 hbox hb; have n0_ := Aside0.mk (below_step (bel_) hb); have n1_ := Aside0.mk (hbox); have n2_ := Aside0.mk ((by rw [hg]; exact (below_size (bel_)) : w.heap.size ≤ gb279)); have n3_ := Aside0.mk ((by rw [hg]; exact (below_size (bel_)) : w.heap.size ≤ gb279)); clear HB; have HB := n0_; have BK279 := n1_; have GW279 := n2_; have GE279 := n3_; clear n0_ n1_ n2_ n3_; clear hb hbox hg) | ((with_reducible refine gate_dst (N := 3) rfl ?_); refine box_event ?hg (N := 3) ?hd (cs := #[.int .i64 a1_0, .int .i64 a1_1, .string a1_2]) (t := 43) ?hr ?_; (case hd => rfl); (case hg => rfl); (case hr => first | (go_simp; done) | (go_simp; rfl)); intro gb280 hg w22 hbox hb; have n0_ := Aside0.mk (blk_below (g := gb279) (o := .cells #[.int .i64 a0_0, .int .i64 a0_1, .string a0_2] 43 (0, 0)) (bp_ BK279.out) hb); have n1_ := Aside0.mk (below_step (bel_) hb); have n2_ := Aside0.mk (hbox); have n3_ := Aside0.mk ((by rw [hg]; exact (below_size (bel_)) : w.heap.size ≤ gb280)); have n4_ := Aside0.mk ((by rw [hg]; exact (below_size (bel_)) : w.heap.size ≤ gb280)); have n5_ := Aside0.mk ((by rw [hg]; exact Nat.ne_of_lt (blk_lt (g := gb279) (o := .cells #[.int .i64 a0_0, .int .i64 a0_1, .string a0_2] 43 (0, 0)) (bp_ BK279.out)) : gb279 ≠ gb280)); have n6_ := Aside0.mk ((by rw [hg]; exact Nat.ne_of_gt (blk_lt (g := gb279) (o := .cells #[.int .i64 a0_0, .int .i64 a0_1, .string a0_2] 43 (0, 0)) (bp_ BK279.out)) : gb280 ≠ gb279)); clear BK279; clear HB; have BK279 := n0_; have HB := n1_; have BK280 := n2_; have GW280 := n3_; have GE280 := n4_; have NB279_280 := n5_; have NB280_279 := n6_; clear n0_ n1_ n2_ n3_ n4_ n5_ n6_; clear hb hbox hg; have hnb23 := NB279_280.out; have hnc23 := NB280_279.out; have hcz24_0 : w22.cell? ⟨gb279, 0, none⟩ = some (.int .i64 a0_0) := (blk_cell BK279.out 0).trans rfl; have hcz24_1 : w22.cell? ⟨gb279, 1, none⟩ = some (.int .i64 a0_1) := (blk_cell BK279.out 1).trans rfl; have hcz24_2 : w22.cell? ⟨gb279, 2, none⟩ = some (.string a0_2) := (blk_cell BK279.out 2).trans rfl; have hfz24_0 := blk_frozen BK279.out 0; have hfz24_1 := blk_frozen BK279.out 1; have hfz24_2 := blk_frozen BK279.out 2; have hcz25_0 : w22.cell? ⟨gb280, 0, none⟩ = some (.int .i64 a1_0) := (blk_cell BK280.out 0).trans rfl; have hcz25_1 : w22.cell? ⟨gb280, 1, none⟩ = some (.int .i64 a1_1) := (blk_cell BK280.out 1).trans rfl; have hcz25_2 : w22.cell? ⟨gb280, 2, none⟩ = some (.string a1_2) := (blk_cell BK280.out 2).trans rfl; have hfz25_0 := blk_frozen BK280.out 0; have hfz25_1 := blk_frozen BK280.out 1; have hfz25_2 := blk_frozen BK280.out 2))
  go_ret
  exact ⟨fi_, bel_⟩

def laws_eqRowS.l0 : Nat → List (S43) → List (S43) → Int → Option (Bool)
 | 0, _, _, _ => none
 | k + 1, x0, x1, x5 => if x5 < (x0.length : Int) then (if 0 ≤ x5 then (if x5 < (x1.length : Int) then ((laws_eqRow.f ((rd_T43 x0 x5).f0) ((rd_T43 x0 x5).f1) ((rd_T43 x0 x5).f2) ((rd_T43 x1 x5).f0) ((rd_T43 x1 x5).f1) ((rd_T43 x1 x5).f2)).bind fun t283 => (if t283 = true then (laws_eqRowS.l0 k x0 x1 (wrap64 (x5 + 1))) else (some false))) else (none)) else (none)) else (some true)
def laws_eqRowS.f (k : Nat) (l0 : List (S43)) (l1 : List (S43)) : Option (Bool) := if (l0.length : Int) = (l1.length : Int) then (laws_eqRowS.l0 k l0 l1 0) else (some false)
theorem laws_eqRowS.mono_l : ∀ k, (∀ y0 y1 y2, LeO (laws_eqRowS.l0 k y0 y1 y2) (laws_eqRowS.l0 (k + 1) y0 y1 y2))
 | 0 => fun _ _ _ r h => by simp [laws_eqRowS.l0] at h
 | k + 1 => by
  have ih0 := laws_eqRowS.mono_l k
  ·intro y0 y1 y2
   unfold laws_eqRowS.l0
   repeat' first
   | (with_reducible exact ih0 _ _ _)
   | (with_reducible exact LeO.refl _)
   | (with_reducible exact LeO.none _)
   | (with_reducible refine LeO.ite ?_ ?_)
   | (with_reducible refine LeO.bind ?_ (fun _ => ?_))
   | exact ih0 _ _ _
   | exact LeO.none _
   | refine LeO.ite ?_ ?_
   | refine LeO.bind ?_ (fun _ => ?_)
theorem laws_eqRowS.mono : ∀ a0 a1 k, LeO (laws_eqRowS.f k a0 a1) (laws_eqRowS.f (k + 1) a0 a1) := by
 intro a0 a1 k
 have ih0 := laws_eqRowS.mono_l k
 unfold laws_eqRowS.f
 repeat' first
   | (with_reducible exact ih0 _ _ _)
   | (with_reducible exact LeO.refl _)
   | (with_reducible exact LeO.none _)
   | (with_reducible refine LeO.ite ?_ ?_)
   | (with_reducible refine LeO.bind ?_ (fun _ => ?_))
   | exact ih0 _ _ _
   | exact LeO.none _
   | refine LeO.ite ?_ ?_
   | refine LeO.bind ?_ (fun _ => ?_)
def laws_eqRowS.T6 : Bool × List (List Nat × List Nat) := (true, [([], []), ([], []), ([0, 1], [0, 1]), ([2], [2]), ([], []), ([], []), ([4, 5], [4, 5]), ([6], [6]), ([3, 7], [3, 7]), ([8], [8])])
def laws_eqRowS.B6 : List Nat := [0, 0, 3, 7, 0, 0, 48, 112, 255, 511]
theorem laws_eqRowS.tab6 : rtab .any (opsOf Tryd.f21 6) = laws_eqRowS.T6 := by kernel_rfl
theorem laws_eqRowS.bits6 : waitsOk laws_eqRowS.T6.2 laws_eqRowS.B6 = true := by kernel_rfl
set_option maxHeartbeats 8000000 in
set_option maxRecDepth 100000 in
theorem laws_eqRowS.calls (k : Nat) (A0 : Option Addr) (c0 : Nat) (l0 : List (S43)) (A1 : Option Addr) (c1 : Nat) (l1 : List (S43)) (r : Bool) (w : World) (hr0 : Kd.C k43 w A0 l0.length l0) (hc0 : l0.length ≤ c0) (hr1 : Kd.C k43 w A1 l1.length l1) (hc1 : l1.length ≤ c1) (h : laws_eqRowS.f k l0 l1 = some r) :
  Calls Tryd.prog 21 #[.slice A0 l0.length c0, .slice A1 l1.length c1] w fun e w' => e = .returned (.bool r) ∧ Below w.heap.size w w' := by
 have hu43 := Tryd.underlying43
 have HR0 := Aside0.mk hr0
 have HC0 := Aside0.mk hc0
 clear hr0 hc0
 have HR1 := Aside0.mk hr1
 have HC1 := Aside0.mk hc1
 clear hr1 hc1
 have HB := Aside0.mk (Below.refl w.heap.size w)
 have H : (if (l0.length : Int) = (l1.length : Int) then (laws_eqRowS.l0 k l0 l1 0) else (some false)) = some r := h
 clear h
 by_cases c3 : (l0.length : Int) = (l1.length : Int)
 ·rw [if_pos c3] at H
  have c3b0 : ((l0.length : Int) == (l1.length : Int)) = true := beq_iff_eq.mpr c3
  have c3b1 : ((l0.length : Int) != (l1.length : Int)) = false := bne_eq_false_iff_eq.mpr c3
  have c3b2 : (l0.length == l1.length) = true := by first | simpa using c3 | (simp at c3 ⊢; omega)
  clear c3
  have H' := Aside0.mk H
  clear H
  go_enter Tryd.func21, Tryd.ntmps21
  go_wp2
  go_loopg [5] k (fun kq v5 w' => ∃ (x5_1 : Int), v5 = .int .i64 x5_1 ∧ Aside0 (laws_eqRowS.l0 kq l0 l1 x5_1 = some r) ∧ Aside0 (kq ≤ k) ∧ Aside0 (Below w.heap.size w w'))
  case atStart => exact ⟨(0), (si_), H', ⟨Nat.le_refl _⟩, ⟨bel_⟩⟩
  case round =>
   clear H'
   try clear c1
   try clear c2
   try clear p2
   try clear c3
   try clear c3b0
   try clear c3b1
   try clear c3b2
   obtain ⟨x5_1, rfl, HA, HK1, HB⟩ := hrel
   cases gk with
   | zero => exact absurd HA.out (by simp [laws_eqRowS.l0])
   | succ k1 =>
    have H := HA.out
    clear HA
    simp only [laws_eqRowS.l0] at H
    by_cases c4 : x5_1 < (l0.length : Int)
    ·rw [if_pos c4] at H
     have c4b0 : decide (x5_1 < (l0.length : Int)) = true := decide_eq_true c4
     clear c4
     by_cases c5 : 0 ≤ x5_1
     ·rw [if_pos c5] at H
      have c5b0 : decide (0 ≤ x5_1) = true := decide_eq_true c5
      clear c5
      by_cases c6 : x5_1 < (l1.length : Int)
      ·rw [if_pos c6] at H
       have c6b0 : decide (x5_1 < (l1.length : Int)) = true := decide_eq_true c6
       clear c6
       replace H := Option.bind_eq_some_iff.mp H
       obtain ⟨t283, A70, H⟩ := H
       replace H : (if t283 = true then (laws_eqRowS.l0 k1 l0 l1 (wrap64 (x5_1 + 1))) else (some false)) = some r := H
       have A7 := Aside0.mk A70
       clear A70
       by_cases c8 : t283 = true
       ·subst c8
        have H1 : (laws_eqRowS.l0 k1 l0 l1 (wrap64 (x5_1 + 1))) = some r := by rw [if_pos rfl] at H; exact H
        clear H
        have H := H1
        clear H1
        have H' := Aside0.mk H
        clear H
        try go_wp2
        have n0_ := Aside0.mk (below_drew1 HB.out)
        clear HB
        have HB := n0_
        clear n0_
        have p281 : 0 ≤ (x5_1 : Int) := od_
        have q281 : x5_1 < (l0.length : Int) := od_
        obtain ⟨ad281, e281, hx281_0, hx281_1, hx281_2⟩ := at_T43 HR0.out x5_1 p281 q281
        have hw281_2 := hx281_2
        have hw281_1 := hx281_1
        have hw281_0 := hx281_0
        cases e281
        replace hx281_0 := (cb_ HB.out hx281_0 :)
        replace hx281_1 := (cb_ HB.out hx281_1 :)
        replace hx281_2 := (cb_ HB.out hx281_2 :)
        replace p281 := eq_true p281
        replace q281 := eq_true q281
        have p282 : 0 ≤ (x5_1 : Int) := od_
        have q282 : x5_1 < (l1.length : Int) := od_
        obtain ⟨ad282, e282, hx282_0, hx282_1, hx282_2⟩ := at_T43 HR1.out x5_1 p282 q282
        have hw282_2 := hx282_2
        have hw282_1 := hx282_1
        have hw282_0 := hx282_0
        cases e282
        replace hx282_0 := (cb_ HB.out hx282_0 :)
        replace hx282_1 := (cb_ HB.out hx282_1 :)
        replace hx282_2 := (cb_ HB.out hx282_2 :)
        replace p282 := eq_true p282
        replace q282 := eq_true q282
        refine start_ (n := 10) (S := fun w' => w'.cell? (ad281.add ((x5_1).toNat * 3)) = some (.int .i64 ((rd_T43 l0 x5_1).f0)) ∧ w'.cell? ⟨(ad281.add ((x5_1).toNat * 3)).block, (ad281.add ((x5_1).toNat * 3)).off + 1, none⟩ = some (.int .i64 ((rd_T43 l0 x5_1).f1)) ∧ w'.cell? ⟨(ad281.add ((x5_1).toNat * 3)).block, (ad281.add ((x5_1).toNat * 3)).off + 2, none⟩ = some (.string ((rd_T43 l0 x5_1).f2)) ∧ w'.cell? (ad282.add ((x5_1).toNat * 3)) = some (.int .i64 ((rd_T43 l1 x5_1).f0)) ∧ w'.cell? ⟨(ad282.add ((x5_1).toNat * 3)).block, (ad282.add ((x5_1).toNat * 3)).off + 1, none⟩ = some (.int .i64 ((rd_T43 l1 x5_1).f1)) ∧ w'.cell? ⟨(ad282.add ((x5_1).toNat * 3)).block, (ad282.add ((x5_1).toNat * 3)).off + 2, none⟩ = some (.string ((rd_T43 l1 x5_1).f2))) (ds := []) #[false, false, false, false, false, false, false, false, false, false] (by kernel_rfl) rfl rfl ⟨((cb_ HB.out hw281_0 :)), ((cb_ HB.out hw281_1 :)), ((cb_ HB.out hw281_2 :)), ((cb_ HB.out hw282_0 :)), ((cb_ HB.out hw282_1 :)), ((cb_ HB.out hw282_2 :))⟩ (fun hHeld => ?_); refine with_tabW laws_eqRowS.tab6 laws_eqRowS.bits6 (fun HT_ HW_ => ?_)
        generalize wr.drew = w9 at HB hx281_0 hx281_1 hx281_2 hx282_0 hx282_1 hx282_2 hHeld ⊢
        refine pa_ 0 17 ?_
        refine pa_ 1 18 ?_
        refine pa_ 2 19 ?_
        refine pa_ 4 21 ?_
        refine pa_ 5 22 ?_
        refine pa_ 6 23 ?_
        refine ta6_ 3 20 hHeld ?_
        refine ta6_ 7 24 hHeld ?_
        refine on_ 8 25 (fun K hK => ?_)
        refine goes_ Tryd.func44 (by kernel_rfl) rfl #[.agg #[.int .i64 ((rd_T43 l0 x5_1).f0), .int .i64 ((rd_T43 l0 x5_1).f1), .string ((rd_T43 l0 x5_1).f2)], .agg #[.int .i64 ((rd_T43 l1 x5_1).f0), .int .i64 ((rd_T43 l1 x5_1).f1), .string ((rd_T43 l1 x5_1).f2)]] (by rfl) rfl rfl ar_ ?_
        with_reducible refine (laws_eqRow.calls ((rd_T43 l0 x5_1).f0) ((rd_T43 l0 x5_1).f1) ((rd_T43 l0 x5_1).f2) ((rd_T43 l1 x5_1).f0) ((rd_T43 l1 x5_1).f1) ((rd_T43 l1 x5_1).f2) true _ A7.out).mono ?_
        rintro e w10 ⟨rfl, hb⟩
        refine ⟨_, rfl, ?_⟩
        have n0_ := Aside0.mk (below_step (bel_) hb)
        clear HB
        have HB := n0_
        clear n0_
        (try clear hb)
        (try clear hb2)
        (try clear hk)
        (try clear hi)
        refine hK.out _ _ ⟨((cb_ HB.out hw281_0 :)), ((cb_ HB.out hw281_1 :)), ((cb_ HB.out hw281_2 :)), ((cb_ HB.out hw282_0 :)), ((cb_ HB.out hw282_1 :)), ((cb_ HB.out hw282_2 :))⟩ (fun hHeld => ?_)
        clear hK K
        refine no_ ?_
        refine pa_ 9 26 ?_
        refine done_ (done_of HT_.out (by kernel_rfl)) ?_
        try go_wp2
        go_roundg k1
        case measure => have := HK1.out; omega
        case rel => exact ⟨(wrap64 (x5_1 + 1)), (si_), H', ⟨by have := HK1.out; omega⟩, ⟨bel_⟩⟩
       ·replace c8 := Bool.eq_false_iff.mpr c8
        subst c8
        have H1 : (some false) = some r := by rw [if_neg (show ¬ (false = true) by decide)] at H; exact H
        clear H
        have H := H1
        clear H1
        obtain rfl := Option.some.inj H
        try go_wp2
        have n0_ := Aside0.mk (below_drew1 HB.out)
        clear HB
        have HB := n0_
        clear n0_
        have p281 : 0 ≤ (x5_1 : Int) := od_
        have q281 : x5_1 < (l0.length : Int) := od_
        obtain ⟨ad281, e281, hx281_0, hx281_1, hx281_2⟩ := at_T43 HR0.out x5_1 p281 q281
        have hw281_2 := hx281_2
        have hw281_1 := hx281_1
        have hw281_0 := hx281_0
        cases e281
        replace hx281_0 := (cb_ HB.out hx281_0 :)
        replace hx281_1 := (cb_ HB.out hx281_1 :)
        replace hx281_2 := (cb_ HB.out hx281_2 :)
        replace p281 := eq_true p281
        replace q281 := eq_true q281
        have p282 : 0 ≤ (x5_1 : Int) := od_
        have q282 : x5_1 < (l1.length : Int) := od_
        obtain ⟨ad282, e282, hx282_0, hx282_1, hx282_2⟩ := at_T43 HR1.out x5_1 p282 q282
        have hw282_2 := hx282_2
        have hw282_1 := hx282_1
        have hw282_0 := hx282_0
        cases e282
        replace hx282_0 := (cb_ HB.out hx282_0 :)
        replace hx282_1 := (cb_ HB.out hx282_1 :)
        replace hx282_2 := (cb_ HB.out hx282_2 :)
        replace p282 := eq_true p282
        replace q282 := eq_true q282
        refine start_ (n := 10) (S := fun w' => w'.cell? (ad281.add ((x5_1).toNat * 3)) = some (.int .i64 ((rd_T43 l0 x5_1).f0)) ∧ w'.cell? ⟨(ad281.add ((x5_1).toNat * 3)).block, (ad281.add ((x5_1).toNat * 3)).off + 1, none⟩ = some (.int .i64 ((rd_T43 l0 x5_1).f1)) ∧ w'.cell? ⟨(ad281.add ((x5_1).toNat * 3)).block, (ad281.add ((x5_1).toNat * 3)).off + 2, none⟩ = some (.string ((rd_T43 l0 x5_1).f2)) ∧ w'.cell? (ad282.add ((x5_1).toNat * 3)) = some (.int .i64 ((rd_T43 l1 x5_1).f0)) ∧ w'.cell? ⟨(ad282.add ((x5_1).toNat * 3)).block, (ad282.add ((x5_1).toNat * 3)).off + 1, none⟩ = some (.int .i64 ((rd_T43 l1 x5_1).f1)) ∧ w'.cell? ⟨(ad282.add ((x5_1).toNat * 3)).block, (ad282.add ((x5_1).toNat * 3)).off + 2, none⟩ = some (.string ((rd_T43 l1 x5_1).f2))) (ds := []) #[false, false, false, false, false, false, false, false, false, false] (by kernel_rfl) rfl rfl ⟨((cb_ HB.out hw281_0 :)), ((cb_ HB.out hw281_1 :)), ((cb_ HB.out hw281_2 :)), ((cb_ HB.out hw282_0 :)), ((cb_ HB.out hw282_1 :)), ((cb_ HB.out hw282_2 :))⟩ (fun hHeld => ?_); refine with_tabW laws_eqRowS.tab6 laws_eqRowS.bits6 (fun HT_ HW_ => ?_)
        generalize wr.drew = w11 at HB hx281_0 hx281_1 hx281_2 hx282_0 hx282_1 hx282_2 hHeld ⊢
        refine pa_ 0 17 ?_
        refine pa_ 1 18 ?_
        refine pa_ 2 19 ?_
        refine pa_ 4 21 ?_
        refine pa_ 5 22 ?_
        refine pa_ 6 23 ?_
        refine ta6_ 3 20 hHeld ?_
        refine ta6_ 7 24 hHeld ?_
        refine on_ 8 25 (fun K hK => ?_)
        refine goes_ Tryd.func44 (by kernel_rfl) rfl #[.agg #[.int .i64 ((rd_T43 l0 x5_1).f0), .int .i64 ((rd_T43 l0 x5_1).f1), .string ((rd_T43 l0 x5_1).f2)], .agg #[.int .i64 ((rd_T43 l1 x5_1).f0), .int .i64 ((rd_T43 l1 x5_1).f1), .string ((rd_T43 l1 x5_1).f2)]] (by rfl) rfl rfl ar_ ?_
        with_reducible refine (laws_eqRow.calls ((rd_T43 l0 x5_1).f0) ((rd_T43 l0 x5_1).f1) ((rd_T43 l0 x5_1).f2) ((rd_T43 l1 x5_1).f0) ((rd_T43 l1 x5_1).f1) ((rd_T43 l1 x5_1).f2) false _ A7.out).mono ?_
        rintro e w12 ⟨rfl, hb⟩
        refine ⟨_, rfl, ?_⟩
        have n0_ := Aside0.mk (below_step (bel_) hb)
        clear HB
        have HB := n0_
        clear n0_
        (try clear hb)
        (try clear hb2)
        (try clear hk)
        (try clear hi)
        refine hK.out _ _ ⟨((cb_ HB.out hw281_0 :)), ((cb_ HB.out hw281_1 :)), ((cb_ HB.out hw281_2 :)), ((cb_ HB.out hw282_0 :)), ((cb_ HB.out hw282_1 :)), ((cb_ HB.out hw282_2 :))⟩ (fun hHeld => ?_)
        clear hK K
        refine no_ ?_
        refine pa_ 9 26 ?_
        refine done_ (done_of HT_.out (by kernel_rfl)) ?_
        try go_wp2
        go_ret
        exact ⟨fi_, bel_⟩
      ·rw [if_neg c6] at H
       exact absurd H (by simp)
     ·rw [if_neg c5] at H
      exact absurd H (by simp)
    ·rw [if_neg c4] at H
     have c4b0 : decide (x5_1 < (l0.length : Int)) = false := decide_eq_false c4
     clear c4
     obtain rfl := Option.some.inj H
     go_wp2
     go_ret
     exact ⟨fi_, bel_⟩
 ·rw [if_neg c3] at H
  have c3b0 : ((l0.length : Int) == (l1.length : Int)) = false := beq_eq_false_iff_ne.mpr c3
  have c3b1 : ((l0.length : Int) != (l1.length : Int)) = true := bne_iff_ne.mpr c3
  have c3b2 : (l0.length == l1.length) = false := by first | simpa using c3 | (simp at c3 ⊢; omega)
  obtain rfl := Option.some.inj H
  go_enter Tryd.func21, Tryd.ntmps21
  go_wp2
  go_ret
  exact ⟨fi_, bel_⟩

def laws_markText.l0 : Nat → Int → ByteArray → Option (ByteArray)
 | 0, _, _ => none
 | k + 1, x0, x3 => if x0 > 0 then ((some (([(wrap64 (48 + (Int.tmod x0 10))) % 256] : List Int) : List Int)).bind fun y284 => (if (strOfNums y284).size + x3.size ≤ 9223372036854775807 then (laws_markText.l0 k (wrap64 (Int.tdiv x0 10)) ((strOfNums y284) ++ x3)) else (none))) else (if 1 + x3.size ≤ 9223372036854775807 then (some ((⟨#[109]⟩ : ByteArray) ++ x3)) else (none))
def laws_markText.f (k : Nat) (a0 : Int) : Option (ByteArray) := if a0 ≤ 0 then (some (⟨#[109, 48]⟩ : ByteArray)) else (laws_markText.l0 k a0 (⟨#[]⟩ : ByteArray))
theorem laws_markText.mono_l : ∀ k, (∀ y0 y1, LeO (laws_markText.l0 k y0 y1) (laws_markText.l0 (k + 1) y0 y1))
 | 0 => fun _ _ r h => by simp [laws_markText.l0] at h
 | k + 1 => by
  have ih0 := laws_markText.mono_l k
  ·intro y0 y1
   unfold laws_markText.l0
   repeat' first
   | (with_reducible exact ih0 _ _)
   | (with_reducible exact LeO.refl _)
   | (with_reducible exact LeO.none _)
   | (with_reducible refine LeO.ite ?_ ?_)
   | (with_reducible refine LeO.bind ?_ (fun _ => ?_))
   | exact ih0 _ _
   | exact LeO.none _
   | refine LeO.ite ?_ ?_
   | refine LeO.bind ?_ (fun _ => ?_)
theorem laws_markText.mono : ∀ a0 k, LeO (laws_markText.f k a0) (laws_markText.f (k + 1) a0) := by
 intro a0 k
 have ih0 := laws_markText.mono_l k
 unfold laws_markText.f
 repeat' first
   | (with_reducible exact ih0 _ _)
   | (with_reducible exact LeO.refl _)
   | (with_reducible exact LeO.none _)
   | (with_reducible refine LeO.ite ?_ ?_)
   | (with_reducible refine LeO.bind ?_ (fun _ => ?_))
   | exact ih0 _ _
   | exact LeO.none _
   | refine LeO.ite ?_ ?_
   | refine LeO.bind ?_ (fun _ => ?_)
set_option maxHeartbeats 8000000 in
set_option maxRecDepth 100000 in
theorem laws_markText.calls (k : Nat) (a0 : Int) (r : ByteArray) (w : World) (h : laws_markText.f k a0 = some r) :
  Calls Tryd.prog 45 #[.int .i64 a0] w fun e w' => e = .returned (.string r) ∧ Below w.heap.size w w' := by
 have HB := Aside0.mk (Below.refl w.heap.size w)
 have H : (if a0 ≤ 0 then (some (⟨#[109, 48]⟩ : ByteArray)) else (laws_markText.l0 k a0 (⟨#[]⟩ : ByteArray))) = some r := h
 clear h
 by_cases c2 : a0 ≤ 0
 ·rw [if_pos c2] at H
  have c2b0 : decide (a0 ≤ 0) = true := decide_eq_true c2
  clear c2
  obtain rfl := Option.some.inj H
  go_enter Tryd.func45, Tryd.ntmps45
  go_wp2
  go_ret
  exact ⟨fi_, bel_⟩
 ·rw [if_neg c2] at H
  have c2b0 : decide (a0 ≤ 0) = false := decide_eq_false c2
  clear c2
  have H' := Aside0.mk H
  clear H
  go_enter Tryd.func45, Tryd.ntmps45
  go_wp2
  go_loopg [0, 3] k (fun kq v0 v3 w' => ∃ (x0_1 : Int) (x3_1 : ByteArray), v0 = .int .i64 x0_1 ∧ v3 = .string x3_1 ∧ Aside0 (laws_markText.l0 kq x0_1 x3_1 = some r) ∧ Aside0 (kq ≤ k) ∧ Aside0 (Below w.heap.size w w'))
  case atStart => exact ⟨(a0), ((⟨#[]⟩ : ByteArray)), (si_), (si_), H', ⟨Nat.le_refl _⟩, ⟨bel_⟩⟩
  case round =>
   clear H'
   try clear c2
   try clear c2b0
   try clear p2
   obtain ⟨x0_1, x3_1, rfl, rfl, HA, HK1, HB⟩ := hrel
   cases gk with
   | zero => exact absurd HA.out (by simp [laws_markText.l0])
   | succ k1 =>
    have H := HA.out
    clear HA
    simp only [laws_markText.l0] at H
    by_cases c3 : x0_1 > 0
    ·rw [if_pos c3] at H
     have c3b0 : decide (0 < x0_1) = true := decide_eq_true c3
     clear c3
     obtain ⟨y284, hy284⟩ : ∃ y_ : List Int, y_ = (([(wrap64 (48 + (Int.tmod x0_1 10))) % 256] : List Int)) := ⟨_, rfl⟩
     replace H : (if (strOfNums y284).size + x3_1.size ≤ 9223372036854775807 then (laws_markText.l0 k1 (wrap64 (Int.tdiv x0_1 10)) ((strOfNums y284) ++ x3_1)) else (none)) = some r := by first | (rw [hy284]; with_reducible exact H) | (have H2_ := (Option.bind_some _ _).symm.trans H; rw [hy284]; with_reducible exact H2_) | (have H2_ := (Option.bind_some _ _).symm.trans H; with_reducible exact H2_) | with_reducible exact H | (rw [hy284]; exact H) | exact H
     have Ny284 := Aside0.mk hy284
     clear hy284
     by_cases c4 : (strOfNums y284).size + x3_1.size ≤ 9223372036854775807
     ·rw [if_pos c4] at H
      have c4b0 := eq_true c4
      have c4b1 : decide ((strOfNums y284).size + x3_1.size ≤ 9223372036854775807) = true := decide_eq_true c4
      try have c4b2 : (9223372036854775807 < (strOfNums y284).size + x3_1.size) = False := eq_false (Nat.not_lt.2 c4)
      have H' := Aside0.mk H
      clear H
      go_wp2_with (first | ((with_reducible refine gate_dst (N := 12) rfl ?_); refine Kd.R_lit (Kd.int .u8) _ 5 ?hg (N := 12) ?hd (xs := ([(wrap64 (48 + (Int.tmod x0_1 10))) % 256] : List Int)) (inner := [.int .u8 ((wrap64 (48 + (Int.tmod x0_1 10))) % 256)]) (ok := fun _ => True) (okp := fun _ => True) ?hr ?hp (fun _ hk => hk) trivial (Below.refl _ _) (Nat.le_refl _) (by simp) ?_; (case hd => rfl); (case hg => rfl); (case hr => first | (go_simp; done) | (go_simp; rfl)); (case hp => exact (Reps.one (show Kd.M (Kd.int .u8) _ _ _ ((wrap64 (48 + (Int.tmod x0_1 10))) % 256) [.int .u8 ((wrap64 (48 + (Int.tmod x0_1 10))) % 256)] from rfl) (Reps.none _ _))); intro v285 w5 ho6 hb hg_ hnew_; clear hg_ hnew_; (first | rw [← Ny284.out] at ho6 | (simp only [Int.reduceToNat] at ho6; rw [← Ny284.out] at ho6)); have HO286 := Aside0.mk (Kd.R_lower ho6 (below_size (bel_))); replace HB := Aside0.mk (below_step (bel_) hb); clear hb ho6; have hcv7 := own_string (P := Tryd.prog) Tryd.underlying35 Tryd.underlying5 Tryd.underlying9 (Kd.own_of_R HO286.out)))
      go_roundg k1
      case measure => have := HK1.out; omega
      case rel => exact ⟨(wrap64 (Int.tdiv x0_1 10)), ((strOfNums y284) ++ x3_1), (si_), (si_), H', ⟨by have := HK1.out; omega⟩, ⟨bel_⟩⟩
     ·rw [if_neg c4] at H
      exact absurd H (by simp)
    ·rw [if_neg c3] at H
     have c3b0 : decide (0 < x0_1) = false := decide_eq_false c3
     clear c3
     by_cases c8 : 1 + x3_1.size ≤ 9223372036854775807
     ·rw [if_pos c8] at H
      have c8b0 := eq_true c8
      have c8b1 : decide (1 + x3_1.size ≤ 9223372036854775807) = true := decide_eq_true c8
      try have c8b2 : (9223372036854775807 < 1 + x3_1.size) = False := eq_false (Nat.not_lt.2 c8)
      obtain rfl := Option.some.inj H
      go_wp2
      go_ret
      exact ⟨fi_, bel_⟩
     ·rw [if_neg c8] at H
      exact absurd H (by simp)

def laws_markRowS.l0 : Nat → List (S43) → Int → Int → Option (Int × (List (S43)))
 | 0, _, _, _ => none
 | k + 1, x0, x1, x5 => if x5 < (x0.length : Int) then (if 0 ≤ x5 then ((some (x0.set (x5 : Int).toNat (⟨x1, (rd_T43 x0 x5).f1, (rd_T43 x0 x5).f2⟩ : S43) : List (S43))).bind fun y287 => ((some (y287.set (x5 : Int).toNat (⟨(rd_T43 y287 x5).f0, wrap64 (x1 + 1), (rd_T43 y287 x5).f2⟩ : S43) : List (S43))).bind fun y288 => ((laws_markText.f k (wrap64 ((wrap64 (x1 + 1)) + 1))).bind fun t289 => (laws_markRowS.l0 k (y288.set (x5 : Int).toNat (⟨(rd_T43 y288 x5).f0, (rd_T43 y288 x5).f1, t289⟩ : S43)) (wrap64 ((wrap64 ((wrap64 (x1 + 1)) + 1)) + 1)) (wrap64 (x5 + 1)))))) else (none)) else (some (x1, x0))
def laws_markRowS.f (k : Nat) (l0 : List (S43)) (a1 : Int) : Option (Int × (List (S43))) := laws_markRowS.l0 k l0 a1 0
theorem laws_markRowS.mono_l : ∀ k, (∀ y0 y1 y2, LeO (laws_markRowS.l0 k y0 y1 y2) (laws_markRowS.l0 (k + 1) y0 y1 y2))
 | 0 => fun _ _ _ r h => by simp [laws_markRowS.l0] at h
 | k + 1 => by
  have ih0 := laws_markRowS.mono_l k
  ·intro y0 y1 y2
   unfold laws_markRowS.l0
   repeat' first
   | (with_reducible exact ih0 _ _ _)
   | (with_reducible exact laws_markText.mono _ _)
   | (with_reducible exact LeO.refl _)
   | (with_reducible exact LeO.none _)
   | (with_reducible refine LeO.ite ?_ ?_)
   | (with_reducible refine LeO.bind ?_ (fun _ => ?_))
   | exact ih0 _ _ _
   | exact laws_markText.mono _ _
   | exact LeO.none _
   | refine LeO.ite ?_ ?_
   | refine LeO.bind ?_ (fun _ => ?_)
theorem laws_markRowS.mono : ∀ a0 a1 k, LeO (laws_markRowS.f k a0 a1) (laws_markRowS.f (k + 1) a0 a1) := by
 intro a0 a1 k
 have ih0 := laws_markRowS.mono_l k
 unfold laws_markRowS.f
 repeat' first
   | (with_reducible exact ih0 _ _ _)
   | (with_reducible exact laws_markText.mono _ _)
   | (with_reducible exact LeO.refl _)
   | (with_reducible exact LeO.none _)
   | (with_reducible refine LeO.ite ?_ ?_)
   | (with_reducible refine LeO.bind ?_ (fun _ => ?_))
   | exact ih0 _ _ _
   | exact laws_markText.mono _ _
   | exact LeO.none _
   | refine LeO.ite ?_ ?_
   | refine LeO.bind ?_ (fun _ => ?_)
set_option maxHeartbeats 8000000 in
set_option maxRecDepth 100000 in
theorem laws_markRowS.calls (k : Nat) (P0_ : Nat → Prop) (u9000_ : Value) (l0 : List (S43)) (a1 : Int) (r1 : Int) (r2 : List (S43)) (w0 w : World) (hB : Below w0.heap.size w0 w) (ho0 : Kd.R k43 43 w w0.heap.size P0_ u9000_ l0) (h : laws_markRowS.f k l0 a1 = some (r1, r2)) :
  Calls Tryd.prog 22 #[u9000_, .int .i64 a1] w fun e w' => e = .returned (.int .i64 r1) ∧ Kd.R k43 43 w' w0.heap.size (fun k_ => (P0_ k_ ∨ w.heap.size ≤ k_)) u9000_ r2 ∧ Below w0.heap.size w0 w' ∧ Kept w w' (fun k_ => P0_ k_) := by
 have HO0 := Aside0.mk (show Kd.R k43 43 w w0.heap.size (fun k_ => (P0_ k_ ∨ w.heap.size ≤ k_)) u9000_ l0 from Kd.R_mono ho0 (fun k_ hk => (.inl hk)))
 have HK := Aside0.mk (Kept.refl w (fun k_ => P0_ k_))
 have HW0 := Aside0.mk hB.size
 have HB := Aside0.mk hB
 clear hB
 have H : (laws_markRowS.l0 k l0 a1 0) = some (r1, r2) := h
 clear h
 have H' := Aside0.mk H
 clear H
 go_enter Tryd.func22, Tryd.ntmps22
 go_wp2
 go_loopg [1, 5] k (fun kq v1 v5 w' => ∃ (x0_1 : List (S43)) (x1_1 : Int) (x5_1 : Int), v1 = .int .i64 x1_1 ∧ v5 = .int .i64 x5_1 ∧ Aside0 (laws_markRowS.l0 kq x0_1 x1_1 x5_1 = some (r1, r2)) ∧ Aside0 (kq ≤ k) ∧ Aside0 (Kd.R k43 43 w' w0.heap.size (fun k_ => (P0_ k_ ∨ w.heap.size ≤ k_)) u9000_ x0_1) ∧ Aside0 (Kept w w' (fun k_ => P0_ k_)) ∧ Aside0 (Below w0.heap.size w0 w'))
 case atStart => exact ⟨(l0), (a1), (0), (si_), (si_), H', ⟨Nat.le_refl _⟩, ⟨by (with_reducible repeat (first | apply Kd.R_alloc | apply Kd.R_drewN | apply Kd.R_drew)); exact HO0.out⟩, ⟨by repeat (first | (with_reducible first | exact HK.out | apply Kept.alloc | apply Kept.drewN | apply Kept.drew) | exact HK.out)⟩, ⟨bel_⟩⟩
 case round =>
  clear H'
  try clear c2
  try clear p2
  obtain ⟨x0_1, x1_1, x5_1, rfl, rfl, HA, HK1, HO_0, HK, HB⟩ := hrel
  cases gk with
  | zero => exact absurd HA.out (by simp [laws_markRowS.l0])
  | succ k1 =>
   have H := HA.out
   clear HA
   simp only [laws_markRowS.l0] at H
   by_cases c3 : x5_1 < (x0_1.length : Int)
   ·rw [if_pos c3] at H
    have c3b0 : decide (x5_1 < (x0_1.length : Int)) = true := decide_eq_true c3
    clear c3
    by_cases c4 : 0 ≤ x5_1
    ·rw [if_pos c4] at H
     have c4b0 : decide (0 ≤ x5_1) = true := decide_eq_true c4
     clear c4
     obtain ⟨y287, hy287⟩ : ∃ y_ : List (S43), y_ = (x0_1.set (x5_1 : Int).toNat (⟨x1_1, (rd_T43 x0_1 x5_1).f1, (rd_T43 x0_1 x5_1).f2⟩ : S43)) := ⟨_, rfl⟩
     replace H : ((some (y287.set (x5_1 : Int).toNat (⟨(rd_T43 y287 x5_1).f0, wrap64 (x1_1 + 1), (rd_T43 y287 x5_1).f2⟩ : S43) : List (S43))).bind fun y288 => ((laws_markText.f k1 (wrap64 ((wrap64 (x1_1 + 1)) + 1))).bind fun t289 => (laws_markRowS.l0 k1 (y288.set (x5_1 : Int).toNat (⟨(rd_T43 y288 x5_1).f0, (rd_T43 y288 x5_1).f1, t289⟩ : S43)) (wrap64 ((wrap64 ((wrap64 (x1_1 + 1)) + 1)) + 1)) (wrap64 (x5_1 + 1))))) = some (r1, r2) := by first | (rw [hy287]; with_reducible exact H) | (have H2_ := (Option.bind_some _ _).symm.trans H; rw [hy287]; with_reducible exact H2_) | (have H2_ := (Option.bind_some _ _).symm.trans H; with_reducible exact H2_) | with_reducible exact H | (rw [hy287]; exact H) | exact H
     have Ny287 := Aside0.mk hy287
     clear hy287
     obtain ⟨y288, hy288⟩ : ∃ y_ : List (S43), y_ = (y287.set (x5_1 : Int).toNat (⟨(rd_T43 y287 x5_1).f0, wrap64 (x1_1 + 1), (rd_T43 y287 x5_1).f2⟩ : S43)) := ⟨_, rfl⟩
     replace H : ((laws_markText.f k1 (wrap64 ((wrap64 (x1_1 + 1)) + 1))).bind fun t289 => (laws_markRowS.l0 k1 (y288.set (x5_1 : Int).toNat (⟨(rd_T43 y288 x5_1).f0, (rd_T43 y288 x5_1).f1, t289⟩ : S43)) (wrap64 ((wrap64 ((wrap64 (x1_1 + 1)) + 1)) + 1)) (wrap64 (x5_1 + 1)))) = some (r1, r2) := by first | (rw [hy288]; with_reducible exact H) | (have H2_ := (Option.bind_some _ _).symm.trans H; rw [hy288]; with_reducible exact H2_) | (have H2_ := (Option.bind_some _ _).symm.trans H; with_reducible exact H2_) | with_reducible exact H | (rw [hy288]; exact H) | exact H
     have Ny288 := Aside0.mk hy288
     clear hy288
     replace H := Option.bind_eq_some_iff.mp H
     obtain ⟨t289, A70, H⟩ := H
     replace H : (laws_markRowS.l0 k1 (y288.set (x5_1 : Int).toNat (⟨(rd_T43 y288 x5_1).f0, (rd_T43 y288 x5_1).f1, t289⟩ : S43)) (wrap64 ((wrap64 ((wrap64 (x1_1 + 1)) + 1)) + 1)) (wrap64 (x5_1 + 1))) = some (r1, r2) := H
     have A7 := Aside0.mk A70
     clear A70
     obtain ⟨y290, hy290⟩ : ∃ y_ : List (S43), y_ = (y288.set (x5_1 : Int).toNat (⟨(rd_T43 y288 x5_1).f0, (rd_T43 y288 x5_1).f1, t289⟩ : S43)) := ⟨_, rfl⟩
     replace H : (laws_markRowS.l0 k1 y290 (wrap64 ((wrap64 ((wrap64 (x1_1 + 1)) + 1)) + 1)) (wrap64 (x5_1 + 1))) = some (r1, r2) := by first | (rw [hy290]; with_reducible exact H) | (have H2_ := (Option.bind_some _ _).symm.trans H; rw [hy290]; with_reducible exact H2_) | (have H2_ := (Option.bind_some _ _).symm.trans H; with_reducible exact H2_) | with_reducible exact H | (rw [hy290]; exact H) | exact H
     have Ny290 := Aside0.mk hy290
     clear hy290
     have H' := Aside0.mk H
     clear H
     obtain ⟨Ao9, co9, eo9⟩ := Kd.R_slice HO_0.out
     subst eo9
     have p5 : 0 ≤ (x5_1 : Int) := od_
     have q5 : (x5_1 : Int) < ((x0_1.length : Int) : Int) := od_
     obtain ⟨go5, co5, eo5, gb5, gl5, cl5, HG5⟩ := Kd.R_form HO_0.out (by omega)
     (first | cases eo5 | (injection eo5 with ea_ en_ ec_; (first | subst ea_ | (injection ea_ with ea_; subst ea_)); subst ec_; clear en_))
     have GB5 := Aside0.mk gb5
     have GG5 := Aside0.mk HG5
     clear gb5 gl5 HG5
     have HMgo5 := Aside0.mk (show (P0_ go5 ∨ w.heap.size ≤ go5) from (HO_0.out.1 _ rfl))
     obtain ⟨ce5, hcl5, hM5, hcc5, hfr5⟩ := Kd.R_elem HO_0.out z43 (x5_1 : Int) p5 q5
     obtain rfl := k43_openM hM5
     have hx5_0 : wr.cell? ⟨go5, (x5_1 : Int).toNat * 3, none⟩ = some (.int .i64 ((rd_T43 x0_1 x5_1).f0)) := hcc5 0 _ rfl
     have hx5_1 : wr.cell? ⟨go5, (x5_1 : Int).toNat * 3 + 1, none⟩ = some (.int .i64 ((rd_T43 x0_1 x5_1).f1)) := hcc5 1 _ rfl
     have hx5_2 : wr.cell? ⟨go5, (x5_1 : Int).toNat * 3 + 2, none⟩ = some (.string ((rd_T43 x0_1 x5_1).f2)) := hcc5 2 _ rfl
     have hf5_0 : wr.frozen? ⟨go5, (x5_1 : Int).toNat * 3, none⟩ = false := hfr5 0
     have hf5_1 : wr.frozen? ⟨go5, (x5_1 : Int).toNat * 3 + 1, none⟩ = false := hfr5 1
     have hf5_2 : wr.frozen? ⟨go5, (x5_1 : Int).toNat * 3 + 2, none⟩ = false := hfr5 2
     clear hcl5 hcc5 hfr5 hM5
     replace p5 := eq_true p5
     replace q5 := eq_true q5
     have HX10 := Aside0.mk (show Kd.R k43 43 wr w0.heap.size (fun k_ => (P0_ k_ ∨ w.heap.size ≤ k_)) (.slice (some ⟨go5, 0, none⟩) x0_1.length co9) x0_1 from (rp_ HO_0.out))
     obtain ⟨ce10, hcl10, hM10, hcc10, hfr10⟩ := Kd.R_elem HX10.out z43 (x5_1 : Int) (od_) (by have h_ : (x5_1 : Int) < ((x0_1.length : Int) : Int) := od_; first | exact h_ | (have e_ := (Kd.R_reads' HO_0.out).1; omega) | simpa using h_)
     obtain rfl := k43_openM hM10
     have HP10 := Kd.R_seg HX10.out (x5_1 : Int) (od_) (by have h_ : (x5_1 : Int) < ((x0_1.length : Int) : Int) := od_; first | exact h_ | (have e_ := (Kd.R_reads' HO_0.out).1; omega) | simpa using h_) (seg := [.int .i64 x1_1]) (j := 0) hcl10 hcc10 (show 1 ≤ 3 from by decide) (x' := (⟨x1_1, (rd_T43 x0_1 x5_1).f1, (rd_T43 x0_1 x5_1).f2⟩ : S43)) (k43_mkM _ _ _ (⟨x1_1, (rd_T43 x0_1 x5_1).f1, (rd_T43 x0_1 x5_1).f2⟩ : S43) ) (fun _ hk => hk)
     have hx10_0 := hcc10 0 _ rfl
     (try simp only [show (k43).sz = 3 from rfl, Nat.mul_one, Nat.add_zero] at hx10_0)
     have hf10_0 := hfr10 0
     (try simp only [show (k43).sz = 3 from rfl, Nat.mul_one, Nat.add_zero] at hf10_0)
     clear hcl10 hcc10 hfr10 hM10
     go_wp2_with (first | ((with_reducible refine gate_store (t := 3) (p := 16) rfl ?_); refine store_event (t := 3) (p := 16) (v := ?vo_w11) (w1 := (wr.setCell ⟨go5, (x5_1 : Int).toNat * 3, none⟩ (.int .i64 x1_1))) ?hg ?ho ?hn ?hr ?_; (case ho => rfl); (case hg => rfl); (case hn => rfl); (case hr => first | (go_simp; done) | (go_simp; rfl)); intro w11 hw; have hg : wr.grownBy w11 (some go5) := (by rw [hw]; exact HP10.2); have hp_ : Kd.R k43 43 w11 w0.heap.size (fun k_ => (P0_ k_ ∨ w.heap.size ≤ k_)) (.slice (some ⟨go5, 0, none⟩) x0_1.length co9) y287 := (by rw [hw, Ny287.out]; exact HP10.1); clear HP10; have n0_ := Aside0.mk (hp_); have n1_ := Aside0.mk ((by rw [hw]; exact below_set (HB.out) GB5.out : Below w0.heap.size w0 w11)); have n2_ := Aside0.mk (Kept.of_grown (S := (fun k_ => P0_ k_)) hg (by repeat (first | (with_reducible first | exact HK.out | apply Kept.alloc | apply Kept.drewN | apply Kept.drew) | exact HK.out)) (fun k_ e_ => (HO_0.out.1 k_ e_))); clear HO_0; clear HB; clear HK; have HO_0 := n0_; have HB := n1_; have HK := n2_; clear n0_ n1_ n2_; clear hg hw hp_; have p6 : 0 ≤ (x5_1 : Int) := od_; have q6 : (x5_1 : Int) < ((x0_1.length : Int) : Int) := od_; obtain ⟨ce6, hcl6, hM6, hcc6, hfr6⟩ := Kd.R_elem HO_0.out z43 (x5_1 : Int) p6 q6; obtain rfl := k43_openM hM6; have hx6_0 : w11.cell? ⟨go5, (x5_1 : Int).toNat * 3, none⟩ = some (.int .i64 ((rd_T43 y287 x5_1).f0)) := hcc6 0 _ rfl; have hx6_1 : w11.cell? ⟨go5, (x5_1 : Int).toNat * 3 + 1, none⟩ = some (.int .i64 ((rd_T43 y287 x5_1).f1)) := hcc6 1 _ rfl; have hx6_2 : w11.cell? ⟨go5, (x5_1 : Int).toNat * 3 + 2, none⟩ = some (.string ((rd_T43 y287 x5_1).f2)) := hcc6 2 _ rfl; have hf6_0 : w11.frozen? ⟨go5, (x5_1 : Int).toNat * 3, none⟩ = false := hfr6 0; have hf6_1 : w11.frozen? ⟨go5, (x5_1 : Int).toNat * 3 + 1, none⟩ = false := hfr6 1; have hf6_2 : w11.frozen? ⟨go5, (x5_1 : Int).toNat * 3 + 2, none⟩ = false := hfr6 2; clear hcl6 hcc6 hfr6 hM6; replace p6 := eq_true p6; replace q6 := eq_true q6; have HX12 := Aside0.mk (show Kd.R k43 43 w11 w0.heap.size (fun k_ => (P0_ k_ ∨ w.heap.size ≤ k_)) (.slice (some ⟨go5, 0, none⟩) x0_1.length co9) y287 from (rp_ HO_0.out)); obtain ⟨ce12, hcl12, hM12, hcc12, hfr12⟩ := Kd.R_elem HX12.out z43 (x5_1 : Int) (od_) (by have h_ : (x5_1 : Int) < ((x0_1.length : Int) : Int) := od_; first | exact h_ | (have e_ := (Kd.R_reads' HO_0.out).1; omega) | simpa using h_); obtain rfl := k43_openM hM12; have HP12 := Kd.R_seg HX12.out (x5_1 : Int) (od_) (by have h_ : (x5_1 : Int) < ((x0_1.length : Int) : Int) := od_; first | exact h_ | (have e_ := (Kd.R_reads' HO_0.out).1; omega) | simpa using h_) (seg := [.int .i64 (wrap64 (x1_1 + 1))]) (j := 1) hcl12 hcc12 (show 2 ≤ 3 from by decide) (x' := (⟨(rd_T43 y287 x5_1).f0, wrap64 (x1_1 + 1), (rd_T43 y287 x5_1).f2⟩ : S43)) (k43_mkM _ _ _ (⟨(rd_T43 y287 x5_1).f0, wrap64 (x1_1 + 1), (rd_T43 y287 x5_1).f2⟩ : S43) ) (fun _ hk => hk); have hx12_1 := hcc12 1 _ rfl; (try simp only [show (k43).sz = 3 from rfl, Nat.mul_one, Nat.add_zero] at hx12_1); have hf12_1 := hfr12 1; (try simp only [show (k43).sz = 3 from rfl, Nat.mul_one, Nat.add_zero] at hf12_1); clear hcl12 hcc12 hfr12 hM12) | ((with_reducible refine gate_store (t := 3) (p := 23) rfl ?_); refine store_event (t := 3) (p := 23) (v := ?vo_w13) (w1 := (w11.setCell ⟨go5, (x5_1 : Int).toNat * 3 + 1, none⟩ (.int .i64 (wrap64 (x1_1 + 1))))) ?hg ?ho ?hn ?hr ?_; (case ho => rfl); (case hg => rfl); (case hn => rfl); (case hr => first | (go_simp; done) | (go_simp; rfl)); intro w13 hw; have hg : w11.grownBy w13 (some go5) := (by rw [hw]; exact HP12.2); have hp_ : Kd.R k43 43 w13 w0.heap.size (fun k_ => (P0_ k_ ∨ w.heap.size ≤ k_)) (.slice (some ⟨go5, 0, none⟩) x0_1.length co9) y288 := (by rw [hw, Ny288.out]; exact HP12.1); clear HP12; have n0_ := Aside0.mk (hp_); have n1_ := Aside0.mk ((by rw [hw]; exact below_set (HB.out) GB5.out : Below w0.heap.size w0 w13)); have n2_ := Aside0.mk (Kept.of_grown (S := (fun k_ => P0_ k_)) hg (by repeat (first | (with_reducible first | exact HK.out | apply Kept.alloc | apply Kept.drewN | apply Kept.drew) | exact HK.out)) (fun k_ e_ => (HO_0.out.1 k_ e_))); clear HO_0; clear HB; clear HK; have HO_0 := n0_; have HB := n1_; have HK := n2_; clear n0_ n1_ n2_; clear hg hw hp_) | ((with_reducible refine gate_callee (f := 45) rfl ?_); refine gl_ 29 Tryd.func45 #[.int .i64 (wrap64 ((wrap64 (x1_1 + 1)) + 1))] ?_; (with_reducible refine (laws_markText.calls k1 (wrap64 ((wrap64 (x1_1 + 1)) + 1)) t289 _ A7.out).mono ?_); rintro e w14 ⟨rfl, hb⟩; refine ⟨_, rfl, ?_⟩; replace HO_0 := Aside0.mk (Kd.R_below (rp_ HO_0.out) hb); replace HK := Aside0.mk (Kept.below (S := (fun k_ => P0_ k_)) (by repeat (first | (with_reducible first | exact HK.out | apply Kept.alloc | apply Kept.drewN | apply Kept.drew) | exact HK.out)) hb); replace HB := Aside0.mk (below_step (bel_) hb); (try clear hb); (try clear hb2); (try clear hk); (try clear hi); have p8 : 0 ≤ (x5_1 : Int) := od_; have q8 : (x5_1 : Int) < ((x0_1.length : Int) : Int) := od_; obtain ⟨ce8, hcl8, hM8, hcc8, hfr8⟩ := Kd.R_elem HO_0.out z43 (x5_1 : Int) p8 q8; obtain rfl := k43_openM hM8; have hx8_0 : w14.cell? ⟨go5, (x5_1 : Int).toNat * 3, none⟩ = some (.int .i64 ((rd_T43 y288 x5_1).f0)) := hcc8 0 _ rfl; have hx8_1 : w14.cell? ⟨go5, (x5_1 : Int).toNat * 3 + 1, none⟩ = some (.int .i64 ((rd_T43 y288 x5_1).f1)) := hcc8 1 _ rfl; have hx8_2 : w14.cell? ⟨go5, (x5_1 : Int).toNat * 3 + 2, none⟩ = some (.string ((rd_T43 y288 x5_1).f2)) := hcc8 2 _ rfl; have hf8_0 : w14.frozen? ⟨go5, (x5_1 : Int).toNat * 3, none⟩ = false := hfr8 0; have hf8_1 : w14.frozen? ⟨go5, (x5_1 : Int).toNat * 3 + 1, none⟩ = false := hfr8 1; have hf8_2 : w14.frozen? ⟨go5, (x5_1 : Int).toNat * 3 + 2, none⟩ = false := hfr8 2; clear hcl8 hcc8 hfr8 hM8; replace p8 := eq_true p8; replace q8 := eq_true q8; have HX15 := Aside0.mk (show Kd.R k43 43 w14 w0.heap.size (fun k_ => (P0_ k_ ∨ w.heap.size ≤ k_)) (.slice (some ⟨go5, 0, none⟩) x0_1.length co9) y288 from (rp_ HO_0.out)); obtain ⟨ce15, hcl15, hM15, hcc15, hfr15⟩ := Kd.R_elem HX15.out z43 (x5_1 : Int) (od_) (by have h_ : (x5_1 : Int) < ((x0_1.length : Int) : Int) := od_; first | exact h_ | (have e_ := (Kd.R_reads' HO_0.out).1; omega) | simpa using h_); obtain rfl := k43_openM hM15; have HP15 := Kd.R_seg HX15.out (x5_1 : Int) (od_) (by have h_ : (x5_1 : Int) < ((x0_1.length : Int) : Int) := od_; first | exact h_ | (have e_ := (Kd.R_reads' HO_0.out).1; omega) | simpa using h_) (seg := [.string t289]) (j := 2) hcl15 hcc15 (show 3 ≤ 3 from by decide) (x' := (⟨(rd_T43 y288 x5_1).f0, (rd_T43 y288 x5_1).f1, t289⟩ : S43)) (k43_mkM _ _ _ (⟨(rd_T43 y288 x5_1).f0, (rd_T43 y288 x5_1).f1, t289⟩ : S43) ) (fun _ hk => hk); have hx15_2 := hcc15 2 _ rfl; (try simp only [show (k43).sz = 3 from rfl, Nat.mul_one, Nat.add_zero] at hx15_2); have hf15_2 := hfr15 2; (try simp only [show (k43).sz = 3 from rfl, Nat.mul_one, Nat.add_zero] at hf15_2); clear hcl15 hcc15 hfr15 hM15) | ((with_reducible refine gate_store (t := 9) (p := 31) rfl ?_); refine store_event (t := 9) (p := 31) (v := ?vo_w16) (w1 := (w14.setCell ⟨go5, (x5_1 : Int).toNat * 3 + 2, none⟩ (.string t289))) ?hg ?ho ?hn ?hr ?_; (case ho => rfl); (case hg => rfl); (case hn => rfl); (case hr => first | (go_simp; done) | (go_simp; rfl)); intro w16 hw; have hg : w14.grownBy w16 (some go5) := (by rw [hw]; exact HP15.2); have hp_ : Kd.R k43 43 w16 w0.heap.size (fun k_ => (P0_ k_ ∨ w.heap.size ≤ k_)) (.slice (some ⟨go5, 0, none⟩) x0_1.length co9) y290 := (by rw [hw, Ny290.out]; exact HP15.1); clear HP15; have n0_ := Aside0.mk (hp_); have n1_ := Aside0.mk ((by rw [hw]; exact below_set (HB.out) GB5.out : Below w0.heap.size w0 w16)); have n2_ := Aside0.mk (Kept.of_grown (S := (fun k_ => P0_ k_)) hg (by repeat (first | (with_reducible first | exact HK.out | apply Kept.alloc | apply Kept.drewN | apply Kept.drew) | exact HK.out)) (fun k_ e_ => (HO_0.out.1 k_ e_))); clear HO_0; clear HB; clear HK; have HO_0 := n0_; have HB := n1_; have HK := n2_; clear n0_ n1_ n2_; clear hg hw hp_))
     go_roundg k1
     case measure => have := HK1.out; omega
     case rel => exact ⟨(y290), (wrap64 ((wrap64 ((wrap64 (x1_1 + 1)) + 1)) + 1)), (wrap64 (x5_1 + 1)), (si_), (si_), H', ⟨by have := HK1.out; omega⟩, ⟨by (with_reducible repeat (first | apply Kd.R_alloc | apply Kd.R_drewN | apply Kd.R_drew)); exact HO_0.out⟩, ⟨by repeat (first | (with_reducible first | exact HK.out | apply Kept.alloc | apply Kept.drewN | apply Kept.drew) | exact HK.out)⟩, ⟨bel_⟩⟩
    ·rw [if_neg c4] at H
     exact absurd H (by simp)
   ·rw [if_neg c3] at H
    have c3b0 : decide (x5_1 < (x0_1.length : Int)) = false := decide_eq_false c3
    clear c3
    simp only [Option.some.injEq, Prod.mk.injEq] at H
    obtain ⟨rfl, rfl⟩ := H
    obtain ⟨Ao17, co17, eo17⟩ := Kd.R_slice HO_0.out
    subst eo17
    go_wp2
    go_ret
    exact ⟨fi_, by (with_reducible repeat (first | apply Kd.R_alloc | apply Kd.R_drewN | apply Kd.R_drew)); exact HO_0.out, bel_, by repeat (first | (with_reducible first | exact HK.out | apply Kept.alloc | apply Kept.drewN | apply Kept.drew) | exact HK.out)⟩

end Go.Proofs.YtkopimbbgckcnaaDoor.P
namespace Go.Proofs.YtkopimbbgckcnaaDoor.P
open Go.RowKit Go.Proofs.YtkopimbbgckcnaaDoorW.PrintWords Go.Proofs.YtkopimbbgckcnaaDoorW.PrintLast
set_option linter.unusedVariables false
set_option linter.unusedSimpArgs false
def laws_heldRowS.l0 : Nat → List (S43) → Int → Int → Option (Int)
 | 0, _, _, _ => none
 | k + 1, x0, x1, x5 => if x5 < (x0.length : Int) then (if 0 ≤ x5 then (if ((rd_T43 x0 x5).f0) = x1 then (if ((rd_T43 x0 x5).f1) = (wrap64 (x1 + 1)) then ((laws_markText.f k (wrap64 ((wrap64 (x1 + 1)) + 1))).bind fun t294 => (if ((rd_T43 x0 x5).f2).toList = t294.toList then (laws_heldRowS.l0 k x0 (wrap64 ((wrap64 ((wrap64 (x1 + 1)) + 1)) + 1)) (wrap64 (x5 + 1))) else (some (-1)))) else (some (-1))) else (some (-1))) else (none)) else (some x1)
def laws_heldRowS.f (k : Nat) (l0 : List (S43)) (a1 : Int) : Option (Int) := laws_heldRowS.l0 k l0 a1 0
theorem laws_heldRowS.mono_l : ∀ k, (∀ y0 y1 y2, LeO (laws_heldRowS.l0 k y0 y1 y2) (laws_heldRowS.l0 (k + 1) y0 y1 y2))
 | 0 => fun _ _ _ r h => by simp [laws_heldRowS.l0] at h
 | k + 1 => by
  have ih0 := laws_heldRowS.mono_l k
  ·intro y0 y1 y2
   unfold laws_heldRowS.l0
   repeat' first
   | (with_reducible exact ih0 _ _ _)
   | (with_reducible exact laws_markText.mono _ _)
   | (with_reducible exact LeO.refl _)
   | (with_reducible exact LeO.none _)
   | (with_reducible refine LeO.ite ?_ ?_)
   | (with_reducible refine LeO.bind ?_ (fun _ => ?_))
   | exact ih0 _ _ _
   | exact laws_markText.mono _ _
   | exact LeO.none _
   | refine LeO.ite ?_ ?_
   | refine LeO.bind ?_ (fun _ => ?_)
theorem laws_heldRowS.mono : ∀ a0 a1 k, LeO (laws_heldRowS.f k a0 a1) (laws_heldRowS.f (k + 1) a0 a1) := by
 intro a0 a1 k
 have ih0 := laws_heldRowS.mono_l k
 unfold laws_heldRowS.f
 repeat' first
   | (with_reducible exact ih0 _ _ _)
   | (with_reducible exact laws_markText.mono _ _)
   | (with_reducible exact LeO.refl _)
   | (with_reducible exact LeO.none _)
   | (with_reducible refine LeO.ite ?_ ?_)
   | (with_reducible refine LeO.bind ?_ (fun _ => ?_))
   | exact ih0 _ _ _
   | exact laws_markText.mono _ _
   | exact LeO.none _
   | refine LeO.ite ?_ ?_
   | refine LeO.bind ?_ (fun _ => ?_)
def laws_heldRowS.T10 : Bool × List (List Nat × List Nat) := (true, [([], []), ([], []), ([0, 1], [0, 1]), ([2], [2]), ([3], [3]), ([], []), ([5], [5]), ([4, 6], [4, 6])])
def laws_heldRowS.B10 : List Nat := [0, 0, 3, 7, 15, 0, 32, 127]
theorem laws_heldRowS.tab10 : rtab .any (opsOf Tryd.f23 10) = laws_heldRowS.T10 := by kernel_rfl
theorem laws_heldRowS.bits10 : waitsOk laws_heldRowS.T10.2 laws_heldRowS.B10 = true := by kernel_rfl
set_option maxHeartbeats 8000000 in
set_option maxRecDepth 100000 in
theorem laws_heldRowS.calls (k : Nat) (A0 : Option Addr) (c0 : Nat) (l0 : List (S43)) (a1 : Int) (r : Int) (w : World) (hr0 : Kd.C k43 w A0 l0.length l0) (hc0 : l0.length ≤ c0) (h : laws_heldRowS.f k l0 a1 = some r) :
  Calls Tryd.prog 23 #[.slice A0 l0.length c0, .int .i64 a1] w fun e w' => e = .returned (.int .i64 r) ∧ Below w.heap.size w w' := by
 have HR0 := Aside0.mk hr0
 have HC0 := Aside0.mk hc0
 clear hr0 hc0
 have HB := Aside0.mk (Below.refl w.heap.size w)
 have H : (laws_heldRowS.l0 k l0 a1 0) = some r := h
 clear h
 have H' := Aside0.mk H
 clear H
 go_enter Tryd.func23, Tryd.ntmps23
 go_wp2
 go_loopg [1, 5] k (fun kq v1 v5 w' => ∃ (x1_1 : Int) (x5_1 : Int), v1 = .int .i64 x1_1 ∧ v5 = .int .i64 x5_1 ∧ Aside0 (laws_heldRowS.l0 kq l0 x1_1 x5_1 = some r) ∧ Aside0 (kq ≤ k) ∧ Aside0 (Below w.heap.size w w'))
 case atStart => exact ⟨(a1), (0), (si_), (si_), H', ⟨Nat.le_refl _⟩, ⟨bel_⟩⟩
 case round =>
  clear H'
  try clear c2
  try clear p2
  obtain ⟨x1_1, x5_1, rfl, rfl, HA, HK1, HB⟩ := hrel
  cases gk with
  | zero => exact absurd HA.out (by simp [laws_heldRowS.l0])
  | succ k1 =>
   have H := HA.out
   clear HA
   simp only [laws_heldRowS.l0] at H
   by_cases c3 : x5_1 < (l0.length : Int)
   ·rw [if_pos c3] at H
    have c3b0 : decide (x5_1 < (l0.length : Int)) = true := decide_eq_true c3
    clear c3
    by_cases c4 : 0 ≤ x5_1
    ·rw [if_pos c4] at H
     have c4b0 : decide (0 ≤ x5_1) = true := decide_eq_true c4
     clear c4
     by_cases c5 : ((rd_T43 l0 x5_1).f0) = x1_1
     ·rw [if_pos c5] at H
      have c5b0 : (((rd_T43 l0 x5_1).f0) == x1_1) = true := beq_iff_eq.mpr c5
      have c5b1 : (((rd_T43 l0 x5_1).f0) != x1_1) = false := bne_eq_false_iff_eq.mpr c5
      clear c5
      by_cases c6 : ((rd_T43 l0 x5_1).f1) = (wrap64 (x1_1 + 1))
      ·rw [if_pos c6] at H
       have c6b0 : (((rd_T43 l0 x5_1).f1) == (wrap64 (x1_1 + 1))) = true := beq_iff_eq.mpr c6
       have c6b1 : (((rd_T43 l0 x5_1).f1) != (wrap64 (x1_1 + 1))) = false := bne_eq_false_iff_eq.mpr c6
       clear c6
       replace H := Option.bind_eq_some_iff.mp H
       obtain ⟨t294, A70, H⟩ := H
       replace H : (if ((rd_T43 l0 x5_1).f2).toList = t294.toList then (laws_heldRowS.l0 k1 l0 (wrap64 ((wrap64 ((wrap64 (x1_1 + 1)) + 1)) + 1)) (wrap64 (x5_1 + 1))) else (some (-1))) = some r := H
       have A7 := Aside0.mk A70
       clear A70
       by_cases c8 : ((rd_T43 l0 x5_1).f2).toList = t294.toList
       ·rw [if_pos c8] at H
        have c8b0 : (((rd_T43 l0 x5_1).f2).toList == t294.toList) = true := beq_iff_eq.mpr c8
        have c8b1 : (((rd_T43 l0 x5_1).f2).toList != t294.toList) = false := bne_eq_false_iff_eq.mpr c8
        clear c8
        have H' := Aside0.mk H
        clear H
        have p291 : 0 ≤ (x5_1 : Int) := od_
        have q291 : x5_1 < (l0.length : Int) := od_
        obtain ⟨ad291, e291, hx291_0, hx291_1, hx291_2⟩ := at_T43 HR0.out x5_1 p291 q291
        cases e291
        replace hx291_0 := (cb_ HB.out hx291_0 :)
        replace hx291_1 := (cb_ HB.out hx291_1 :)
        replace hx291_2 := (cb_ HB.out hx291_2 :)
        replace p291 := eq_true p291
        replace q291 := eq_true q291
        have p292 : 0 ≤ (x5_1 : Int) := od_
        have q292 : x5_1 < (l0.length : Int) := od_
        obtain ⟨ad292, e292, hx292_0, hx292_1, hx292_2⟩ := at_T43 HR0.out x5_1 p292 q292
        obtain rfl : ad291 = ad292 := (by injection e292)
        replace hx292_0 := (cb_ HB.out hx292_0 :)
        replace hx292_1 := (cb_ HB.out hx292_1 :)
        replace hx292_2 := (cb_ HB.out hx292_2 :)
        replace p292 := eq_true p292
        replace q292 := eq_true q292
        try go_wp2
        have n0_ := Aside0.mk (below_drew1 HB.out)
        clear HB
        have HB := n0_
        clear n0_
        have p293 : 0 ≤ (x5_1 : Int) := od_
        have q293 : x5_1 < (l0.length : Int) := od_
        obtain ⟨ad293, e293, hx293_0, hx293_1, hx293_2⟩ := at_T43 HR0.out x5_1 p293 q293
        have hw293_2 := hx293_2
        have hw293_1 := hx293_1
        have hw293_0 := hx293_0
        obtain rfl : ad291 = ad293 := (by injection e293)
        replace hx293_0 := (cb_ HB.out hx293_0 :)
        replace hx293_1 := (cb_ HB.out hx293_1 :)
        replace hx293_2 := (cb_ HB.out hx293_2 :)
        replace p293 := eq_true p293
        replace q293 := eq_true q293
        refine start_ (n := 8) (S := fun w' => w'.cell? (ad291.add ((x5_1).toNat * 3)) = some (.int .i64 ((rd_T43 l0 x5_1).f0)) ∧ w'.cell? ⟨(ad291.add ((x5_1).toNat * 3)).block, (ad291.add ((x5_1).toNat * 3)).off + 1, none⟩ = some (.int .i64 ((rd_T43 l0 x5_1).f1)) ∧ w'.cell? ⟨(ad291.add ((x5_1).toNat * 3)).block, (ad291.add ((x5_1).toNat * 3)).off + 2, none⟩ = some (.string ((rd_T43 l0 x5_1).f2))) (ds := []) #[false, false, false, false, false, false, false, false] (by kernel_rfl) rfl rfl ⟨((cb_ HB.out hw293_0 :)), ((cb_ HB.out hw293_1 :)), ((cb_ HB.out hw293_2 :))⟩ (fun hHeld => ?_); refine with_tabW laws_heldRowS.tab10 laws_heldRowS.bits10 (fun HT_ HW_ => ?_)
        generalize wr.drew = w9 at HB hx293_0 hx293_1 hx293_2 hHeld ⊢
        refine pa_ 0 30 ?_
        refine pa_ 1 31 ?_
        refine pa_ 2 32 ?_
        refine pa_ 3 33 ?_
        refine pa_ 5 35 ?_
        refine ta3_ 4 34 hHeld ?_
        refine on_ 6 36 (fun K hK => ?_)
        refine goes_ Tryd.func45 (by kernel_rfl) rfl #[.int .i64 (wrap64 ((wrap64 (x1_1 + 1)) + 1))] (by rfl) rfl rfl ar_ ?_
        with_reducible refine (laws_markText.calls k1 (wrap64 ((wrap64 (x1_1 + 1)) + 1)) t294 _ A7.out).mono ?_
        rintro e w10 ⟨rfl, hb⟩
        refine ⟨_, rfl, ?_⟩
        have n0_ := Aside0.mk (below_step (bel_) hb)
        clear HB
        have HB := n0_
        clear n0_
        (try clear hb)
        (try clear hb2)
        (try clear hk)
        (try clear hi)
        refine hK.out _ _ ⟨((cb_ HB.out hw293_0 :)), ((cb_ HB.out hw293_1 :)), ((cb_ HB.out hw293_2 :))⟩ (fun hHeld => ?_)
        clear hK K
        refine no_ ?_
        refine pa_ 7 37 ?_
        refine done_ (done_of HT_.out (by kernel_rfl)) ?_
        try go_wp2
        go_roundg k1
        case measure => have := HK1.out; omega
        case rel => exact ⟨(wrap64 ((wrap64 ((wrap64 (x1_1 + 1)) + 1)) + 1)), (wrap64 (x5_1 + 1)), (si_), (si_), H', ⟨by have := HK1.out; omega⟩, ⟨bel_⟩⟩
       ·rw [if_neg c8] at H
        have c8b0 : (((rd_T43 l0 x5_1).f2).toList == t294.toList) = false := beq_eq_false_iff_ne.mpr c8
        have c8b1 : (((rd_T43 l0 x5_1).f2).toList != t294.toList) = true := bne_iff_ne.mpr c8
        obtain rfl := Option.some.inj H
        have p291 : 0 ≤ (x5_1 : Int) := od_
        have q291 : x5_1 < (l0.length : Int) := od_
        obtain ⟨ad291, e291, hx291_0, hx291_1, hx291_2⟩ := at_T43 HR0.out x5_1 p291 q291
        cases e291
        replace hx291_0 := (cb_ HB.out hx291_0 :)
        replace hx291_1 := (cb_ HB.out hx291_1 :)
        replace hx291_2 := (cb_ HB.out hx291_2 :)
        replace p291 := eq_true p291
        replace q291 := eq_true q291
        have p292 : 0 ≤ (x5_1 : Int) := od_
        have q292 : x5_1 < (l0.length : Int) := od_
        obtain ⟨ad292, e292, hx292_0, hx292_1, hx292_2⟩ := at_T43 HR0.out x5_1 p292 q292
        obtain rfl : ad291 = ad292 := (by injection e292)
        replace hx292_0 := (cb_ HB.out hx292_0 :)
        replace hx292_1 := (cb_ HB.out hx292_1 :)
        replace hx292_2 := (cb_ HB.out hx292_2 :)
        replace p292 := eq_true p292
        replace q292 := eq_true q292
        try go_wp2
        have n0_ := Aside0.mk (below_drew1 HB.out)
        clear HB
        have HB := n0_
        clear n0_
        have p293 : 0 ≤ (x5_1 : Int) := od_
        have q293 : x5_1 < (l0.length : Int) := od_
        obtain ⟨ad293, e293, hx293_0, hx293_1, hx293_2⟩ := at_T43 HR0.out x5_1 p293 q293
        have hw293_2 := hx293_2
        have hw293_1 := hx293_1
        have hw293_0 := hx293_0
        obtain rfl : ad291 = ad293 := (by injection e293)
        replace hx293_0 := (cb_ HB.out hx293_0 :)
        replace hx293_1 := (cb_ HB.out hx293_1 :)
        replace hx293_2 := (cb_ HB.out hx293_2 :)
        replace p293 := eq_true p293
        replace q293 := eq_true q293
        refine start_ (n := 8) (S := fun w' => w'.cell? (ad291.add ((x5_1).toNat * 3)) = some (.int .i64 ((rd_T43 l0 x5_1).f0)) ∧ w'.cell? ⟨(ad291.add ((x5_1).toNat * 3)).block, (ad291.add ((x5_1).toNat * 3)).off + 1, none⟩ = some (.int .i64 ((rd_T43 l0 x5_1).f1)) ∧ w'.cell? ⟨(ad291.add ((x5_1).toNat * 3)).block, (ad291.add ((x5_1).toNat * 3)).off + 2, none⟩ = some (.string ((rd_T43 l0 x5_1).f2))) (ds := []) #[false, false, false, false, false, false, false, false] (by kernel_rfl) rfl rfl ⟨((cb_ HB.out hw293_0 :)), ((cb_ HB.out hw293_1 :)), ((cb_ HB.out hw293_2 :))⟩ (fun hHeld => ?_); refine with_tabW laws_heldRowS.tab10 laws_heldRowS.bits10 (fun HT_ HW_ => ?_)
        generalize wr.drew = w11 at HB hx293_0 hx293_1 hx293_2 hHeld ⊢
        refine pa_ 0 30 ?_
        refine pa_ 1 31 ?_
        refine pa_ 2 32 ?_
        refine pa_ 3 33 ?_
        refine pa_ 5 35 ?_
        refine ta3_ 4 34 hHeld ?_
        refine on_ 6 36 (fun K hK => ?_)
        refine goes_ Tryd.func45 (by kernel_rfl) rfl #[.int .i64 (wrap64 ((wrap64 (x1_1 + 1)) + 1))] (by rfl) rfl rfl ar_ ?_
        with_reducible refine (laws_markText.calls k1 (wrap64 ((wrap64 (x1_1 + 1)) + 1)) t294 _ A7.out).mono ?_
        rintro e w12 ⟨rfl, hb⟩
        refine ⟨_, rfl, ?_⟩
        have n0_ := Aside0.mk (below_step (bel_) hb)
        clear HB
        have HB := n0_
        clear n0_
        (try clear hb)
        (try clear hb2)
        (try clear hk)
        (try clear hi)
        refine hK.out _ _ ⟨((cb_ HB.out hw293_0 :)), ((cb_ HB.out hw293_1 :)), ((cb_ HB.out hw293_2 :))⟩ (fun hHeld => ?_)
        clear hK K
        refine no_ ?_
        refine pa_ 7 37 ?_
        refine done_ (done_of HT_.out (by kernel_rfl)) ?_
        try go_wp2
        go_ret
        exact ⟨fi_, bel_⟩
      ·rw [if_neg c6] at H
       have c6b0 : (((rd_T43 l0 x5_1).f1) == (wrap64 (x1_1 + 1))) = false := beq_eq_false_iff_ne.mpr c6
       have c6b1 : (((rd_T43 l0 x5_1).f1) != (wrap64 (x1_1 + 1))) = true := bne_iff_ne.mpr c6
       obtain rfl := Option.some.inj H
       have p291 : 0 ≤ (x5_1 : Int) := od_
       have q291 : x5_1 < (l0.length : Int) := od_
       obtain ⟨ad291, e291, hx291_0, hx291_1, hx291_2⟩ := at_T43 HR0.out x5_1 p291 q291
       cases e291
       replace hx291_0 := (cb_ HB.out hx291_0 :)
       replace hx291_1 := (cb_ HB.out hx291_1 :)
       replace hx291_2 := (cb_ HB.out hx291_2 :)
       replace p291 := eq_true p291
       replace q291 := eq_true q291
       have p292 : 0 ≤ (x5_1 : Int) := od_
       have q292 : x5_1 < (l0.length : Int) := od_
       obtain ⟨ad292, e292, hx292_0, hx292_1, hx292_2⟩ := at_T43 HR0.out x5_1 p292 q292
       obtain rfl : ad291 = ad292 := (by injection e292)
       replace hx292_0 := (cb_ HB.out hx292_0 :)
       replace hx292_1 := (cb_ HB.out hx292_1 :)
       replace hx292_2 := (cb_ HB.out hx292_2 :)
       replace p292 := eq_true p292
       replace q292 := eq_true q292
       go_wp2
       go_ret
       exact ⟨fi_, bel_⟩
     ·rw [if_neg c5] at H
      have c5b0 : (((rd_T43 l0 x5_1).f0) == x1_1) = false := beq_eq_false_iff_ne.mpr c5
      have c5b1 : (((rd_T43 l0 x5_1).f0) != x1_1) = true := bne_iff_ne.mpr c5
      obtain rfl := Option.some.inj H
      have p291 : 0 ≤ (x5_1 : Int) := od_
      have q291 : x5_1 < (l0.length : Int) := od_
      obtain ⟨ad291, e291, hx291_0, hx291_1, hx291_2⟩ := at_T43 HR0.out x5_1 p291 q291
      cases e291
      replace hx291_0 := (cb_ HB.out hx291_0 :)
      replace hx291_1 := (cb_ HB.out hx291_1 :)
      replace hx291_2 := (cb_ HB.out hx291_2 :)
      replace p291 := eq_true p291
      replace q291 := eq_true q291
      go_wp2
      go_ret
      exact ⟨fi_, bel_⟩
    ·rw [if_neg c4] at H
     exact absurd H (by simp)
   ·rw [if_neg c3] at H
    have c3b0 : decide (x5_1 < (l0.length : Int)) = false := decide_eq_false c3
    clear c3
    obtain rfl := Option.some.inj H
    go_wp2
    go_ret
    exact ⟨fi_, bel_⟩

end Go.Proofs.YtkopimbbgckcnaaDoor.P
namespace Go.Proofs.YtkopimbbgckcnaaDoor.P
open Go.RowKit
def owners : List Int := [0, 1, 1, 1, 0, 0, 0, 0, 0, 0, 0, 2, 2, 2, 2, 2, 2, 0, 0, 0, 0, 3, 3, 3, 3, 3, 3, 0, 0, 0, 0, 4, 4, 4, 4, 4, 4]
/-- The table reads as the program's text lays it. -/
def Glob (w : World) : Prop := Lib.TabIs Tryd.prog w "loop.example/plashet/impl.rowOwners" .i64 owners
theorem gOwners : Tryd.prog.globalNamed "loop.example/plashet/impl.rowOwners" = some 0 := by kernel_rfl
theorem Glob.var {w : World} (h : Glob w) : w.var? Tryd.prog "loop.example/plashet/impl.rowOwners" = some (owners.map fun z => Value.int .i64 z).toArray := h
theorem Glob.lt {w : World} (h : Glob w) : 0 < w.heap.size := by
  have h := h.var
  unfold World.var? at h
  simp only [gOwners, Option.bind_some] at h
  rcases Nat.lt_or_ge 0 w.heap.size with hl | hl
  · exact hl
  · rw [Array.getElem?_eq_none hl] at h
    cases h
theorem Glob.below {w w' : World} (h : Glob w) (hb : Below w.heap.size w w') : Glob w' := by
  have hl := h.lt
  have h := h.var
  unfold Glob Lib.TabIs World.var? at *
  simp only [gOwners, Option.bind_some] at h ⊢
  rw [hb.block _ hl]
  exact h
theorem Glob.drew {w : World} (h : Glob w) : Glob w.drew := by
  have h := h.var
  unfold Glob Lib.TabIs World.var? at *
  exact h
theorem Glob.drewN {w : World} (h : Glob w) (n : Nat) : Glob (w.drewN n) := by
  induction n generalizing w with
  | zero => exact h
  | succ n ih => rw [← World.drew_drewN]; exact ih h.drew
theorem Glob.cell {w : World} (h : Glob w) (i : Nat) (hi : i < 37) : w.cell? ⟨0, i, none⟩ = some (.int .i64 (owners.getD i 0)) := by
  have hc := World.var?_cell gOwners h.var i
  rw [hc]
  have hl : i < owners.length := hi
  simp [List.getD_eq_getElem?_getD, List.getElem?_eq_getElem hl]
/-- Who makes row 'id', plus one; 0: there is no such row. -/
def ownI (id : Int) : Int := if 0 ≤ id ∧ id < 37 then owners.getD id.toNat 0 else 0
theorem Glob.at_ {w : World} (h : Glob w) (i : Int) (h0 : 0 ≤ i) (h1 : i < 37) : w.cell? ⟨0, i.toNat, none⟩ = some (.int .i64 (ownI i)) := by
  have := h.cell i.toNat (by omega)
  rw [ownI, if_pos ⟨h0, h1⟩]
  exact this
theorem owners_range : ∀ z ∈ owners, 0 ≤ z ∧ z ≤ 4 := by decide
theorem ownI_range (i : Int) : 0 ≤ ownI i ∧ ownI i ≤ 4 := by
  unfold ownI
  split
  · rename_i h
    have hl : i.toNat < owners.length := by have : owners.length = 37 := rfl; omega
    rw [List.getD_eq_getElem?_getD, List.getElem?_eq_getElem hl]
    exact owners_range _ (List.getElem_mem hl)
  · omega
end Go.Proofs.YtkopimbbgckcnaaDoor.P
set_option linter.unusedVariables false
set_option linter.unusedSimpArgs false
namespace Go.Proofs.YtkopimbbgckcnaaDoor.FP
open Go.Proofs.YtkopimbbgckcnaaDoor.P
/-- first child, next one. -/
inductive Fo where
  | nil
  | nd (i : Nat) (t : ByteArray) (k n : Fo)
/-- What a node holds besides its number: its text, and the numbers of what it points to (0: nothing). -/
structure Nd where
  t : ByteArray
  up : Nat
  first : Nat
  next : Nat
def Fo.hd : Fo → Nat
  | .nil => 0
  | .nd i _ _ _ => i
def Fo.ids : Fo → List Nat
  | .nil => []
  | .nd i _ k n => i :: (k.ids ++ n.ids)
def Fo.tops : Fo → List Nat
  | .nil => []
  | .nd i _ _ n => i :: n.tops
def Fo.fl (d : Nat) : Fo → List S43
  | .nil => []
  | .nd i t k n => ⟨(i : Int), (d : Int), t⟩ :: (k.fl (d + 1) ++ n.fl d)
/-- The links hold the forest, whose tops stand under 'up'. -/
def Rep (h : Nat → Nd) (up : Nat) : Fo → Prop
  | .nil => True
  | .nd i t k n => i ≠ 0 ∧ h i = ⟨t, up, k.hd, n.hd⟩ ∧ Rep h i k ∧ Rep h up n
def insAfter (a i : Nat) (t : ByteArray) (s : Fo) : Fo → Fo
  | .nil => .nil
  | .nd j u k n => if j = a then .nd j u k (.nd i t s n) else .nd j u (insAfter a i t s k) (insAfter a i t s n)
def insFirst (p i : Nat) (t : ByteArray) (s : Fo) : Fo → Fo
  | .nil => .nil
  | .nd j u k n => if j = p then .nd j u (.nd i t s k) n else .nd j u (insFirst p i t s k) (insFirst p i t s n)
def del (x : Nat) : Fo → Fo
  | .nil => .nil
  | .nd j u k n => if j = x then n else .nd j u (del x k) (del x n)
/-- What stands under x. -/
def sub (x : Nat) : Fo → Fo
  | .nil => .nil
  | .nd j u k n => if j = x then k else if x ∈ k.ids then sub x k else sub x n
/-- A node that stands nowhere is put under 'up', behind 'a' (0: as the first). -/
def attachH (h : Nat → Nd) (i up a : Nat) : Nat → Nd := fun j =>
  if a = 0 then
    if j = up then ⟨(h up).t, (h up).up, i, (h up).next⟩ else if j = i then ⟨(h i).t, up, (h i).first, (h up).first⟩ else h j
  else
    if j = a then ⟨(h a).t, (h a).up, (h a).first, i⟩ else if j = i then ⟨(h i).t, up, (h i).first, (h a).next⟩ else h j
/-- A node, behind a (0: the first), is taken from its place. -/
def detachH (h : Nat → Nd) (x a : Nat) : Nat → Nd := fun j =>
  if j = x then ⟨(h x).t, 0, (h x).first, 0⟩
  else if a = 0 then (if j = (h x).up then ⟨(h j).t, (h j).up, (h x).next, (h j).next⟩ else h j)
  else (if j = a then ⟨(h j).t, (h j).up, (h j).first, (h x).next⟩ else h j)
theorem Rep.ext {h h' : Nat → Nd} {up : Nat} : ∀ {F : Fo}, Rep h up F → (∀ i ∈ F.ids, h' i = h i) → Rep h' up F
  | .nil, _, _ => trivial
  | .nd i t k n, ⟨h1, h2, h3, h4⟩, e => ⟨h1, (e i (by simp [Fo.ids])).trans h2, Rep.ext h3 fun j hj => e j (by simp [Fo.ids, hj]), Rep.ext h4 fun j hj => e j (by simp [Fo.ids, hj])⟩
theorem Rep.ne0 {h : Nat → Nd} {up : Nat} : ∀ {F : Fo}, Rep h up F → ∀ i ∈ F.ids, i ≠ 0
  | .nil, _, i, hi => by simp [Fo.ids] at hi
  | .nd j t k n, ⟨h1, h2, h3, h4⟩, i, hi => by
    simp only [Fo.ids, List.mem_cons, List.mem_append] at hi
    rcases hi with rfl | hi | hi
    · exact h1
    · exact Rep.ne0 h3 i hi
    · exact Rep.ne0 h4 i hi
theorem attachH_zero (h : Nat → Nd) (i up : Nat) (j : Nat) : attachH h i up 0 j = if j = up then ⟨(h up).t, (h up).up, i, (h up).next⟩ else if j = i then ⟨(h i).t, up, (h i).first, (h up).first⟩ else h j := rfl
theorem attachH_pos (h : Nat → Nd) (i up a : Nat) (ha : a ≠ 0) (j : Nat) : attachH h i up a j = if j = a then ⟨(h a).t, (h a).up, (h a).first, i⟩ else if j = i then ⟨(h i).t, up, (h i).first, (h a).next⟩ else h j := if_neg ha
theorem detachH_self (h : Nat → Nd) (x a : Nat) : detachH h x a x = ⟨(h x).t, 0, (h x).first, 0⟩ := if_pos rfl
theorem detachH_zero (h : Nat → Nd) (x : Nat) {j : Nat} (e : j ≠ x) : detachH h x 0 j = if j = (h x).up then ⟨(h j).t, (h j).up, (h x).next, (h j).next⟩ else h j := by unfold detachH; rw [if_neg e, if_pos rfl]
theorem detachH_pos (h : Nat → Nd) (x a : Nat) (ha : a ≠ 0) {j : Nat} (e : j ≠ x) : detachH h x a j = if j = a then ⟨(h j).t, (h j).up, (h j).first, (h x).next⟩ else h j := by unfold detachH; rw [if_neg e, if_neg ha]
/-- A node that stands nowhere, with what stands under it. -/
structure Free (h : Nat → Nd) (i : Nat) (t : ByteArray) (s : Fo) : Prop where
  ne : i ≠ 0
  t : (h i).t = t
  first : (h i).first = s.hd
  rep : Rep h i s
  out : i ∉ s.ids
theorem insAfter_id (a i : Nat) (t : ByteArray) (s : Fo) : ∀ {F : Fo}, a ∉ F.ids → insAfter a i t s F = F
  | .nil, _ => rfl
  | .nd j u k n, h => by
    simp only [Fo.ids, List.mem_cons, List.mem_append, not_or] at h
    unfold insAfter
    rw [if_neg (fun e => h.1 e.symm), insAfter_id a i t s h.2.1, insAfter_id a i t s h.2.2]
theorem insFirst_id (p i : Nat) (t : ByteArray) (s : Fo) : ∀ {F : Fo}, p ∉ F.ids → insFirst p i t s F = F
  | .nil, _ => rfl
  | .nd j u k n, h => by
    simp only [Fo.ids, List.mem_cons, List.mem_append, not_or] at h
    unfold insFirst
    rw [if_neg (fun e => h.1 e.symm), insFirst_id p i t s h.2.1, insFirst_id p i t s h.2.2]
theorem del_id (x : Nat) : ∀ {F : Fo}, x ∉ F.ids → del x F = F
  | .nil, _ => rfl
  | .nd j u k n, h => by
    simp only [Fo.ids, List.mem_cons, List.mem_append, not_or] at h
    unfold del
    rw [if_neg (fun e => h.1 e.symm), del_id x h.2.1, del_id x h.2.2]
theorem insAfter_hd (a i : Nat) (t : ByteArray) (s : Fo) : ∀ (F : Fo), (insAfter a i t s F).hd = F.hd
  | .nil => rfl
  | .nd j u k n => by unfold insAfter; split <;> rfl
theorem insFirst_hd (p i : Nat) (t : ByteArray) (s : Fo) : ∀ (F : Fo), (insFirst p i t s F).hd = F.hd
  | .nil => rfl
  | .nd j u k n => by unfold insFirst; split <;> rfl
theorem nodup_nd {j : Nat} {u : ByteArray} {k n : Fo} (h : (Fo.nd j u k n).ids.Nodup) : j ∉ k.ids ∧ j ∉ n.ids ∧ k.ids.Nodup ∧ n.ids.Nodup ∧ (∀ x ∈ k.ids, x ∉ n.ids) := by
  simp only [Fo.ids, List.nodup_cons, List.nodup_append, List.mem_append, not_or] at h
  exact ⟨h.1.1, h.1.2, h.2.1, h.2.2.1, fun x hx hn => h.2.2.2 x hx x hn rfl⟩
theorem rep_insAfter {h : Nat → Nd} {a i q : Nat} {t : ByteArray} {s : Fo} (hf : Free h i t s) (ha0 : a ≠ 0) (hq : (h a).up = q) :
    ∀ {F : Fo} {up : Nat}, Rep h up F → F.ids.Nodup → i ∉ F.ids → a ∉ s.ids → a ≠ i → (∀ j ∈ s.ids, j ∉ F.ids) → Rep (attachH h i q a) up (insAfter a i t s F)
  | .nil, up, _, _, _, _, _, _ => trivial
  | .nd j u k n, up, ⟨h1, h2, h3, h4⟩, hn, hi, has, hai, hd => by
    obtain ⟨n1, n2, n3, n4, n5⟩ := nodup_nd hn
    have hat := attachH_pos h i q a ha0
    simp only [Fo.ids, List.mem_cons, List.mem_append, not_or] at hi
    have hs : Rep (attachH h i q a) i s := hf.rep.ext fun x hx => by
      rw [hat x, if_neg (fun (e : x = a) => has (e ▸ hx)), if_neg (fun (e : x = i) => hf.out (e ▸ hx))]
    unfold insAfter
    by_cases hj : j = a
    · subst hj
      rw [if_pos rfl]
      have hup : q = up := by rw [← hq, h2]
      refine ⟨h1, ?_, ?_, hf.ne, ?_, hs, ?_⟩
      · rw [hat j, if_pos rfl, h2]; rfl
      · exact h3.ext fun x hx => by rw [hat x, if_neg (fun (e : x = j) => n1 (e ▸ hx)), if_neg (fun (e : x = i) => hi.2.1 (e ▸ hx))]
      · rw [hat i, if_neg (fun e => hai e.symm), if_pos rfl, h2, hup]
        show Nd.mk (h i).t up (h i).first n.hd = _
        rw [hf.t, hf.first]
      · exact h4.ext fun x hx => by rw [hat x, if_neg (fun (e : x = j) => n2 (e ▸ hx)), if_neg (fun (e : x = i) => hi.2.2 (e ▸ hx))]
    · rw [if_neg hj]
      refine ⟨h1, ?_, ?_, ?_⟩
      · rw [hat j, if_neg hj, if_neg (fun e => hi.1 e.symm), h2, insAfter_hd, insAfter_hd]
      · exact rep_insAfter hf ha0 hq h3 n3 hi.2.1 has hai fun x hx hk => hd x hx (by simp [Fo.ids, hk])
      · exact rep_insAfter hf ha0 hq h4 n4 hi.2.2 has hai fun x hx hk => hd x hx (by simp [Fo.ids, hk])
theorem rep_insFirst {h : Nat → Nd} {p i : Nat} {t : ByteArray} {s : Fo} (hf : Free h i t s) :
    ∀ {F : Fo} {up : Nat}, Rep h up F → F.ids.Nodup → i ∉ F.ids → p ∉ s.ids → p ≠ i → (∀ j ∈ s.ids, j ∉ F.ids) → Rep (attachH h i p 0) up (insFirst p i t s F)
  | .nil, up, _, _, _, _, _, _ => trivial
  | .nd j u k n, up, ⟨h1, h2, h3, h4⟩, hn, hi, has, hai, hd => by
    obtain ⟨n1, n2, n3, n4, n5⟩ := nodup_nd hn
    have hat := attachH_zero h i p
    simp only [Fo.ids, List.mem_cons, List.mem_append, not_or] at hi
    have hs : Rep (attachH h i p 0) i s := hf.rep.ext fun x hx => by
      rw [hat x, if_neg (fun (e : x = p) => has (e ▸ hx)), if_neg (fun (e : x = i) => hf.out (e ▸ hx))]
    unfold insFirst
    by_cases hj : j = p
    · subst hj
      rw [if_pos rfl]
      refine ⟨h1, ?_, ⟨hf.ne, ?_, hs, ?_⟩, ?_⟩
      · rw [hat j, if_pos rfl, h2]; rfl
      · rw [hat i, if_neg (fun e => hai e.symm), if_pos rfl, h2]
        show Nd.mk (h i).t j (h i).first k.hd = _
        rw [hf.t, hf.first]
      · exact h3.ext fun x hx => by rw [hat x, if_neg (fun (e : x = j) => n1 (e ▸ hx)), if_neg (fun (e : x = i) => hi.2.1 (e ▸ hx))]
      · exact h4.ext fun x hx => by rw [hat x, if_neg (fun (e : x = j) => n2 (e ▸ hx)), if_neg (fun (e : x = i) => hi.2.2 (e ▸ hx))]
    · rw [if_neg hj]
      refine ⟨h1, ?_, ?_, ?_⟩
      · rw [hat j, if_neg hj, if_neg (fun e => hi.1 e.symm), h2, insFirst_hd, insFirst_hd]
      · exact rep_insFirst hf h3 n3 hi.2.1 has hai fun x hx hk => hd x hx (by simp [Fo.ids, hk])
      · exact rep_insFirst hf h4 n4 hi.2.2 has hai fun x hx hk => hd x hx (by simp [Fo.ids, hk])
/-- The one ahead of x under the same; p: the one ahead of F's first. -/
def sib (x : Nat) : Nat → Fo → Nat
  | _, .nil => 0
  | p, .nd j u k n => if j = x then p else if x ∈ k.ids then sib x 0 k else sib x j n
theorem sib_mem (x : Nat) : ∀ (F : Fo) (p : Nat), sib x p F = p ∨ sib x p F = 0 ∨ sib x p F ∈ F.ids
  | .nil, p => Or.inr (Or.inl rfl)
  | .nd j u k n, p => by
    unfold sib
    by_cases h1 : j = x
    · rw [if_pos h1]; exact Or.inl rfl
    · rw [if_neg h1]
      by_cases h2 : x ∈ k.ids
      · rw [if_pos h2]
        rcases sib_mem x k 0 with h | h | h
        · exact Or.inr (Or.inl h)
        · exact Or.inr (Or.inl h)
        · exact Or.inr (Or.inr (by simp [Fo.ids, h]))
      · rw [if_neg h2]
        rcases sib_mem x n j with h | h | h
        · rw [h]; exact Or.inr (Or.inr (by simp [Fo.ids]))
        · exact Or.inr (Or.inl h)
        · exact Or.inr (Or.inr (by simp [Fo.ids, h]))
/-- Where x stands: its parent is 'up' or in F. -/
theorem rep_up {h : Nat → Nd} {x : Nat} : ∀ {F : Fo} {up : Nat}, Rep h up F → F.ids.Nodup → x ∈ F.ids → (h x).up = up ∨ (h x).up ∈ F.ids
  | .nil, _, _, _, hx => by simp [Fo.ids] at hx
  | .nd j u k n, up, ⟨h1, h2, h3, h4⟩, hn, hx => by
    obtain ⟨n1, n2, n3, n4, n5⟩ := nodup_nd hn
    simp only [Fo.ids, List.mem_cons, List.mem_append] at hx
    rcases hx with rfl | hx | hx
    · left; rw [h2]
    · rcases rep_up h3 n3 hx with e | e
      · right; rw [e]; simp [Fo.ids]
      · right; simp [Fo.ids, e]
    · rcases rep_up h4 n4 hx with e | e
      · exact Or.inl e
      · right; simp [Fo.ids, e]
/-- The first of its own has no one ahead; else it isn't at the top. -/
theorem sib_zero {h : Nat → Nd} {x : Nat} : ∀ {F : Fo} {up p : Nat}, Rep h up F → F.ids.Nodup → x ∈ F.ids → sib x p F = 0 → (p ≠ 0 ∨ F.hd ≠ x) → (h x).up ∈ F.ids
  | .nil, _, _, _, _, hx, _, _ => by simp [Fo.ids] at hx
  | .nd j u k n, up, p, ⟨h1, h2, h3, h4⟩, hn, hx, hs, hp => by
    obtain ⟨n1, n2, n3, n4, n5⟩ := nodup_nd hn
    unfold sib at hs
    simp only [Fo.ids, List.mem_cons, List.mem_append] at hx
    by_cases e : j = x
    · rw [if_pos e] at hs
      rcases hp with hp | hp
      · exact absurd hs hp
      · exact absurd e hp
    · rw [if_neg e] at hs
      by_cases hk : x ∈ k.ids
      · rcases rep_up h3 n3 hk with e | e
        · rw [e]; simp [Fo.ids]
        · simp [Fo.ids, e]
      · rw [if_neg hk] at hs
        have hxn : x ∈ n.ids := by
          rcases hx with e' | e' | e'
          · exact absurd e'.symm e
          · exact absurd e' hk
          · exact e'
        have := sib_zero (p := j) h4 n4 hxn hs (Or.inl h1)
        simp [Fo.ids, this]
theorem del_hd (x : Nat) (F : Fo) (h : F.hd ≠ x) : (del x F).hd = F.hd := by
  cases F with
  | nil => rfl
  | nd j u k n => unfold del; rw [if_neg (show j ≠ x from h)]; rfl
theorem del_hd_self {h : Nat → Nd} {up x : Nat} {F : Fo} (hr : Rep h up F) (e : F.hd = x) (hx : x ≠ 0) : (del x F).hd = (h x).next ∧ (h x).up = up := by
  cases F with
  | nil => exact absurd e.symm hx
  | nd j u k n =>
    obtain rfl : j = x := e
    obtain ⟨h1, h2, h3, h4⟩ := hr
    unfold del
    rw [if_pos rfl, h2]
    exact ⟨rfl, rfl⟩
theorem sib_hd {x p : Nat} {F : Fo} (e : F.hd = x) (hx : x ≠ 0) : sib x p F = p := by
  cases F with
  | nil => exact absurd e.symm hx
  | nd j u k n => unfold sib; exact if_pos e
theorem up_ne {h : Nat → Nd} {x : Nat} : ∀ {F : Fo} {up : Nat}, Rep h up F → F.ids.Nodup → x ∈ F.ids → up ∉ F.ids → (h x).up ≠ x
  | .nil, _, _, _, hx, _ => by simp [Fo.ids] at hx
  | .nd j u k n, up, ⟨h1, h2, h3, h4⟩, hn, hx, hup => by
    obtain ⟨n1, n2, n3, n4, n5⟩ := nodup_nd hn
    simp only [Fo.ids, List.mem_cons, List.mem_append, not_or] at hx hup
    rcases hx with rfl | hx | hx
    · rw [h2]; exact hup.1
    · exact up_ne h3 n3 hx n1
    · exact up_ne h4 n4 hx hup.2.2
theorem sib_ne {x : Nat} (hx0 : x ≠ 0) : ∀ {F : Fo} {p : Nat}, F.ids.Nodup → x ∈ F.ids → p ≠ x → sib x p F ≠ x
  | .nil, _, _, hx, _ => by simp [Fo.ids] at hx
  | .nd j u k n, p, hn, hx, hp => by
    obtain ⟨n1, n2, n3, n4, n5⟩ := nodup_nd hn
    simp only [Fo.ids, List.mem_cons, List.mem_append] at hx
    unfold sib
    by_cases e1 : j = x
    · rw [if_pos e1]; exact hp
    · rw [if_neg e1]
      by_cases e2 : x ∈ k.ids
      · rw [if_pos e2]; exact sib_ne hx0 n3 e2 (fun e => hx0 e.symm)
      · rw [if_neg e2]
        exact sib_ne hx0 n4 (by rcases hx with g | g | g; exact absurd g.symm e1; exact absurd g e2; exact g) e1
/-- What the record of a node that stays says of the first of its own and of the next one, behind the taking. -/
theorem rep_del {h : Nat → Nd} {x : Nat} : ∀ {F : Fo} {up p : Nat}, Rep h up F → F.ids.Nodup → x ∈ F.ids → up ∉ F.ids → p ∉ F.ids → Rep (detachH h x (sib x p F)) up (del x F)
  | .nil, _, _, _, _, hx, _, _ => by simp [Fo.ids] at hx
  | .nd j u k n, up, p, hR, hn, hx, hup, hp => by
    have hx0 : x ≠ 0 := hR.ne0 x hx
    have hxup : (h x).up ≠ x := up_ne hR hn hx hup
    obtain ⟨h1, h2, h3, h4⟩ := hR
    obtain ⟨n1, n2, n3, n4, n5⟩ := nodup_nd hn
    simp only [Fo.ids, List.mem_cons, List.mem_append, not_or] at hx hup hp
    unfold sib del
    by_cases e : j = x
    · subst e
      rw [if_pos rfl, if_pos rfl]
      refine h4.ext fun y hy => ?_
      have hyj : y ≠ j := fun e => n2 (e ▸ hy)
      by_cases hp0 : p = 0
      · subst hp0
        rw [detachH_zero h j hyj, h2, if_neg (fun (e : y = up) => hup.2.2 (e ▸ hy))]
      · rw [detachH_pos h j p hp0 hyj, if_neg (fun (e : y = p) => hp.2.2 (e ▸ hy))]
    · rw [if_neg e, if_neg e]
      by_cases hk : x ∈ k.ids
      · rw [if_pos hk]
        have z3 : (0 : Nat) ∉ k.ids := fun h0 => h3.ne0 0 h0 rfl
        have ih := rep_del (p := 0) h3 n3 hk n1 z3
        have hnx : x ∉ n.ids := n5 x hk
        have hsx := sib_ne (p := 0) hx0 n3 hk (fun e => hx0 e.symm)
        have hsm : sib x 0 k ≠ 0 → sib x 0 k ∈ k.ids := fun hs => by
          rcases sib_mem x k 0 with h' | h' | h'
          · exact absurd h' hs
          · exact absurd h' hs
          · exact h'
        rw [del_id x hnx]
        refine ⟨h1, ?_, ih, ?_⟩
        · by_cases hh : k.hd = x
          · have hs : sib x 0 k = 0 := sib_hd hh hx0
            obtain ⟨d1, d2⟩ := del_hd_self h3 hh hx0
            rw [hs, detachH_zero h x e, d2, if_pos rfl, d1, h2]
          · rw [del_hd x k hh]
            by_cases hs : sib x 0 k = 0
            · have hq := sib_zero (p := 0) h3 n3 hk hs (Or.inr hh)
              rw [hs, detachH_zero h x e, if_neg (fun (e2 : j = (h x).up) => n1 (e2 ▸ hq)), h2]
            · rw [detachH_pos h x _ hs e, if_neg (fun (e2 : j = sib x 0 k) => n1 (e2 ▸ hsm hs)), h2]
        · refine h4.ext fun y hy => ?_
          have hyx : y ≠ x := fun e2 => hnx (e2 ▸ hy)
          by_cases hs : sib x 0 k = 0
          · rw [hs, detachH_zero h x hyx, if_neg]
            intro e2
            rcases rep_up h3 n3 hk with e3 | e3
            · exact n2 (e3 ▸ e2 ▸ hy)
            · exact n5 _ e3 (e2 ▸ hy)
          · rw [detachH_pos h x _ hs hyx, if_neg (fun (e2 : y = sib x 0 k) => n5 _ (hsm hs) (e2 ▸ hy))]
      · rw [if_neg hk]
        have hxn : x ∈ n.ids := by
          rcases hx with g | g | g
          · exact absurd g.symm e
          · exact absurd g hk
          · exact g
        have ih := rep_del (p := j) h4 n4 hxn hup.2.2 n2
        rw [del_id x hk]
        have hsm : sib x j n ≠ j → sib x j n ≠ 0 → sib x j n ∈ n.ids := fun hj hs => by
          rcases sib_mem x n j with h' | h' | h'
          · exact absurd h' hj
          · exact absurd h' hs
          · exact h'
        refine ⟨h1, ?_, ?_, ih⟩
        · by_cases hh : n.hd = x
          · have hs : sib x j n = j := sib_hd hh hx0
            obtain ⟨d1, d2⟩ := del_hd_self h4 hh hx0
            rw [hs, detachH_pos h x j h1 e, if_pos rfl, d1, h2]
          · rw [del_hd x n hh]
            by_cases hs : sib x j n = 0
            · have hq := sib_zero (p := j) h4 n4 hxn hs (Or.inl h1)
              rw [hs, detachH_zero h x e, if_neg (fun (e2 : j = (h x).up) => n2 (e2 ▸ hq)), h2]
            · have hsj : sib x j n ≠ j := by
                cases n with
                | nil => simp [Fo.ids] at hxn
                | nd j2 u2 k2 n2' =>
                  have hj2 : j2 ≠ x := hh
                  unfold sib
                  rw [if_neg hj2]
                  obtain ⟨m1, m2, m3, m4, m5⟩ := nodup_nd n4
                  simp only [Fo.ids, List.mem_cons, List.mem_append, not_or] at n2
                  split
                  · rcases sib_mem x k2 0 with h' | h' | h'
                    · rw [h']; exact fun e => h1 e.symm
                    · rw [h']; exact fun e => h1 e.symm
                    · exact fun e => n2.2.1 (e ▸ h')
                  · rcases sib_mem x n2' j2 with h' | h' | h'
                    · rw [h']; exact fun e => n2.1 e.symm
                    · rw [h']; exact fun e => h1 e.symm
                    · exact fun e => n2.2.2 (e ▸ h')
              rw [detachH_pos h x _ hs e, if_neg (fun (e2 : j = sib x j n) => hsj e2.symm), h2]
        · refine h3.ext fun y hy => ?_
          have hyx : y ≠ x := fun e2 => hk (e2 ▸ hy)
          by_cases hs : sib x j n = 0
          · rw [hs, detachH_zero h x hyx, if_neg]
            intro e2
            have hq := sib_zero (p := j) h4 n4 hxn hs (Or.inl h1)
            exact n5 _ hy (e2 ▸ hq)
          · rw [detachH_pos h x _ hs hyx, if_neg]
            intro e2
            by_cases hsj : sib x j n = j
            · exact n1 (by rw [← hsj, ← e2]; exact hy)
            · exact n5 _ hy (e2 ▸ hsm hsj hs)
def RepTop (h : Nat → Nd) : Fo → Prop
  | .nil => True
  | .nd i t k n => i ≠ 0 ∧ h i = ⟨t, 0, k.hd, 0⟩ ∧ Rep h i k ∧ RepTop h n
theorem RepTop.ext {h h' : Nat → Nd} : ∀ {F : Fo}, RepTop h F → (∀ i ∈ F.ids, h' i = h i) → RepTop h' F
  | .nil, _, _ => trivial
  | .nd i t k n, ⟨h1, h2, h3, h4⟩, e => ⟨h1, (e i (by simp [Fo.ids])).trans h2, Rep.ext h3 fun j hj => e j (by simp [Fo.ids, hj]), RepTop.ext h4 fun j hj => e j (by simp [Fo.ids, hj])⟩
theorem RepTop.ne0 {h : Nat → Nd} : ∀ {F : Fo}, RepTop h F → ∀ i ∈ F.ids, i ≠ 0
  | .nil, _, i, hi => by simp [Fo.ids] at hi
  | .nd j t k n, ⟨h1, h2, h3, h4⟩, i, hi => by
    simp only [Fo.ids, List.mem_cons, List.mem_append] at hi
    rcases hi with rfl | hi | hi
    · exact h1
    · exact Rep.ne0 h3 i hi
    · exact RepTop.ne0 h4 i hi
theorem tops_ids : ∀ {F : Fo} {x : Nat}, x ∈ F.tops → x ∈ F.ids
  | .nil, x, h => by cases h
  | .nd j t k n, x, h => by
    simp only [Fo.tops, List.mem_cons] at h
    simp only [Fo.ids, List.mem_cons, List.mem_append]
    rcases h with h | h
    · exact Or.inl h
    · exact Or.inr (Or.inr (tops_ids h))
/-- Where x stands below the top. -/
theorem reptop_up {h : Nat → Nd} {x : Nat} : ∀ {F : Fo}, RepTop h F → F.ids.Nodup → x ∈ F.ids → x ∉ F.tops → (h x).up ∈ F.ids ∧ (h x).up ≠ x
  | .nil, _, _, hx, _ => by simp [Fo.ids] at hx
  | .nd j u k n, ⟨h1, h2, h3, h4⟩, hn, hx, ht => by
    obtain ⟨n1, n2, n3, n4, n5⟩ := nodup_nd hn
    simp only [Fo.ids, Fo.tops, List.mem_cons, List.mem_append, not_or] at hx ht ⊢
    rcases hx with e | hx | hx
    · exact absurd e ht.1
    · refine ⟨?_, up_ne h3 n3 hx n1⟩
      rcases rep_up h3 n3 hx with e | e
      · exact Or.inl e
      · exact Or.inr (Or.inl e)
    · obtain ⟨g1, g2⟩ := reptop_up h4 n4 hx ht.2
      exact ⟨Or.inr (Or.inr g1), g2⟩
theorem reptop_root {h : Nat → Nd} {x : Nat} : ∀ {F : Fo}, RepTop h F → x ∈ F.tops → (h x).up = 0
  | .nil, _, hx => by cases hx
  | .nd j u k n, ⟨h1, h2, h3, h4⟩, hx => by
    simp only [Fo.tops, List.mem_cons] at hx
    rcases hx with rfl | hx
    · rw [h2]
    · exact reptop_root h4 hx
theorem reptop_insAfter {h : Nat → Nd} {a i q : Nat} {t : ByteArray} {s : Fo} (hf : Free h i t s) (ha0 : a ≠ 0) (hq : (h a).up = q) :
    ∀ {F : Fo}, RepTop h F → F.ids.Nodup → i ∉ F.ids → a ∉ F.tops → a ∉ s.ids → a ≠ i → (∀ j ∈ s.ids, j ∉ F.ids) → RepTop (attachH h i q a) (insAfter a i t s F)
  | .nil, _, _, _, _, _, _, _ => trivial
  | .nd j u k n, ⟨h1, h2, h3, h4⟩, hn, hi, hta, has, hai, hd => by
    obtain ⟨n1, n2, n3, n4, n5⟩ := nodup_nd hn
    simp only [Fo.ids, Fo.tops, List.mem_cons, List.mem_append, not_or] at hi hta
    have hj : j ≠ a := fun e => hta.1 e.symm
    unfold insAfter
    rw [if_neg hj]
    refine ⟨h1, ?_, ?_, ?_⟩
    · rw [attachH_pos h i q a ha0 j, if_neg hj, if_neg (fun e => hi.1 e.symm), h2, insAfter_hd]
    · exact rep_insAfter hf ha0 hq h3 n3 hi.2.1 has hai fun x hx hk => hd x hx (by simp [Fo.ids, hk])
    · exact reptop_insAfter hf ha0 hq h4 n4 hi.2.2 hta.2 has hai fun x hx hk => hd x hx (by simp [Fo.ids, hk])
theorem reptop_insFirst {h : Nat → Nd} {p i : Nat} {t : ByteArray} {s : Fo} (hf : Free h i t s) :
    ∀ {F : Fo}, RepTop h F → F.ids.Nodup → i ∉ F.ids → p ∉ s.ids → p ≠ i → (∀ j ∈ s.ids, j ∉ F.ids) → RepTop (attachH h i p 0) (insFirst p i t s F)
  | .nil, _, _, _, _, _, _ => trivial
  | .nd j u k n, ⟨h1, h2, h3, h4⟩, hn, hi, has, hai, hd => by
    obtain ⟨n1, n2, n3, n4, n5⟩ := nodup_nd hn
    have hat := attachH_zero h i p
    simp only [Fo.ids, List.mem_cons, List.mem_append, not_or] at hi
    unfold insFirst
    by_cases hj : j = p
    · subst hj
      rw [if_pos rfl]
      refine ⟨h1, ?_, ⟨hf.ne, ?_, ?_, ?_⟩, ?_⟩
      · rw [hat j, if_pos rfl, h2]; rfl
      · rw [hat i, if_neg (fun e => hai e.symm), if_pos rfl, h2]
        show Nd.mk (h i).t j (h i).first k.hd = _
        rw [hf.t, hf.first]
      · exact hf.rep.ext fun x hx => by
          rw [hat x, if_neg (fun (e : x = j) => has (e ▸ hx)), if_neg (fun (e : x = i) => hf.out (e ▸ hx))]
      · exact h3.ext fun x hx => by rw [hat x, if_neg (fun (e : x = j) => n1 (e ▸ hx)), if_neg (fun (e : x = i) => hi.2.1 (e ▸ hx))]
      · exact h4.ext fun x hx => by rw [hat x, if_neg (fun (e : x = j) => n2 (e ▸ hx)), if_neg (fun (e : x = i) => hi.2.2 (e ▸ hx))]
    · rw [if_neg hj]
      refine ⟨h1, ?_, ?_, ?_⟩
      · rw [hat j, if_neg hj, if_neg (fun e => hi.1 e.symm), h2, insFirst_hd]
      · exact rep_insFirst hf h3 n3 hi.2.1 has hai fun x hx hk => hd x hx (by simp [Fo.ids, hk])
      · exact reptop_insFirst hf h4 n4 hi.2.2 has hai fun x hx hk => hd x hx (by simp [Fo.ids, hk])
/-- The previous one of x's own, of a row that doesn't stand at the top. -/
def sibT (x : Nat) : Fo → Nat
  | .nil => 0
  | .nd j u k n => if x ∈ k.ids then sib x 0 k else sibT x n
theorem sibT_mem (x : Nat) : ∀ (F : Fo), sibT x F = 0 ∨ sibT x F ∈ F.ids
  | .nil => Or.inl rfl
  | .nd j u k n => by
    unfold sibT
    split
    · rcases sib_mem x k 0 with h | h | h
      · exact Or.inl h
      · exact Or.inl h
      · exact Or.inr (by simp [Fo.ids, h])
    · rcases sibT_mem x n with h | h
      · exact Or.inl h
      · exact Or.inr (by simp [Fo.ids, h])
theorem reptop_del {h : Nat → Nd} {x : Nat} : ∀ {F : Fo}, RepTop h F → F.ids.Nodup → x ∈ F.ids → x ∉ F.tops → RepTop (detachH h x (sibT x F)) (del x F)
  | .nil, _, _, hx, _ => by simp [Fo.ids] at hx
  | .nd j u k n, hR, hn, hx, ht => by
    have hx0 : x ≠ 0 := hR.ne0 x hx
    obtain ⟨h1, h2, h3, h4⟩ := hR
    obtain ⟨n1, n2, n3, n4, n5⟩ := nodup_nd hn
    simp only [Fo.ids, Fo.tops, List.mem_cons, List.mem_append, not_or] at hx ht
    have e : j ≠ x := fun e => ht.1 e.symm
    unfold sibT del
    rw [if_neg e]
    by_cases hk : x ∈ k.ids
    · rw [if_pos hk]
      have z3 : (0 : Nat) ∉ k.ids := fun h0 => h3.ne0 0 h0 rfl
      have hxup : (h x).up ≠ x := up_ne h3 n3 hk n1
      have ih := rep_del (p := 0) h3 n3 hk n1 z3
      have hnx : x ∉ n.ids := n5 x hk
      have hsx := sib_ne (p := 0) hx0 n3 hk (fun e => hx0 e.symm)
      have hsm : sib x 0 k ≠ 0 → sib x 0 k ∈ k.ids := fun hs => by
        rcases sib_mem x k 0 with h' | h' | h'
        · exact absurd h' hs
        · exact absurd h' hs
        · exact h'
      rw [del_id x hnx]
      refine ⟨h1, ?_, ih, ?_⟩
      · by_cases hh : k.hd = x
        · have hs : sib x 0 k = 0 := sib_hd hh hx0
          obtain ⟨d1, d2⟩ := del_hd_self h3 hh hx0
          rw [hs, detachH_zero h x e, d2, if_pos rfl, d1, h2]
        · rw [del_hd x k hh]
          by_cases hs : sib x 0 k = 0
          · have hq := sib_zero (p := 0) h3 n3 hk hs (Or.inr hh)
            rw [hs, detachH_zero h x e, if_neg (fun (e2 : j = (h x).up) => n1 (e2 ▸ hq)), h2]
          · rw [detachH_pos h x _ hs e, if_neg (fun (e2 : j = sib x 0 k) => n1 (e2 ▸ hsm hs)), h2]
      · refine h4.ext fun y hy => ?_
        have hyx : y ≠ x := fun e2 => hnx (e2 ▸ hy)
        by_cases hs : sib x 0 k = 0
        · rw [hs, detachH_zero h x hyx, if_neg]
          intro e2
          rcases rep_up h3 n3 hk with e3 | e3
          · exact n2 (e3 ▸ e2 ▸ hy)
          · exact n5 _ e3 (e2 ▸ hy)
        · rw [detachH_pos h x _ hs hyx, if_neg (fun (e2 : y = sib x 0 k) => n5 _ (hsm hs) (e2 ▸ hy))]
    · rw [if_neg hk]
      have hxn : x ∈ n.ids := by
        rcases hx with g | g | g
        · exact absurd g.symm e
        · exact absurd g hk
        · exact g
      have ih := reptop_del h4 n4 hxn ht.2
      obtain ⟨u1, u2⟩ := reptop_up h4 n4 hxn ht.2
      have hsm : sibT x n ≠ 0 → sibT x n ∈ n.ids := fun hs => by
        rcases sibT_mem x n with h' | h'
        · exact absurd h' hs
        · exact h'
      rw [del_id x hk]
      refine ⟨h1, ?_, ?_, ih⟩
      · by_cases hs : sibT x n = 0
        · rw [hs, detachH_zero h x e, if_neg (fun (e2 : j = (h x).up) => n2 (e2 ▸ u1)), h2]
        · rw [detachH_pos h x _ hs e, if_neg (fun (e2 : j = sibT x n) => n2 (e2 ▸ hsm hs)), h2]
      · refine h3.ext fun y hy => ?_
        have hyx : y ≠ x := fun e2 => hk (e2 ▸ hy)
        by_cases hs : sibT x n = 0
        · rw [hs, detachH_zero h x hyx, if_neg (fun (e2 : y = (h x).up) => n5 _ hy (e2 ▸ u1))]
        · rw [detachH_pos h x _ hs hyx, if_neg (fun (e2 : y = sibT x n) => n5 _ hy (e2 ▸ hsm hs))]
/-- What stood under x stands under it still. -/
theorem free_detach {h : Nat → Nd} {x a : Nat} : ∀ {F : Fo} {up : Nat}, Rep h up F → F.ids.Nodup → x ∈ F.ids → a ∉ (sub x F).ids → (h x).up ∉ (sub x F).ids → Free (detachH h x a) x (h x).t (sub x F)
  | .nil, _, _, _, hx, _, _ => by simp [Fo.ids] at hx
  | .nd j u k n, up, ⟨h1, h2, h3, h4⟩, hn, hx, ha, hu => by
    obtain ⟨n1, n2, n3, n4, n5⟩ := nodup_nd hn
    unfold sub at ha hu ⊢
    by_cases e : j = x
    · subst e
      rw [if_pos rfl] at ha hu ⊢
      refine ⟨h1, by rw [detachH_self], by rw [detachH_self, h2], h3.ext fun y hy => ?_, n1⟩
      have hyj : y ≠ j := fun e => n1 (e ▸ hy)
      by_cases ha0 : a = 0
      · subst ha0; rw [detachH_zero h j hyj, if_neg (fun (e : y = (h j).up) => hu (e ▸ hy))]
      · rw [detachH_pos h j a ha0 hyj, if_neg (fun (e : y = a) => ha (e ▸ hy))]
    · rw [if_neg e] at ha hu ⊢
      by_cases hk : x ∈ k.ids
      · rw [if_pos hk] at ha hu ⊢
        exact free_detach h3 n3 hk ha hu
      · rw [if_neg hk] at ha hu ⊢
        simp only [Fo.ids, List.mem_cons, List.mem_append] at hx
        exact free_detach h4 n4 (by rcases hx with g | g | g; exact absurd g.symm e; exact absurd g hk; exact g) ha hu
def dpth : Fo → Nat
  | .nil => 0
  | .nd _ _ k .nil => dpth k + 1
  | .nd _ _ _ (.nd i t k n) => dpth (.nd i t k n)
def sp : Nat → Fo → Nat
  | _, .nil => 0
  | 0, .nd i _ _ .nil => i
  | e + 1, .nd _ _ k .nil => sp e k
  | e, .nd _ _ _ (.nd i t k n) => sp e (.nd i t k n)
def snoc (i : Nat) (t : ByteArray) : Nat → Fo → Fo
  | _, .nil => .nd i t .nil .nil
  | 0, .nd j u k .nil => .nd j u k (.nd i t .nil .nil)
  | e + 1, .nd j u k .nil => .nd j u (snoc i t e k) .nil
  | e, .nd j u k (.nd j2 u2 k2 n2) => .nd j u k (snoc i t e (.nd j2 u2 k2 n2))
theorem snoc_ne (i : Nat) (t : ByteArray) : ∀ (e : Nat) (G : Fo), ∃ j u k n, snoc i t e G = .nd j u k n
  | e, .nil => ⟨_, _, _, _, by unfold snoc; rfl⟩
  | 0, .nd j u k .nil => ⟨_, _, _, _, by unfold snoc; rfl⟩
  | e + 1, .nd j u k .nil => ⟨_, _, _, _, by unfold snoc; rfl⟩
  | e, .nd j u k (.nd j2 u2 k2 n2) => ⟨_, _, _, _, by unfold snoc; rfl⟩
theorem snoc_fl (i : Nat) (t : ByteArray) : ∀ (G : Fo) (e d : Nat), e ≤ dpth G → (snoc i t e G).fl d = G.fl d ++ [⟨(i : Int), ((d + e : Nat) : Int), t⟩]
  | .nil, e, d, h => by
    have : e = 0 := by simpa [dpth] using h
    subst this
    simp [snoc, Fo.fl]
  | .nd j u k .nil, 0, d, h => by simp [snoc, Fo.fl]
  | .nd j u k .nil, e + 1, d, h => by
    have := snoc_fl i t k e (d + 1) (by simp only [dpth] at h; omega)
    simp only [snoc, Fo.fl, this]
    rw [show d + 1 + e = d + (e + 1) by omega]
    simp
  | .nd j u k (.nd j2 u2 k2 n2), e, d, h => by
    have := snoc_fl i t (.nd j2 u2 k2 n2) e d h
    have e1 : snoc i t e (.nd j u k (.nd j2 u2 k2 n2)) = .nd j u k (snoc i t e (.nd j2 u2 k2 n2)) := by cases e <;> rfl
    rw [e1]
    simp only [Fo.fl] at this ⊢
    rw [this]
    simp
theorem snoc_ids (i : Nat) (t : ByteArray) : ∀ (G : Fo) (e : Nat), (snoc i t e G).ids = G.ids ++ [i]
  | .nil, e => by simp [snoc, Fo.ids]
  | .nd j u k .nil, 0 => by simp [snoc, Fo.ids]
  | .nd j u k .nil, e + 1 => by simp [snoc, Fo.ids, snoc_ids i t k e]
  | .nd j u k (.nd j2 u2 k2 n2), e => by
    have e1 : snoc i t e (.nd j u k (.nd j2 u2 k2 n2)) = .nd j u k (snoc i t e (.nd j2 u2 k2 n2)) := by cases e <;> rfl
    rw [e1]
    show j :: (k.ids ++ (snoc i t e (.nd j2 u2 k2 n2)).ids) = _
    rw [snoc_ids i t (.nd j2 u2 k2 n2) e]
    simp [Fo.ids]
theorem snoc_tops (i : Nat) (t : ByteArray) : ∀ (G : Fo) (e : Nat), e ≤ dpth G → (snoc i t e G).tops = if e = 0 then G.tops ++ [i] else G.tops
  | .nil, e, h => by
    have : e = 0 := by simpa [dpth] using h
    subst this
    simp [snoc, Fo.tops]
  | .nd j u k .nil, 0, _ => by simp [snoc, Fo.tops]
  | .nd j u k .nil, e + 1, _ => by simp [snoc, Fo.tops]
  | .nd j u k (.nd j2 u2 k2 n2), e, h => by
    have e1 : snoc i t e (.nd j u k (.nd j2 u2 k2 n2)) = .nd j u k (snoc i t e (.nd j2 u2 k2 n2)) := by cases e <;> rfl
    rw [e1]
    show j :: (snoc i t e (.nd j2 u2 k2 n2)).tops = _
    rw [snoc_tops i t (.nd j2 u2 k2 n2) e h]
    by_cases he : e = 0 <;> simp [he, Fo.tops]
theorem dpth_nd {j : Nat} {u : ByteArray} {k n : Fo} (h : ∃ a b c d, n = .nd a b c d) : dpth (.nd j u k n) = dpth n := by
  obtain ⟨a, b, c, d, rfl⟩ := h
  rfl
theorem sp_nd {e j : Nat} {u : ByteArray} {k n : Fo} (h : ∃ a b c d, n = .nd a b c d) : sp e (.nd j u k n) = sp e n := by
  obtain ⟨a, b, c, d, rfl⟩ := h
  cases e <;> rfl
theorem snoc_dpth (i : Nat) (t : ByteArray) : ∀ (G : Fo) (e : Nat), e ≤ dpth G → dpth (snoc i t e G) = e + 1
  | .nil, e, h => by
    have : e = 0 := by simpa [dpth] using h
    subst this
    rfl
  | .nd j u k .nil, 0, _ => rfl
  | .nd j u k .nil, e + 1, h => by
    show dpth (.nd j u (snoc i t e k) .nil) = _
    show dpth (snoc i t e k) + 1 = _
    rw [snoc_dpth i t k e (by simp only [dpth] at h; omega)]
  | .nd j u k (.nd j2 u2 k2 n2), e, h => by
    have e1 : snoc i t e (.nd j u k (.nd j2 u2 k2 n2)) = .nd j u k (snoc i t e (.nd j2 u2 k2 n2)) := by cases e <;> rfl
    rw [e1, dpth_nd (snoc_ne i t e _)]
    exact snoc_dpth i t (.nd j2 u2 k2 n2) e h
theorem snoc_sp (i : Nat) (t : ByteArray) : ∀ (G : Fo) (e : Nat), e ≤ dpth G → sp e (snoc i t e G) = i ∧ ∀ d, d < e → sp d (snoc i t e G) = sp d G
  | .nil, e, h => by
    have : e = 0 := by simpa [dpth] using h
    subst this
    exact ⟨rfl, fun d hd => by omega⟩
  | .nd j u k .nil, 0, _ => ⟨rfl, fun d hd => by omega⟩
  | .nd j u k .nil, e + 1, h => by
    obtain ⟨h1, h2⟩ := snoc_sp i t k e (by simp only [dpth] at h; omega)
    refine ⟨h1, fun d hd => ?_⟩
    cases d with
    | zero => rfl
    | succ d => exact h2 d (by omega)
  | .nd j u k (.nd j2 u2 k2 n2), e, h => by
    have e1 : snoc i t e (.nd j u k (.nd j2 u2 k2 n2)) = .nd j u k (snoc i t e (.nd j2 u2 k2 n2)) := by cases e <;> rfl
    obtain ⟨h1, h2⟩ := snoc_sp i t (.nd j2 u2 k2 n2) e h
    rw [e1]
    refine ⟨(sp_nd (snoc_ne i t e _)).trans h1, fun d hd => ?_⟩
    rw [sp_nd (snoc_ne i t e _), h2 d hd]
    exact (sp_nd ⟨_, _, _, _, rfl⟩).symm
theorem sp_mem : ∀ (G : Fo) (e : Nat), e < dpth G → sp e G ∈ G.ids
  | .nil, e, h => by simp [dpth] at h
  | .nd j u k .nil, 0, _ => by simp [sp, Fo.ids]
  | .nd j u k .nil, e + 1, h => by
    have := sp_mem k e (by simp only [dpth] at h; omega)
    show sp e k ∈ _
    simp [Fo.ids, this]
  | .nd j u k (.nd j2 u2 k2 n2), e, h => by
    have := sp_mem (.nd j2 u2 k2 n2) e h
    rw [sp_nd ⟨_, _, _, _, rfl⟩]
    show _ ∈ j :: (k.ids ++ (Fo.nd j2 u2 k2 n2).ids)
    simp only [List.mem_cons, List.mem_append]
    exact Or.inr (Or.inr this)
theorem rep_sp {h : Nat → Nd} : ∀ (G : Fo) {up : Nat} (e : Nat), Rep h up G → e < dpth G → (h (sp e G)).up = if e = 0 then up else sp (e - 1) G
  | .nil, up, e, _, hl => by simp [dpth] at hl
  | .nd j u k .nil, up, 0, ⟨h1, h2, h3, h4⟩, _ => by show (h j).up = _; rw [h2]; rfl
  | .nd j u k .nil, up, e + 1, ⟨h1, h2, h3, h4⟩, hl => by
    have := rep_sp k e h3 (by simp only [dpth] at hl; omega)
    show (h (sp e k)).up = _
    rw [this, if_neg (by omega : ¬ e + 1 = 0)]
    cases e with
    | zero => rfl
    | succ e => rfl
  | .nd j u k (.nd j2 u2 k2 n2), up, e, ⟨h1, h2, h3, h4⟩, hl => by
    have := rep_sp (.nd j2 u2 k2 n2) e h4 hl
    rw [sp_nd ⟨_, _, _, _, rfl⟩, sp_nd ⟨_, _, _, _, rfl⟩]
    exact this
theorem reptop_sp {h : Nat → Nd} : ∀ (G : Fo) (e : Nat), RepTop h G → e + 1 < dpth G → (h (sp (e + 1) G)).up = sp e G
  | .nil, e, _, hl => by simp [dpth] at hl
  | .nd j u k .nil, e, ⟨h1, h2, h3, h4⟩, hl => by
    have := rep_sp k e h3 (by simp only [dpth] at hl; omega)
    show (h (sp e k)).up = _
    rw [this]
    cases e with
    | zero => rfl
    | succ e => rfl
  | .nd j u k (.nd j2 u2 k2 n2), e, ⟨h1, h2, h3, h4⟩, hl => by
    have := reptop_sp (.nd j2 u2 k2 n2) e h4 hl
    rw [sp_nd ⟨_, _, _, _, rfl⟩, sp_nd ⟨_, _, _, _, rfl⟩]
    exact this
theorem sp_not_top : ∀ (G : Fo) (e : Nat), G.ids.Nodup → e + 1 < dpth G → sp (e + 1) G ∉ G.tops
  | .nil, e, _, hl => by simp [dpth] at hl
  | .nd j u k .nil, e, hn, hl => by
    obtain ⟨n1, n2, n3, n4, n5⟩ := nodup_nd hn
    have hm := sp_mem k e (by simp only [dpth] at hl; omega)
    show sp e k ∉ [j]
    intro hc
    rw [List.mem_singleton.1 hc] at hm
    exact n1 hm
  | .nd j u k (.nd j2 u2 k2 n2), e, hn, hl => by
    obtain ⟨n1, m2, n3, n4, n5⟩ := nodup_nd hn
    have := sp_not_top (.nd j2 u2 k2 n2) e n4 hl
    have hm := sp_mem (.nd j2 u2 k2 n2) (e + 1) hl
    rw [sp_nd ⟨_, _, _, _, rfl⟩]
    intro hc
    rcases List.mem_cons.1 hc with hc | hc
    · rw [hc] at hm; exact m2 hm
    · exact this hc
/-- A row at the end, behind the last one of its own. -/
theorem snoc_after (i : Nat) (t : ByteArray) : ∀ (G : Fo) (e : Nat), G.ids.Nodup → e < dpth G → snoc i t e G = insAfter (sp e G) i t .nil G
  | .nil, e, _, hl => by simp [dpth] at hl
  | .nd j u k .nil, 0, hn, _ => by
    show Fo.nd j u k (.nd i t .nil .nil) = insAfter j i t .nil (.nd j u k .nil)
    unfold insAfter
    rw [if_pos rfl]
  | .nd j u k .nil, e + 1, hn, hl => by
    obtain ⟨n1, n2, n3, n4, n5⟩ := nodup_nd hn
    have hl' : e < dpth k := by simp only [dpth] at hl; omega
    have hm := sp_mem k e hl'
    show Fo.nd j u (snoc i t e k) .nil = insAfter (sp e k) i t .nil (.nd j u k .nil)
    unfold insAfter
    rw [if_neg (fun (e2 : j = sp e k) => n1 (e2 ▸ hm)), snoc_after i t k e n3 hl']
    rfl
  | .nd j u k (.nd j2 u2 k2 n2), e, hn, hl => by
    obtain ⟨n1, n2', n3, n4, n5⟩ := nodup_nd hn
    have e1 : snoc i t e (.nd j u k (.nd j2 u2 k2 n2)) = .nd j u k (snoc i t e (.nd j2 u2 k2 n2)) := by cases e <;> rfl
    have hm := sp_mem (.nd j2 u2 k2 n2) e hl
    have e2 : sp e (.nd j u k (.nd j2 u2 k2 n2)) = sp e (.nd j2 u2 k2 n2) := sp_nd ⟨_, _, _, _, rfl⟩
    rw [e1, e2, snoc_after i t _ e n4 hl]
    have e3 : insAfter (sp e (.nd j2 u2 k2 n2)) i t .nil (.nd j u k (.nd j2 u2 k2 n2)) = .nd j u (insAfter (sp e (.nd j2 u2 k2 n2)) i t .nil k) (insAfter (sp e (.nd j2 u2 k2 n2)) i t .nil (.nd j2 u2 k2 n2)) := by
      conv => lhs; unfold insAfter
      rw [if_neg (fun (e2 : j = sp e (.nd j2 u2 k2 n2)) => n2' (e2 ▸ hm))]
    rw [e3, insAfter_id _ i t .nil (fun hk => n5 _ hk hm)]
/-- A row at the end, the first one under the last. -/
theorem snoc_first (i : Nat) (t : ByteArray) : ∀ (G : Fo) (e : Nat), G.ids.Nodup → dpth G = e + 1 → snoc i t (e + 1) G = insFirst (sp e G) i t .nil G
  | .nil, e, _, hl => by simp [dpth] at hl
  | .nd j u k .nil, 0, hn, hl => by
    have : dpth k = 0 := by simp only [dpth] at hl; omega
    have hk : k = .nil := by
      cases k with
      | nil => rfl
      | nd a b c d =>
        exfalso
        have : ∀ (F : Fo), dpth F = 0 → F = .nil := by
          intro F
          induction F with
          | nil => intro _; rfl
          | nd a b c d _ ihd =>
            intro h0
            cases d with
            | nil => simp [dpth] at h0
            | nd a2 b2 c2 d2 =>
              have := ihd (by simpa [dpth] using h0)
              cases this
        have h3 := this _ ‹dpth (Fo.nd a b c d) = 0›
        cases h3
    subst hk
    show Fo.nd j u (.nd i t .nil .nil) .nil = insFirst j i t .nil (.nd j u .nil .nil)
    unfold insFirst
    rw [if_pos rfl]
  | .nd j u k .nil, e + 1, hn, hl => by
    obtain ⟨n1, n2, n3, n4, n5⟩ := nodup_nd hn
    have hl' : dpth k = e + 1 := by simp only [dpth] at hl; omega
    have hm := sp_mem k e (by omega)
    show Fo.nd j u (snoc i t (e + 1) k) .nil = insFirst (sp e k) i t .nil (.nd j u k .nil)
    unfold insFirst
    rw [if_neg (fun (e2 : j = sp e k) => n1 (e2 ▸ hm)), snoc_first i t k e n3 hl']
    rfl
  | .nd j u k (.nd j2 u2 k2 n2), e, hn, hl => by
    obtain ⟨n1, n2', n3, n4, n5⟩ := nodup_nd hn
    have e1 : snoc i t (e + 1) (.nd j u k (.nd j2 u2 k2 n2)) = .nd j u k (snoc i t (e + 1) (.nd j2 u2 k2 n2)) := rfl
    have hl' : dpth (.nd j2 u2 k2 n2) = e + 1 := hl
    have hm := sp_mem (.nd j2 u2 k2 n2) e (by omega)
    have e2 : sp e (.nd j u k (.nd j2 u2 k2 n2)) = sp e (.nd j2 u2 k2 n2) := sp_nd ⟨_, _, _, _, rfl⟩
    rw [e1, e2, snoc_first i t _ e n4 hl']
    have e3 : insFirst (sp e (.nd j2 u2 k2 n2)) i t .nil (.nd j u k (.nd j2 u2 k2 n2)) = .nd j u (insFirst (sp e (.nd j2 u2 k2 n2)) i t .nil k) (insFirst (sp e (.nd j2 u2 k2 n2)) i t .nil (.nd j2 u2 k2 n2)) := by
      conv => lhs; unfold insFirst
      rw [if_neg (fun (e2 : j = sp e (.nd j2 u2 k2 n2)) => n2' (e2 ▸ hm))]
    rw [e3, insFirst_id _ i t .nil (fun hk => n5 _ hk hm)]
/-- A root at the end. -/
theorem reptop_snoc0 {h : Nat → Nd} {i : Nat} {t : ByteArray} (h0 : i ≠ 0) (hi : h i = ⟨t, 0, 0, 0⟩) : ∀ (G : Fo), RepTop h G → RepTop h (snoc i t 0 G)
  | .nil, _ => ⟨h0, hi, trivial, trivial⟩
  | .nd j u k .nil, ⟨h1, h2, h3, h4⟩ => ⟨h1, h2, h3, h0, hi, trivial, trivial⟩
  | .nd j u k (.nd j2 u2 k2 n2), ⟨h1, h2, h3, h4⟩ => ⟨h1, h2, h3, reptop_snoc0 h0 hi _ h4⟩
end Go.Proofs.YtkopimbbgckcnaaDoor.FP
set_option linter.unusedVariables false
set_option linter.unusedSimpArgs false
namespace Go.Proofs.YtkopimbbgckcnaaDoor.P
open Go.RowKit Go.Proofs.YtkopimbbgckcnaaDoorW.PrintWords Go.Proofs.YtkopimbbgckcnaaDoorW.PrintLast Go.Proofs.YtkopimbbgckcnaaDoorW.PrintMore Go.Proofs.YtkopimbbgckcnaaDoor.FP
/-- The address of the node that lies in block o. -/
def pa (o : Option Nat) : Option Addr := o.map fun b => ⟨b, 0, none⟩
theorem pa_none : pa none = none := rfl
theorem pa_some (b : Nat) : pa (some b) = some ⟨b, 0, none⟩ := rfl
theorem pa_inj {o o' : Option Nat} (h : pa o = pa o') : o = o' := by
  cases o <;> cases o' <;> simp [pa] at h ⊢
  exact h
/-- A node's cells. -/
def nodeC (A : Nat → Option Nat) (i : Nat) (x : Nd) : Array Value := #[.int .i64 (i : Int), .string x.t, .pointer (pa (A x.up)), .pointer (pa (A x.first)), .pointer (pa (A x.next))]
def tabC (A : Nat → Option Nat) : Array Value := ((List.range 37).map fun i => Value.pointer (pa (A i))).toArray
/-- Block F is the table; A: where each row's node lies; h: what it holds. All of it lies from n0 on. -/
structure Mem (w : World) (n0 F : Nat) (A : Nat → Option Nat) (h : Nat → Nd) : Prop where
  z : A 0 = none
  rng : ∀ i b, A i = some b → i < 37
  inj : ∀ i j b, A i = some b → A j = some b → i = j
  ne : ∀ i b, A i = some b → b ≠ F
  lo : ∀ i b, A i = some b → n0 ≤ b
  loF : n0 ≤ F
  tab : w.heap[F]? = some (.cells (tabC A) 95 (0, 0))
  nod : ∀ i b, A i = some b → w.heap[b]? = some (.cells (nodeC A i (h i)) 80 (0, 0))
  cu : ∀ i, A i ≠ none → (h i).up = 0 ∨ A (h i).up ≠ none
  cf : ∀ i, A i ≠ none → (h i).first = 0 ∨ A (h i).first ≠ none
  cn : ∀ i, A i ≠ none → (h i).next = 0 ∨ A (h i).next ≠ none
theorem Mem.kept {w w' : World} {n0 F : Nat} {A : Nat → Option Nat} {h : Nat → Nd} (m : Mem w n0 F A h) (hk : ∀ b, b < w.heap.size → w'.heap[b]? = w.heap[b]?) : Mem w' n0 F A h :=
  { m with tab := (hk F (blk_lt m.tab)).trans m.tab, nod := fun i b e => (hk b (blk_lt (m.nod i b e))).trans (m.nod i b e) }
theorem Mem.below {w w' : World} {n0 F : Nat} {A : Nat → Option Nat} {h : Nat → Nd} (m : Mem w n0 F A h) (hb : Below w.heap.size w w') : Mem w' n0 F A h := m.kept fun b hl => hb.block b hl
theorem Mem.alloc {w : World} {n0 F : Nat} {A : Nat → Option Nat} {h : Nat → Nd} (m : Mem w n0 F A h) (o : Obj) : Mem (w.alloc o) n0 F A h := m.kept fun b hl => Below.heap_alloc w o b hl
theorem Mem.drew {w : World} {n0 F : Nat} {A : Nat → Option Nat} {h : Nat → Nd} (m : Mem w n0 F A h) : Mem w.drew n0 F A h := m.kept fun _ _ => rfl
theorem Mem.drewN {w : World} {n0 F : Nat} {A : Nat → Option Nat} {h : Nat → Nd} (m : Mem w n0 F A h) (n : Nat) : Mem (w.drewN n) n0 F A h := m.kept fun _ _ => rfl
theorem Mem.lt {w : World} {n0 F : Nat} {A : Nat → Option Nat} {h : Nat → Nd} (m : Mem w n0 F A h) {i b : Nat} (e : A i = some b) : b < w.heap.size := blk_lt (m.nod i b e)
theorem Mem.ltF {w : World} {n0 F : Nat} {A : Nat → Option Nat} {h : Nat → Nd} (m : Mem w n0 F A h) : F < w.heap.size := blk_lt m.tab
/-- A node's cells, one by one. -/
theorem Mem.c0 {w : World} {n0 F : Nat} {A : Nat → Option Nat} {h : Nat → Nd} (m : Mem w n0 F A h) {i b : Nat} (e : A i = some b) : w.cell? ⟨b, 0, none⟩ = some (.int .i64 (i : Int)) := (blk_cell (m.nod i b e) 0).trans rfl
theorem Mem.c1 {w : World} {n0 F : Nat} {A : Nat → Option Nat} {h : Nat → Nd} (m : Mem w n0 F A h) {i b : Nat} (e : A i = some b) : w.cell? ⟨b, 1, none⟩ = some (.string (h i).t) := (blk_cell (m.nod i b e) 1).trans rfl
theorem Mem.c2 {w : World} {n0 F : Nat} {A : Nat → Option Nat} {h : Nat → Nd} (m : Mem w n0 F A h) {i b : Nat} (e : A i = some b) : w.cell? ⟨b, 2, none⟩ = some (.pointer (pa (A (h i).up))) := (blk_cell (m.nod i b e) 2).trans rfl
theorem Mem.c3 {w : World} {n0 F : Nat} {A : Nat → Option Nat} {h : Nat → Nd} (m : Mem w n0 F A h) {i b : Nat} (e : A i = some b) : w.cell? ⟨b, 3, none⟩ = some (.pointer (pa (A (h i).first))) := (blk_cell (m.nod i b e) 3).trans rfl
theorem Mem.c4 {w : World} {n0 F : Nat} {A : Nat → Option Nat} {h : Nat → Nd} (m : Mem w n0 F A h) {i b : Nat} (e : A i = some b) : w.cell? ⟨b, 4, none⟩ = some (.pointer (pa (A (h i).next))) := (blk_cell (m.nod i b e) 4).trans rfl
theorem Mem.fz {w : World} {n0 F : Nat} {A : Nat → Option Nat} {h : Nat → Nd} (m : Mem w n0 F A h) {i b : Nat} (e : A i = some b) (j : Nat) : w.frozen? ⟨b, j, none⟩ = false := blk_frozen (m.nod i b e) j
theorem Mem.fzF {w : World} {n0 F : Nat} {A : Nat → Option Nat} {h : Nat → Nd} (m : Mem w n0 F A h) (j : Nat) : w.frozen? ⟨F, j, none⟩ = false := blk_frozen m.tab j
theorem tabC_get (A : Nat → Option Nat) (i : Nat) (hi : i < 37) : (tabC A)[i]? = some (.pointer (pa (A i))) := by
  simp [tabC, hi]
theorem Mem.cF {w : World} {n0 F : Nat} {A : Nat → Option Nat} {h : Nat → Nd} (m : Mem w n0 F A h) (i : Nat) (hi : i < 37) : w.cell? ⟨F, i, none⟩ = some (.pointer (pa (A i))) := (blk_cell m.tab i).trans (tabC_get A i hi)
/-- Two nodes' addresses are one just where the nodes are. -/
theorem Mem.eqv {w : World} {n0 F : Nat} {A : Nat → Option Nat} {h : Nat → Nd} (m : Mem w n0 F A h) {i j : Nat} (hi : i = 0 ∨ A i ≠ none) (hj : j = 0 ∨ A j ≠ none) : pa (A i) = pa (A j) ↔ i = j := by
  constructor
  · intro e
    have e := pa_inj e
    rcases hi with rfl | hi
    · rcases hj with rfl | hj
      · rfl
      · rw [m.z] at e; exact absurd e.symm hj
    · obtain ⟨b, hb⟩ := Option.ne_none_iff_exists'.1 hi
      exact m.inj i j b hb (e ▸ hb)
  · intro e; rw [e]
/-- A field of node i is set anew. -/
def upN (h : Nat → Nd) (i : Nat) (x : Nd) : Nat → Nd := fun j => if j = i then x else h j
theorem Mem.set {w : World} {n0 F : Nat} {A : Nat → Option Nat} {h : Nat → Nd} (m : Mem w n0 F A h) {i b : Nat} (e : A i = some b) (k : Nat) (v : Value) (x : Nd) (hx : (nodeC A i (h i)).setIfInBounds k v = nodeC A i x)
    (xu : x.up = 0 ∨ A x.up ≠ none) (xf : x.first = 0 ∨ A x.first ≠ none) (xn : x.next = 0 ∨ A x.next ≠ none) : Mem (w.setCell ⟨b, k, none⟩ v) n0 F A (upN h i x) where
  z := m.z
  rng := m.rng
  inj := m.inj
  ne := m.ne
  lo := m.lo
  loF := m.loF
  tab := blk_far m.tab (fun e2 => m.ne i b e e2.symm) v
  nod := fun j c ec => by
    unfold upN
    by_cases hj : j = i
    · subst hj
      obtain rfl : c = b := by rw [e] at ec; exact (Option.some.inj ec).symm
      rw [if_pos rfl, ← hx]
      exact blk_set (m.nod j c e) k v
    · rw [if_neg hj]
      exact blk_far (m.nod j c ec) (fun (e2 : c = b) => hj (m.inj j i c ec (e2 ▸ e))) v
  cu := fun j hj => by unfold upN; split; exact xu; exact m.cu j hj
  cf := fun j hj => by unfold upN; split; exact xf; exact m.cf j hj
  cn := fun j hj => by unfold upN; split; exact xn; exact m.cn j hj
theorem Mem.ext {w : World} {n0 F : Nat} {A : Nat → Option Nat} {h h' : Nat → Nd} (m : Mem w n0 F A h) (e : ∀ j, h j = h' j) : Mem w n0 F A h' := (funext e : h = h') ▸ m
/-- A new node in a block of its own, put into the table. -/
def upA (A : Nat → Option Nat) (i b : Nat) : Nat → Option Nat := fun j => if j = i then some b else A j
theorem tabC_up (A : Nat → Option Nat) (i b : Nat) (hi : i < 37) : (tabC A).setIfInBounds i (.pointer (some ⟨b, 0, none⟩)) = tabC (upA A i b) := by
  unfold tabC
  rw [List.setIfInBounds_toArray]
  congr 1
  apply List.ext_getElem (by simp)
  intro k h1 h2
  simp only [List.getElem_set, List.getElem_map, List.getElem_range, upA]
  by_cases hk : i = k
  · rw [if_pos hk, if_pos hk.symm]; rfl
  · rw [if_neg hk, if_neg (fun e => hk e.symm)]
theorem Mem.add {w : World} {n0 F : Nat} {A : Nat → Option Nat} {h : Nat → Nd} (m : Mem w n0 F A h) {i : Nat} (h0 : i ≠ 0) (hi : i < 37) (hA : A i = none) (hne : ∀ j, A j ≠ none → (h j).up ≠ i ∧ (h j).first ≠ i ∧ (h j).next ≠ i) {b : Nat} {t : ByteArray} (hb : ∀ j, A j ≠ some b) (hbF : b ≠ F) (hlo : n0 ≤ b)
    (hnew : w.heap[b]? = some (.cells #[.int .i64 (i : Int), .string t, .pointer none, .pointer none, .pointer none] 80 (0, 0))) :
    Mem (w.setCell ⟨F, i, none⟩ (.pointer (some ⟨b, 0, none⟩))) n0 F (upA A i b) (upN h i ⟨t, 0, 0, 0⟩) where
  z := by unfold upA; rw [if_neg (fun e => h0 e.symm)]; exact m.z
  rng := fun j c e => by
    unfold upA at e
    by_cases hj : j = i
    · rw [hj]; exact hi
    · rw [if_neg hj] at e; exact m.rng j c e
  inj := fun j k c ej ek => by
    unfold upA at ej ek
    by_cases hj : j = i
    · by_cases hk : k = i
      · rw [hj, hk]
      · rw [if_pos hj] at ej; rw [if_neg hk] at ek
        exact absurd (ek.trans ej.symm) (hb k)
    · by_cases hk : k = i
      · rw [if_neg hj] at ej; rw [if_pos hk] at ek
        exact absurd (ej.trans ek.symm) (hb j)
      · rw [if_neg hj] at ej; rw [if_neg hk] at ek
        exact m.inj j k c ej ek
  ne := fun j c e => by
    unfold upA at e
    by_cases hj : j = i
    · rw [if_pos hj] at e; rw [← Option.some.inj e]; exact hbF
    · rw [if_neg hj] at e; exact m.ne j c e
  lo := fun j c e => by
    unfold upA at e
    by_cases hj : j = i
    · rw [if_pos hj] at e; rw [← Option.some.inj e]; exact hlo
    · rw [if_neg hj] at e; exact m.lo j c e
  loF := m.loF
  tab := by
    rw [← tabC_up A i b hi]
    exact blk_set m.tab i _
  nod := fun j c e => by
    have hF : ∀ {c : Nat} {cs : Array Value} {t : TypeId}, c ≠ F → w.heap[c]? = some (.cells cs t (0, 0)) → (w.setCell ⟨F, i, none⟩ (.pointer (some ⟨b, 0, none⟩))).heap[c]? = some (.cells cs t (0, 0)) := fun hc hh => blk_far hh (p := ⟨F, i, none⟩) hc _
    unfold upA at e
    by_cases hj : j = i
    · rw [if_pos hj] at e
      obtain rfl := Option.some.inj e
      subst hj
      have : nodeC (upA A j b) j (upN h j ⟨t, 0, 0, 0⟩ j) = #[.int .i64 (j : Int), .string t, .pointer none, .pointer none, .pointer none] := by
        have h0' : ¬ (0 = j) := fun e => h0 e.symm
        simp [nodeC, upN, upA, h0', m.z, pa]
      rw [this]
      exact hF hbF hnew
    · rw [if_neg hj] at e
      have hn := m.nod j c e
      have e2 : nodeC (upA A i b) j (upN h i ⟨t, 0, 0, 0⟩ j) = nodeC A j (h j) := by
        obtain ⟨n1, n2, n3⟩ := hne j (by rw [e]; simp)
        unfold nodeC upN upA
        rw [if_neg hj, if_neg n1, if_neg n2, if_neg n3]
      rw [e2]
      exact hF (m.ne j c e) hn
  cu := fun j hj => by
    unfold upN
    by_cases hji : j = i
    · rw [if_pos hji]; exact Or.inl rfl
    · rw [if_neg hji]
      have hj' : A j ≠ none := by unfold upA at hj; rw [if_neg hji] at hj; exact hj
      rcases m.cu j hj' with h1 | h1
      · exact Or.inl h1
      · right; unfold upA; split; simp; exact h1
  cf := fun j hj => by
    unfold upN
    by_cases hji : j = i
    · rw [if_pos hji]; exact Or.inl rfl
    · rw [if_neg hji]
      have hj' : A j ≠ none := by unfold upA at hj; rw [if_neg hji] at hj; exact hj
      rcases m.cf j hj' with h1 | h1
      · exact Or.inl h1
      · right; unfold upA; split; simp; exact h1
  cn := fun j hj => by
    unfold upN
    by_cases hji : j = i
    · rw [if_pos hji]; exact Or.inl rfl
    · rw [if_neg hji]
      have hj' : A j ≠ none := by unfold upA at hj; rw [if_neg hji] at hj; exact hj
      rcases m.cn j hj' with h1 | h1
      · exact Or.inl h1
      · right; unfold upA; split; simp; exact h1
end Go.Proofs.YtkopimbbgckcnaaDoor.P
set_option linter.unusedVariables false
set_option linter.unusedSimpArgs false
namespace Go.Proofs.YtkopimbbgckcnaaDoor.P
open Go.RowKit Go.Proofs.YtkopimbbgckcnaaDoorW.PrintWords Go.Proofs.YtkopimbbgckcnaaDoorW.PrintLast Go.Proofs.YtkopimbbgckcnaaDoorW.PrintMore Go.Proofs.YtkopimbbgckcnaaDoor.FP
theorem nodeSize : (Tryd.prog.info? 80).map (·.size) = some 5 := by kernel_rfl
theorem equalS (a : Addr) (w : World) : (Op.equal 74 (.pointer (some a)) (.pointer (some a))).run Tryd.prog w = .ok true w := by
  obtain ⟨j, hj, hjs⟩ := Option.map_eq_some_iff.1 nodeSize
  have h : ∀ d : Nat, (Op.equalIn (d + 1) 74 (.pointer (some a)) (.pointer (some a))).run Tryd.prog w = .ok true w := fun d => by
    simp [Op.equalIn, run_underlying Tryd.underlying74, sizeOf, typeInfo, hj, run_sameAddr_same]
  simp [Op.equal, Op.maxDepth, h 9999]
theorem equalO {a b : Addr} {ca cb : Array Value} {ta tb : TypeId} (w : World) (hne : a ≠ b) (ha : w.heap[a.block]? = some (.cells ca ta (0, 0))) (hb : w.heap[b.block]? = some (.cells cb tb (0, 0))) :
    (Op.equal 74 (.pointer (some a)) (.pointer (some b))).run Tryd.prog w = .ok false w := by
  obtain ⟨j, hj, hjs⟩ := Option.map_eq_some_iff.1 nodeSize
  have hsz : j.size ≠ 0 := by rw [hjs]; decide
  have h : ∀ d : Nat, (Op.equalIn (d + 1) 74 (.pointer (some a)) (.pointer (some b))).run Tryd.prog w = .ok false w := fun d => by
    simp [Op.equalIn, run_underlying Tryd.underlying74, sizeOf, typeInfo, hj, hsz, run_sameAddr_other w hne ha hb]
  simp [Op.equal, Op.maxDepth, h 9999]
theorem eqS (a : Addr) (w : World) : (binOp .eql 74 (.pointer (some a)) (.pointer (some a))).run Tryd.prog w = .ok (.bool true) w := by
  simp only [binOp]; simp [equalS]
theorem neS (a : Addr) (w : World) : (binOp .neq 74 (.pointer (some a)) (.pointer (some a))).run Tryd.prog w = .ok (.bool false) w := by
  simp only [binOp]; simp [equalS]
theorem eqO {a b : Addr} {ca cb : Array Value} {ta tb : TypeId} (w : World) (hne : a ≠ b) (ha : w.heap[a.block]? = some (.cells ca ta (0, 0))) (hb : w.heap[b.block]? = some (.cells cb tb (0, 0))) :
    (binOp .eql 74 (.pointer (some a)) (.pointer (some b))).run Tryd.prog w = .ok (.bool false) w := by
  simp only [binOp]; simp [equalO w hne ha hb]
theorem neO {a b : Addr} {ca cb : Array Value} {ta tb : TypeId} (w : World) (hne : a ≠ b) (ha : w.heap[a.block]? = some (.cells ca ta (0, 0))) (hb : w.heap[b.block]? = some (.cells cb tb (0, 0))) :
    (binOp .neq 74 (.pointer (some a)) (.pointer (some b))).run Tryd.prog w = .ok (.bool true) w := by
  simp only [binOp]; simp [equalO w hne ha hb]
theorem blk_ne {b c : Nat} (h : b ≠ c) : (⟨b, 0, none⟩ : Addr) ≠ ⟨c, 0, none⟩ := fun e => h (congrArg Addr.block e)
/-- Two nodes that are not the same, compared. -/
theorem Mem.eqn {w : World} {n0 F : Nat} {A : Nat → Option Nat} {h : Nat → Nd} (m : Mem w n0 F A h) {i j b c : Nat} (hi : A i = some b) (hj : A j = some c) (hne : i ≠ j) : (binOp .eql 74 (.pointer (some ⟨b, 0, none⟩)) (.pointer (some ⟨c, 0, none⟩))).run Tryd.prog w = .ok (.bool false) w :=
  eqO w (blk_ne fun e => hne (m.inj i j b hi (e ▸ hj))) (m.nod i b hi) (m.nod j c hj)
theorem Mem.nen {w : World} {n0 F : Nat} {A : Nat → Option Nat} {h : Nat → Nd} (m : Mem w n0 F A h) {i j b c : Nat} (hi : A i = some b) (hj : A j = some c) (hne : i ≠ j) : (binOp .neq 74 (.pointer (some ⟨b, 0, none⟩)) (.pointer (some ⟨c, 0, none⟩))).run Tryd.prog w = .ok (.bool true) w :=
  neO w (blk_ne fun e => hne (m.inj i j b hi (e ▸ hj))) (m.nod i b hi) (m.nod j c hj)
def findA (A : Nat → Option Nat) (id : Int) : Option Nat := if 0 ≤ id ∧ id < 37 then A id.toNat else none
theorem find_any {w : World} {n0 F : Nat} {A : Nat → Option Nat} {h : Nat → Nd} (m : Mem w n0 F A h) (id : Int) :
    Calls Tryd.prog 55 #[.pointer (some ⟨F, 0, none⟩), .int .i64 id] w fun e w' => e = .returned (.pointer (pa (findA A id))) ∧ w' = w := by
  unfold findA
  by_cases h0 : id < 0
  · rw [if_neg (by omega)]
    have hd : decide (id < 0) = true := decide_eq_true h0
    go_enter Tryd.func55, Tryd.ntmps55
    go_wp2
    go_ret
    exact ⟨rfl, rfl⟩
  · by_cases h1 : 37 ≤ id
    · rw [if_neg (by omega)]
      have hd : decide (id < 0) = false := decide_eq_false h0
      have hd1 : decide (37 ≤ id) = true := decide_eq_true h1
      go_enter Tryd.func55, Tryd.ntmps55
      go_wp2
      go_ret
      exact ⟨rfl, rfl⟩
    · rw [if_pos (by omega)]
      obtain ⟨i, rfl⟩ := Int.eq_ofNat_of_zero_le (show 0 ≤ id by omega)
      have hd : decide ((i : Int) < 0) = false := decide_eq_false h0
      have hd1 : decide (37 ≤ (i : Int)) = false := decide_eq_false h1
      have hc := m.cF i (by omega)
      have hi : (i : Int) < 37 := by omega
      have hi0 : 0 ≤ (i : Int) := by omega
      rw [Int.toNat_natCast]
      go_enter Tryd.func55, Tryd.ntmps55
      go_wp2
      go_ret
      exact ⟨rfl, rfl⟩
theorem nodeC_2 (A : Nat → Option Nat) (i : Nat) (x : Nd) (u : Nat) : (nodeC A i x).setIfInBounds 2 (.pointer (pa (A u))) = nodeC A i ⟨x.t, u, x.first, x.next⟩ := rfl
theorem nodeC_3 (A : Nat → Option Nat) (i : Nat) (x : Nd) (u : Nat) : (nodeC A i x).setIfInBounds 3 (.pointer (pa (A u))) = nodeC A i ⟨x.t, x.up, u, x.next⟩ := rfl
theorem nodeC_4 (A : Nat → Option Nat) (i : Nat) (x : Nd) (u : Nat) : (nodeC A i x).setIfInBounds 4 (.pointer (pa (A u))) = nodeC A i ⟨x.t, x.up, x.first, u⟩ := rfl
theorem nodeC_1 (A : Nat → Option Nat) (i : Nat) (x : Nd) (t : ByteArray) : (nodeC A i x).setIfInBounds 1 (.string t) = nodeC A i ⟨t, x.up, x.first, x.next⟩ := rfl
theorem Mem.setU {w : World} {n0 F : Nat} {A : Nat → Option Nat} {h : Nat → Nd} (m : Mem w n0 F A h) {i b : Nat} (e : A i = some b) (u : Nat) (hu : u = 0 ∨ A u ≠ none) : Mem (w.setCell ⟨b, 2, none⟩ (.pointer (pa (A u)))) n0 F A (upN h i ⟨(h i).t, u, (h i).first, (h i).next⟩) :=
  m.set e 2 _ _ (nodeC_2 A i (h i) u) hu (m.cf i (by rw [e]; simp)) (m.cn i (by rw [e]; simp))
theorem Mem.setF {w : World} {n0 F : Nat} {A : Nat → Option Nat} {h : Nat → Nd} (m : Mem w n0 F A h) {i b : Nat} (e : A i = some b) (u : Nat) (hu : u = 0 ∨ A u ≠ none) : Mem (w.setCell ⟨b, 3, none⟩ (.pointer (pa (A u)))) n0 F A (upN h i ⟨(h i).t, (h i).up, u, (h i).next⟩) :=
  m.set e 3 _ _ (nodeC_3 A i (h i) u) (m.cu i (by rw [e]; simp)) hu (m.cn i (by rw [e]; simp))
theorem Mem.setN {w : World} {n0 F : Nat} {A : Nat → Option Nat} {h : Nat → Nd} (m : Mem w n0 F A h) {i b : Nat} (e : A i = some b) (u : Nat) (hu : u = 0 ∨ A u ≠ none) : Mem (w.setCell ⟨b, 4, none⟩ (.pointer (pa (A u)))) n0 F A (upN h i ⟨(h i).t, (h i).up, (h i).first, u⟩) :=
  m.set e 4 _ _ (nodeC_4 A i (h i) u) (m.cu i (by rw [e]; simp)) (m.cf i (by rw [e]; simp)) hu
theorem Mem.setT {w : World} {n0 F : Nat} {A : Nat → Option Nat} {h : Nat → Nd} (m : Mem w n0 F A h) {i b : Nat} (e : A i = some b) (t : ByteArray) : Mem (w.setCell ⟨b, 1, none⟩ (.string t)) n0 F A (upN h i ⟨t, (h i).up, (h i).first, (h i).next⟩) :=
  m.set e 1 _ _ (nodeC_1 A i (h i) t) (m.cu i (by rw [e]; simp)) (m.cf i (by rw [e]; simp)) (m.cn i (by rw [e]; simp))
theorem attach_first {w : World} {n0 F : Nat} {A : Nat → Option Nat} {h : Nat → Nd} (m : Mem w n0 F A h) {i u bi bu : Nat} (hi : A i = some bi) (hu : A u = some bu) (hne : u ≠ i) :
    Calls Tryd.prog 67 #[.pointer (some ⟨bi, 0, none⟩), .pointer (some ⟨bu, 0, none⟩), .pointer none] w fun e w' => (∃ v, e = .returned v) ∧ Mem w' n0 F A (attachH h i u 0) ∧ Below n0 w w' ∧ (∀ k, (∀ x, A x ≠ some k) → w'.heap[k]? = w.heap[k]?) := by
  have hnb : bu ≠ bi := fun e => hne (m.inj u i bu hu (e ▸ hi))
  have hnb' : bi ≠ bu := fun e => hnb e.symm
  have c3 := m.c3 hu
  have c4 := m.c4 hi
  have c2 := m.c2 hi
  have z2 := m.fz hi 2
  have z4 := m.fz hi 4
  have z3 := m.fz hu 3
  have M3 := Aside0.mk (((m.setU hi u (Or.inr (by rw [hu]; simp))).setN hi (h u).first (m.cf u (by rw [hu]; simp))).setF hu i (Or.inr (by rw [hi]; simp)))
  rw [hu, hi, pa_some, pa_some] at M3
  have L1 := m.lo i bi hi
  have L2 := m.lo u bu hu
  have HI := Aside0.mk hi
  have HU := Aside0.mk hu
  clear m hi hu
  go_enter Tryd.func67, Tryd.ntmps67
  go_wp2
  refine bodyPost_ret (results_none rfl _ _ _) rfl ?_
  refine ⟨⟨_, rfl⟩, M3.out.ext (fun j => ?_), (((Below.refl n0 w).setCell (p := ⟨bi, 2, none⟩) L1 _).setCell (p := ⟨bi, 4, none⟩) L1 _).setCell (p := ⟨bu, 3, none⟩) L2 _, fun k hk => by
    rw [Below.heap_setCell _ _ _ _ (fun e => hk u (by rw [HU.out, e])), Below.heap_setCell _ _ _ _ (fun e => hk i (by rw [HI.out, e])), Below.heap_setCell _ _ _ _ (fun e => hk i (by rw [HI.out, e]))]⟩
  unfold attachH upN
  by_cases e1 : j = u
  · subst e1; simp [hne]
  · by_cases e2 : j = i
    · subst e2; simp [e1]
    · simp [e1, e2]
theorem attach_behind {w : World} {n0 F : Nat} {A : Nat → Option Nat} {h : Nat → Nd} (m : Mem w n0 F A h) {i u a bi bu ba : Nat} (hi : A i = some bi) (hu : A u = some bu) (ha : A a = some ba) (hne : a ≠ i) :
    Calls Tryd.prog 67 #[.pointer (some ⟨bi, 0, none⟩), .pointer (some ⟨bu, 0, none⟩), .pointer (some ⟨ba, 0, none⟩)] w fun e w' => (∃ v, e = .returned v) ∧ Mem w' n0 F A (attachH h i u a) ∧ Below n0 w w' ∧ (∀ k, (∀ x, A x ≠ some k) → w'.heap[k]? = w.heap[k]?) := by
  have hnb : ba ≠ bi := fun e => hne (m.inj a i ba ha (e ▸ hi))
  have hnb' : bi ≠ ba := fun e => hnb e.symm
  have ha0 : a ≠ 0 := fun e => by rw [e, m.z] at ha; cases ha
  have c4 := m.c4 hi
  have c2 := m.c2 hi
  have d4 := m.c4 ha
  have z2 := m.fz hi 2
  have z4 := m.fz hi 4
  have z3 := m.fz ha 4
  have M3 := Aside0.mk (((m.setU hi u (Or.inr (by rw [hu]; simp))).setN hi (h a).next (m.cn a (by rw [ha]; simp))).setN ha i (Or.inr (by rw [hi]; simp)))
  rw [hu, hi, pa_some, pa_some] at M3
  have L1 := m.lo i bi hi
  have L2 := m.lo a ba ha
  have HI := Aside0.mk hi
  have HA := Aside0.mk ha
  clear m hi hu ha
  go_enter Tryd.func67, Tryd.ntmps67
  go_wp2
  go_end0
  refine ⟨⟨_, rfl⟩, M3.out.ext (fun j => ?_), (((Below.refl n0 w).setCell (p := ⟨bi, 2, none⟩) L1 _).setCell (p := ⟨bi, 4, none⟩) L1 _).setCell (p := ⟨ba, 4, none⟩) L2 _, fun k hk => by
    rw [Below.heap_setCell _ _ _ _ (fun e => hk a (by rw [HA.out, e])), Below.heap_setCell _ _ _ _ (fun e => hk i (by rw [HI.out, e])), Below.heap_setCell _ _ _ _ (fun e => hk i (by rw [HI.out, e]))]⟩
  unfold attachH upN
  rw [if_neg ha0]
  by_cases e1 : j = a
  · subst e1; simp [hne]
  · by_cases e2 : j = i
    · subst e2; simp [e1]
    · simp [e1, e2]
/-- What stands over x, by the links, x itself with it: 'under' is met within k steps. -/
def withinF (h : Nat → Nd) (u : Nat) : Nat → Nat → Option Bool
  | 0, _ => none
  | k + 1, x => if x = 0 then some false else if x = u then some true else withinF h u k (h x).up
set_option maxRecDepth 100000 in
set_option maxHeartbeats 1000000 in
theorem within_any {w : World} {n0 F : Nat} {A : Nat → Option Nat} {h : Nat → Nd} (m : Mem w n0 F A h) (x u : Nat) (hx : x = 0 ∨ A x ≠ none) {c : Nat} (hu : A u = some c) (k : Nat) (r : Bool) (hr : withinF h u k x = some r) :
    Calls Tryd.prog 59 #[.pointer (pa (A x)), .pointer (some ⟨c, 0, none⟩)] w fun e w' => e = .returned (.bool r) ∧ w' = w := by
  have HX := Aside0.mk hx
  have HR := Aside0.mk hr
  have M := Aside0.mk m
  have HU := Aside0.mk hu
  clear hx hr m hu
  go_enter Tryd.func59, Tryd.ntmps59
  go_wp2
  go_loopg [0] k (fun kq v w' => ∃ y : Nat, v = .pointer (pa (A y)) ∧ Aside0 (y = 0 ∨ A y ≠ none) ∧ Aside0 (withinF h u kq y = some r) ∧ w' = w)
  case atStart => exact ⟨x, rfl, HX, HR, rfl⟩
  case round =>
    obtain ⟨y, rfl, HY, HQ, rfl⟩ := hrel
    clear HX HR
    cases gk with
    | zero => exact absurd HQ.out (by simp [withinF])
    | succ k1 =>
      have hq := HQ.out
      clear HQ
      unfold withinF at hq
      by_cases hy0 : y = 0
      · rw [if_pos hy0] at hq
        obtain rfl := Option.some.inj hq
        subst hy0
        have hz := M.out.z
        rw [hz, pa_none]
        clear hq hz HY
        go_wp2
        go_ret
        exact ⟨rfl, rfl⟩
      · rw [if_neg hy0] at hq
        obtain ⟨b, hb⟩ := Option.ne_none_iff_exists'.1 (HY.out.resolve_left hy0)
        have HB := Aside0.mk hb
        have HC := HU
        clear hb
        by_cases hyu : y = u
        · rw [if_pos hyu] at hq
          obtain rfl := Option.some.inj hq
          subst hyu
          obtain rfl : b = c := Option.some.inj (HB.out.symm.trans HC.out)
          rw [HB.out, pa_some]
          have hE := eqS ⟨b, 0, none⟩ wr
          clear hq
          go_wp2
          go_ret
          exact ⟨rfl, rfl⟩
        · rw [if_neg hyu] at hq
          have hbc : b ≠ c := fun e => hyu (M.out.inj y u b HB.out (e ▸ HC.out))
          have c2 := M.out.c2 HB.out
          have HQ := Aside0.mk hq
          have HUP := Aside0.mk (M.out.cu y (by rw [HB.out]; simp))
          have hE := M.out.eqn HB.out HC.out hyu
          rw [HB.out, pa_some]
          clear hq
          go_wp2
          go_roundg k1
          case measure => exact Nat.lt_succ_self _
          case rel => exact ⟨(h y).up, rfl, HUP, HQ, rfl⟩
end Go.Proofs.YtkopimbbgckcnaaDoor.P
set_option linter.unusedVariables false
set_option linter.unusedSimpArgs false
namespace Go.Proofs.YtkopimbbgckcnaaDoor.P
open Go.RowKit Go.Shelf Go.Proofs.YtkopimbbgckcnaaDoorW.PrintWords Go.Proofs.YtkopimbbgckcnaaDoorW.PrintLast Go.Proofs.YtkopimbbgckcnaaDoorW.PrintMore Go.Proofs.YtkopimbbgckcnaaDoor.FP
attribute [local go_sem] Oper.semAt_some

/-- From p on the nodes xs follow each other by their 'next'; all lie below n0. -/
def NList (A : Nat → Option Nat) (n0 : Nat) (W : World) : Option Addr → List Nat → Prop
  | p, [] => p = none
  | p, x :: rest => ∃ b q, A x = some b ∧ p = some ⟨b, 0, none⟩ ∧ b < n0 ∧ W.cell? ⟨b, 4, none⟩ = some (.pointer q) ∧ NList A n0 W q rest
theorem NList.below {A : Nat → Option Nat} {n0 : Nat} {V W : World} (h : Below n0 V W) : ∀ {p : Option Addr} {xs : List Nat}, NList A n0 V p xs → NList A n0 W p xs
  | _, [], hl => hl
  | _, _ :: _, ⟨b, q, h1, h2, h3, h4, h5⟩ => ⟨b, q, h1, h2, h3, (h.cell (p := ⟨b, 4, none⟩) h3).trans h4, NList.below h h5⟩
theorem NList.len {A : Nat → Option Nat} {n0 : Nat} {W : World} : ∀ {xs ys : List Nat} {p : Option Addr}, NList A n0 W p xs → NList A n0 W p ys → xs.length = ys.length
  | [], [], _, _, _ => rfl
  | [], _ :: _, _, h, ⟨b, q, _, h2, _⟩ => by rw [show _ = none from h] at h2; cases h2
  | _ :: _, [], _, ⟨b, q, _, h2, _⟩, h => by rw [show _ = none from h] at h2; cases h2
  | _ :: _, _ :: _, _, ⟨b, q, h1, h2, h3, h4, h5⟩, ⟨c, r, g1, g2, g3, g4, g5⟩ => by
    rw [h2] at g2
    obtain rfl : b = c := congrArg Addr.block (Option.some.inj g2)
    rw [h4] at g4
    obtain rfl : q = r := by injection g4 with e; injection e
    rw [List.length_cons, List.length_cons, NList.len h5 g5]
open Classical in
noncomputable def nleft (A : Nat → Option Nat) (n0 : Nat) (W : World) (v : Value) : Nat :=
  if h : ∃ r : Option Addr × List Nat, v = .pointer r.1 ∧ NList A n0 W r.1 r.2 then (Classical.choose h).2.length else 0
theorem nleft_eq {A : Nat → Option Nat} {n0 : Nat} {W : World} {q : Option Addr} {xs : List Nat} (h : NList A n0 W q xs) : nleft A n0 W (.pointer q) = xs.length := by
  have hex : ∃ r : Option Addr × List Nat, Value.pointer q = .pointer r.1 ∧ NList A n0 W r.1 r.2 := ⟨(q, xs), rfl, h⟩
  unfold nleft
  rw [dif_pos hex]
  obtain ⟨e, hl⟩ := Classical.choose_spec hex
  have e' : q = (Classical.choose hex).1 := by simpa using e
  rw [← e'] at hl
  exact NList.len hl h
/-- What an outline in memory says of a node's children. -/
theorem nlist_of {w : World} {n0 F : Nat} {A : Nat → Option Nat} {h : Nat → Nd} (m : Mem w n0 F A h) {up : Nat} : ∀ {G : Fo}, Rep h up G → (∀ x ∈ G.ids, A x ≠ none) → NList A w.heap.size w (pa (A G.hd)) G.tops
  | .nil, _, _ => by show pa (A 0) = none; rw [m.z]; rfl
  | .nd i t k n, ⟨h1, h2, h3, h4⟩, hA => by
    obtain ⟨b, hb⟩ := Option.ne_none_iff_exists'.1 (hA i (by simp [Fo.ids]))
    refine ⟨b, pa (A n.hd), hb, by show pa (A i) = _; rw [hb]; rfl, m.lt hb, ?_, nlist_of m h4 fun x hx => hA x (by simp [Fo.ids, hx])⟩
    rw [m.c4 hb, h2]
theorem kids_in (F : Fence) (n : Nat) (hf : F.fn 56) (hro : F.round = none) (p0 : Option Addr) (w : World) :
    CallsIn F n Tryd.prog 56 #[.pointer p0] w fun e w' => e = .returned (.func (.func 76) #[] #[.pointer (some ⟨w.heap.size, 0, none⟩)]) ∧ w' = w.alloc (.cells #[.pointer p0] 74) := by
  refine callsIn_of_wp Tryd.func56 rfl hf ?_ hro
  simp only [Tryd.ntmps56, List.size_toArray, List.length_cons, List.length_nil, Nat.reduceAdd, Nat.reduceSub, Array.replicate_succ, Array.replicate_zero, List.push_toArray, List.append_toArray, List.nil_append, List.cons_append]
  gi_wp2
  go_ret
  exact ⟨rfl, rfl⟩
/-- A number of which Q holds. -/
structure KA (Q : Nat → Prop) where
  val : Nat
  ok : Q val
set_option maxRecDepth 100000 in
set_option maxHeartbeats 1000000 in
theorem kids1_in (F : Fence) (n : Nat) (hf : F.fn 76) (hro : F.round = none) (hn : 1 ≤ n) (l Bn n0 b : Nat) (Q : Nat → Prop) (A : Nat → Option Nat) (p0 : Option Addr) (xs : List (KA Q)) (J Jx : List (KA Q) → World → Prop)
    (hY : ∀ pre x W, J pre W → pre.length < xs.length → YieldAt F (n - 1) Tryd.prog l #[.pointer (pa (A x.val))] W fun e W' =>
      (e = .returned (.bool true) ∧ J (pre ++ [x]) W' ∧ Below n0 W W') ∨ (e = .returned (.bool false) ∧ Jx (pre ++ [x]) W'))
    (W : World) (hBn : W.cell? ⟨Bn, 0, none⟩ = some (.pointer (some ⟨b, 0, none⟩))) (hb3 : W.cell? ⟨b, 3, none⟩ = some (.pointer p0)) (hL : NList A n0 W p0 (xs.map KA.val)) (h0 : J [] W) :
    CallsIn F n Tryd.prog 76 #[.func (.yield l) #[] #[], .pointer (some ⟨Bn, 0, none⟩)] W fun e W' => (∃ v, e = .returned v) ∧
      ((∃ ys, ys = xs ∧ J ys W') ∨ (∃ pre, pre <+: xs ∧ Jx pre W')) := by
  refine callsIn_of_wp Tryd.func76 rfl hf ?_ hro
  simp only [Tryd.ntmps76, List.size_toArray, List.length_cons, List.length_nil, Nat.reduceAdd, Nat.reduceSub, Array.replicate_succ, Array.replicate_zero, List.push_toArray, List.append_toArray, List.nil_append, List.cons_append]
  gi_wp2
  gi_loopw [3] (fun p wr => ∃ (pre rest : List (KA Q)) (q : Option Addr), p = .pointer q ∧ xs = pre ++ rest ∧ NList A n0 wr q (rest.map KA.val) ∧ J pre wr)
    (fun p wr => nleft A n0 wr p)
  case atStart =>
    exact ⟨[], xs, p0, rfl, rfl, hL, h0⟩
  case round =>
    obtain ⟨pre, rest, q, rfl, hx, hl, hJs⟩ := hrel
    cases rest with
    | nil =>
      obtain rfl : q = none := hl
      gi_wp2
      go_end0
      exact ⟨⟨_, rfl⟩, .inl ⟨pre, by simp [hx], hJs⟩⟩
    | cons x rest =>
      have hl' := hl
      obtain ⟨c, q', hA, rfl, hc, hq, hr⟩ := hl
      obtain ⟨fn, tmps, assign, body, hy, hR⟩ := hY pre x wr hJs (by rw [hx]; simp)
      rw [hA, pa_some] at hy
      have HA := Aside0.mk hA
      clear hA
      gi_wp2
      refine hR.mono ?_
      rintro e W3 (⟨rfl, hJ3, hk3⟩ | ⟨rfl, hJx3⟩)
      · have hq3 : W3.cell? ⟨c, 4, none⟩ = some (.pointer q') := (hk3.cell (p := ⟨c, 4, none⟩) hc).trans hq
        gi_wp2
        go_roundw
        case rel => exact ⟨pre ++ [x], rest, q', rfl, by simp [hx], hr.below hk3, hJ3⟩
        case measure => rw [nleft_eq (hr.below hk3), nleft_eq hl']; simp
      · gi_wp2
        refine bodyPost_ret (results_none rfl _ _ _) rfl ?_
        exact ⟨⟨_, rfl⟩, .inr ⟨pre ++ [x], ⟨rest, by simp [hx]⟩, hJx3⟩⟩
theorem kids_stops (F : Fence) (n : Nat) (hf : F.fn 76) (hro : F.round = none) (hn : 1 ≤ n) (Bn n0 b : Nat) (Q : Nat → Prop) (A : Nat → Option Nat) (p0 : Option Addr) (xs : List (KA Q)) (w : World) (hBn : Bn < w.heap.size) (hn0 : n0 ≤ w.heap.size) (hb : b < w.heap.size)
    (hc : w.cell? ⟨Bn, 0, none⟩ = some (.pointer (some ⟨b, 0, none⟩))) (hb3 : w.cell? ⟨b, 3, none⟩ = some (.pointer p0)) (hL : NList A n0 w p0 (xs.map KA.val)) :
    SeqStopsK F n Tryd.prog 76 #[.pointer (some ⟨Bn, 0, none⟩)] (fun x : KA Q => #[.pointer (pa (A x.val))]) (Below n0) (fun ys => ys = xs) (fun pre => pre <+: xs) xs.length w := fun l J Jx W hW _ _ hY h0 =>
  kids1_in F n hf hro hn l Bn n0 b Q A p0 xs J Jx hY W ((hW.cell (p := ⟨Bn, 0, none⟩) hBn).trans hc) ((hW.cell (p := ⟨b, 3, none⟩) hb).trans hb3) (hL.below (hW.mono hn0)) h0
theorem attach_val {Q : Nat → Prop} : ∀ {l : List Nat} (h : ∀ x ∈ l, Q x), ∃ xs : List (KA Q), xs.map KA.val = l
  | [], _ => ⟨[], rfl⟩
  | x :: l, h => by
    obtain ⟨xs, hx⟩ := attach_val (l := l) fun y hy => h y (List.mem_cons_of_mem _ hy)
    exact ⟨⟨x, h x List.mem_cons_self⟩ :: xs, by rw [List.map_cons, hx]⟩
/-- The one ahead of i in a list, p ahead of the first. -/
def pv (i : Nat) : Nat → List Nat → Nat
  | p, [] => p
  | p, y :: r => if y = i then p else pv i y r
def lastN (p : Nat) (l : List Nat) : Nat := l.foldl (fun _ y => y) p
theorem pv_done (i : Nat) : ∀ (l : List Nat) (p : Nat), (∀ y ∈ l, y ≠ i) → pv i p l = lastN p l
  | [], p, _ => rfl
  | y :: r, p, h => by
    unfold pv
    rw [if_neg (h y List.mem_cons_self), pv_done i r y fun z hz => h z (List.mem_cons_of_mem _ hz)]
    rfl
theorem pv_stop (i : Nat) (rest : List Nat) : ∀ (l : List Nat) (p : Nat), (∀ y ∈ l, y ≠ i) → pv i p (l ++ i :: rest) = lastN p l
  | [], p, _ => by show pv i p (i :: rest) = p; unfold pv; rw [if_pos rfl]
  | y :: r, p, h => by
    show pv i p (y :: (r ++ i :: rest)) = _
    unfold pv
    rw [if_neg (h y List.mem_cons_self), pv_stop i rest r y fun z hz => h z (List.mem_cons_of_mem _ hz)]
    rfl
theorem lastN_snoc (p : Nat) (l : List Nat) (x : Nat) : lastN p (l ++ [x]) = x := by simp [lastN]
theorem cell_of_box_f {W : World} {B : Nat} {v : Value} {t : TypeId} (h : W.heap[B]? = some (.cells #[v] t (0, 0))) : W.cell? ⟨B, 0, none⟩ = some v ∧ W.frozen? ⟨B, 0, none⟩ = false := by
  constructor <;> simp [World.cell?, World.frozen?, h]
theorem cell_new_f (W : World) (v : Value) (t : TypeId) : (W.alloc (.cells #[v] t)).cell? ⟨W.heap.size, 0, none⟩ = some v ∧ (W.alloc (.cells #[v] t)).frozen? ⟨W.heap.size, 0, none⟩ = false :=
  cell_of_box_f (World.alloc_heap_new W _)
theorem cell_alloc_f {W : World} {a : Addr} {v : Value} (o : Obj) (h : W.cell? a = some v) : (W.alloc o).cell? a = some v := cell_kept h (World.grownBy_alloc W o none) (fun r e => by cases e)
theorem frozen_alloc_f {W : World} {a : Addr} {v : Value} (o : Obj) (h : W.cell? a = some v) (hf : W.frozen? a = false) : (W.alloc o).frozen? a = false := (frozen_kept h (World.grownBy_alloc W o none) (fun r e => by cases e)).trans hf
def AheadI (w : World) (A : Nat → Option Nat) (i b : Nat) (pre : List (KA fun x => A x ≠ none)) (W : World) : Prop :=
  (∀ y ∈ pre, y.val ≠ i) ∧ W.cell? ⟨w.heap.size, 0, none⟩ = some (.pointer (some ⟨b, 0, none⟩)) ∧ W.cell? ⟨w.heap.size + 1, 0, none⟩ = some (.pointer (pa (A (lastN 0 (pre.map KA.val))))) ∧ W.frozen? ⟨w.heap.size + 1, 0, none⟩ = false
def AheadX (w : World) (A : Nat → Option Nat) (i : Nat) (c : Code) (pre : List (KA fun x => A x ≠ none)) (W : World) : Prop :=
  c = .exit 0 ∧ ∃ (pre' : List (KA fun x => A x ≠ none)) (x : KA fun x => A x ≠ none), pre = pre' ++ [x] ∧ x.val = i ∧ (∀ y ∈ pre', y.val ≠ i) ∧ W.cell? ⟨w.heap.size + 1, 0, none⟩ = some (.pointer (pa (A (lastN 0 (pre'.map KA.val)))))
theorem aheadI_own (w : World) (A : Nat → Option Nat) (i b : Nat) : Own (AheadI w A i b) := fun s V W row hs hg hr => ⟨hs.1, cell_kept hs.2.1 hg hr, cell_kept hs.2.2.1 hg hr, (frozen_kept hs.2.2.1 hg hr).trans hs.2.2.2⟩
theorem aheadX_own (w : World) (A : Nat → Option Nat) (i : Nat) (c : Code) : Own (AheadX w A i c) := fun s V W row hs hg hr => by
  obtain ⟨e1, p', x, e2, e3, e4, e5⟩ := hs
  exact ⟨e1, p', x, e2, e3, e4, cell_kept e5 hg hr⟩
set_option maxRecDepth 100000 in
set_option maxHeartbeats 2000000 in
/-- The one right ahead of node i under the same. -/
theorem ahead_in (F : Fence) (n : Nat) (h79 : F.fn 79) (h56 : F.fn 56) (h76 : F.fn 76) (hro : F.round = none) (hn : 3 ≤ n) {w : World} {n0 Fb : Nat} {A : Nat → Option Nat} {h : Nat → Nd} (m : Mem w n0 Fb A h)
    {i u b bu : Nat} (hi : A i = some b) (hu : A u = some bu) (hup : (h i).up = u) (xs : List Nat) (hxs : ∀ x ∈ xs, A x ≠ none) (hL : NList A w.heap.size w (pa (A (h u).first)) xs) :
    CallsIn F n Tryd.prog 79 #[.pointer (some ⟨b, 0, none⟩)] w fun e W' => e = .returned (.pointer (pa (A (pv i 0 xs)))) ∧ Below w.heap.size w W' := by
  have h1 : 1 ≤ n := by omega
  obtain ⟨ys, hys⟩ := attach_val (Q := fun x => A x ≠ none) hxs
  subst hys
  have hz := m.z
  have c2 := m.c2 hi
  rw [hup, hu, pa_some] at c2
  replace c2 := cell_alloc_f (.cells #[.pointer none] 74) (cell_alloc_f (.cells #[.pointer (some ⟨b, 0, none⟩)] 74) c2)
  have c3 := m.c3 hu
  have HBU := Aside0.mk (m.lt hu)
  have HB := Aside0.mk (m.lt hi)
  have M := Aside0.mk m
  have HI := Aside0.mk hi
  have HZ := Aside0.mk hz
  clear hz hi hu hup m
  refine callsIn_of_wp_marks Tryd.func79 rfl h79 ?_ hro
  simp only [Tryd.ntmps79, List.size_toArray, List.length_cons, List.length_nil, Nat.reduceAdd, Nat.reduceSub, Array.replicate_succ, Array.replicate_zero, List.push_toArray, List.append_toArray, List.nil_append, List.cons_append]
  gi_wp2_with (gi_at_call 56; refine (kids_in F (n - 1) h56 hro _ _).mono ?_; rintro e w' ⟨rfl, rfl⟩)
  have b0 := cell_new_f w (.pointer (some ⟨b, 0, none⟩)) 74
  have b1 := cell_new_f (w.alloc (.cells #[.pointer (some ⟨b, 0, none⟩)] 74)) (.pointer none) 74
  have b2 := cell_new_f ((w.alloc (.cells #[.pointer (some ⟨b, 0, none⟩)] 74)).alloc (.cells #[.pointer none] 74)) (.pointer (some ⟨bu, 0, none⟩)) 74
  simp only [World.size_alloc] at b1 b2
  have hB0 : Below w.heap.size w (((w.alloc (.cells #[.pointer (some ⟨b, 0, none⟩)] 74)).alloc (.cells #[.pointer none] 74)).alloc (.cells #[.pointer (some ⟨bu, 0, none⟩)] 74)) := (((Below.refl _ w).alloc (Nat.le_refl _) _).alloc (by simp) _).alloc (by simp; omega) _
  refine wpIn_rangeFunc_ownF hro h1 (gf := 76) (lb := #[.pointer (some ⟨w.heap.size + 1 + 1, 0, none⟩)]) rfl h76 (enters_of Tryd.func76 (by kernel_rfl) rfl)
    (kids_stops F (n - 1) h76 hro (by omega) (w.heap.size + 1 + 1) w.heap.size bu _ A _ ys _ (by simp) (by simp; omega) (by simp; have := HBU.out; omega) b2.1 (cell_alloc_f _ (cell_alloc_f _ (cell_alloc_f _ c3))) (hL.below hB0)) belowK_t (belowK_b (by simp; omega)) (Below.refl _ _) (fun _ => by rfl)
    (fun pre W => AheadI w A i b pre W ∧ Below w.heap.size w W)
    (fun c pre W => AheadX w A i c pre W ∧ Below w.heap.size w W)
    (OwnFrom.and (Own.from (aheadI_own w A i b) _) (ownFrom_below (Nat.le_refl _) (by simp; omega)))
    (fun c => OwnFrom.and (Own.from (aheadX_own w A i c) _) (ownFrom_below (Nat.le_refl _) (by simp; omega)))
    ⟨⟨by simp, cell_alloc_f _ (cell_alloc_f _ b0.1), by rw [show lastN 0 (([] : List (KA fun x => A x ≠ none)).map KA.val) = 0 from rfl, HZ.out]; exact cell_alloc_f _ b1.1, frozen_alloc_f _ b1.1 b1.2⟩, hB0⟩
    (fun x => { tmps := #[.pointer (some ⟨b, 0, none⟩), .pointer (some ⟨w.heap.size, 0, none⟩), .pointer none, .pointer (some ⟨w.heap.size + 1, 0, none⟩), .pointer (pa (A x.val)), .pointer (some ⟨b, 0, none⟩), .pointer (some ⟨b, 0, none⟩), .pointer (some ⟨b, 2, none⟩), .pointer (some ⟨bu, 0, none⟩), .func (.func 76) #[] #[.pointer (some ⟨w.heap.size + 1 + 1, 0, none⟩)], .pointer (pa (A x.val)), undef, undef, undef, undef, undef], defers := [] }) ?assign ?body ?done ?stop
  case assign =>
    intro l x W K hK
    gi_wp2
    exact hK
  case body =>
    rintro l pre x W ⟨⟨hp, hcn, hca, hfa⟩, hB⟩ _
    obtain ⟨c, hc⟩ := Option.ne_none_iff_exists'.1 x.ok
    have MW := M.out.below hB
    have hbelow : Below w.heap.size W (W.setCell ⟨w.heap.size + 1, 0, none⟩ (.pointer (some ⟨c, 0, none⟩))) := (Below.refl _ W).setCell (p := ⟨w.heap.size + 1, 0, none⟩) (by simp) _
    by_cases hx : x.val = i
    · obtain rfl : c = b := by rw [hx, HI.out] at hc; exact (Option.some.inj hc).symm
      have hE := eqS ⟨c, 0, none⟩ W
      have HX := Aside0.mk hx
      rw [hc, pa_some]
      clear hx hc
      gi_wp2
      exact ⟨KeepsOthers.refl _, ⟨rfl, pre, x, rfl, HX.out, hp, hca⟩, hB⟩
    · have hE := MW.eqn hc HI.out hx
      have HX := Aside0.mk hx
      have HC := Aside0.mk hc
      rw [hc, pa_some]
      clear hx hc
      gi_wp2
      refine ⟨KeepsOthers.setCell _ _ _, hbelow, ⟨fun y hy => ?_, ?_, ?_, ?_⟩, hB.trans hbelow⟩
      · rcases List.mem_append.1 hy with hy | hy
        · exact hp y hy
        · rw [List.mem_singleton.1 hy]; exact HX.out
      · rw [World.cell?_setCell_other _ _ _ _ (by intro e; have := congrArg Addr.block e; simp at this)]; exact hcn
      · rw [List.map_append, List.map_cons, List.map_nil, lastN_snoc, HC.out]
        exact World.cell?_setCell_same' _ _ _ (by rw [hca]; rfl)
      · rw [World.frozen?_setCell]; exact hfa
  case done =>
    rintro D zs W hD rfl ⟨⟨hp, _, hca, _⟩, hB⟩ hK
    gi_wp2
    refine ⟨by simp, .inl ⟨_, _, rfl, run_takeDeferred hK, ?_⟩⟩
    refine ⟨_, results_tmp rfl _ _ _, ?_, hB.trans (belowK_b (w := w) (Nat.le_refl _) W D _ _ (by simp at hD; omega) hK rfl rfl)⟩
    rw [pv_done i _ 0 (fun y hy => by obtain ⟨z, hz, rfl⟩ := List.mem_map.1 hy; exact hp z hz)]
    rfl
  case stop =>
    rintro D c pre W hD hpre ⟨⟨rfl, pre', x, rfl, hx, hp, hca⟩, hB⟩ hK
    gi_wp2
    refine ⟨by simp, .inl ⟨_, _, rfl, run_takeDeferred hK, ?_⟩⟩
    refine ⟨_, results_tmp rfl _ _ _, ?_, hB.trans (belowK_b (w := w) (Nat.le_refl _) W D _ _ (by simp at hD; omega) hK rfl rfl)⟩
    obtain ⟨rest, rfl⟩ := hpre
    rw [List.map_append, List.map_append, List.map_cons, List.map_nil, hx, List.append_assoc, List.singleton_append, pv_stop i _ _ 0 (fun y hy => by obtain ⟨z, hz, rfl⟩ := List.mem_map.1 hy; exact hp z hz)]
    rfl
end Go.Proofs.YtkopimbbgckcnaaDoor.P
set_option linter.unusedVariables false
set_option linter.unusedSimpArgs false
namespace Go.Proofs.YtkopimbbgckcnaaDoor.P
open Go.RowKit Go.Shelf Go.Proofs.YtkopimbbgckcnaaDoorW.PrintWords Go.Proofs.YtkopimbbgckcnaaDoorW.PrintLast Go.Proofs.YtkopimbbgckcnaaDoorW.PrintMore Go.Proofs.YtkopimbbgckcnaaDoor.FP
theorem ahead_any {w : World} {n0 Fb : Nat} {A : Nat → Option Nat} {h : Nat → Nd} (m : Mem w n0 Fb A h)
    {i u b bu : Nat} (hi : A i = some b) (hu : A u = some bu) (hup : (h i).up = u) (xs : List Nat) (hxs : ∀ x ∈ xs, A x ≠ none) (hL : NList A w.heap.size w (pa (A (h u).first)) xs) :
    Calls Tryd.prog 79 #[.pointer (some ⟨b, 0, none⟩)] w fun e W' => e = .returned (.pointer (pa (A (pv i 0 xs)))) ∧ Below w.heap.size w W' :=
  (callsIn_wide (n := 3)).1 (ahead_in _ 3 trivial trivial trivial rfl (by omega) m hi hu hup xs hxs hL)
set_option maxRecDepth 100000 in
set_option maxHeartbeats 2000000 in
theorem detach_any {w : World} {n0 Fb : Nat} {A : Nat → Option Nat} {h : Nat → Nd} (m : Mem w n0 Fb A h)
    {i u b bu : Nat} (hi : A i = some b) (hu : A u = some bu) (hup : (h i).up = u) (hui : u ≠ i) (xs : List Nat) (hxs : ∀ x ∈ xs, A x ≠ none) (hL : NList A w.heap.size w (pa (A (h u).first)) xs) (hpv : pv i 0 xs ≠ 0 → A (pv i 0 xs) ≠ none ∧ pv i 0 xs ≠ i) :
    Calls Tryd.prog 68 #[.pointer (some ⟨b, 0, none⟩)] w fun e W' => (∃ v, e = .returned v) ∧ Mem W' n0 Fb A (detachH h i (pv i 0 xs)) ∧ Below n0 w W' := by
  have HA := Aside0.mk (ahead_any m hi hu hup xs hxs hL)
  generalize pv i 0 xs = a at HA hpv ⊢
  have HM := Aside0.mk m
  have HI := Aside0.mk hi
  have HU := Aside0.mk hu
  have HP := Aside0.mk hup
  have hne : bu ≠ b := fun e => hui (m.inj u i bu hu (e ▸ hi))
  have hne0 := Aside0.mk hui
  have HS := Aside0.mk (show n0 ≤ w.heap.size from Nat.le_of_lt (Nat.lt_of_le_of_lt (m.lo i b hi) (m.lt hi)))
  have L1 := Aside0.mk (m.lo i b hi)
  have L2 := Aside0.mk (m.lo u bu hu)
  by_cases ha : a = 0
  · subst ha
    rw [m.z, pa_none] at HA
    have hne' : b ≠ bu := fun e => hne e.symm
    clear hL hpv m hi hu hup hui hxs
    go_enter Tryd.func68, Tryd.ntmps68
    go_wp2_with (go_at_call 79; refine (HA.out).mono ?_; clear HA; rintro e W1 ⟨rfl, hb1⟩; have HB1 := Aside0.mk hb1; have M1 := Aside0.mk (HM.out.below hb1); clear hb1)
    have c2 := M1.out.c2 HI.out
    rw [HP.out, HU.out, pa_some] at c2
    have c4 := M1.out.c4 HI.out
    have z2 := M1.out.fz HI.out 2
    have z4 := M1.out.fz HI.out 4
    have z3 := M1.out.fz HU.out 3
    have c3 := M1.out.c3 HU.out
    go_region
    all_goals go_wp2
    go_end0
    have z := M1.out.z
    have M4 := ((M1.out.setF HU.out (h i).next (M1.out.cn i (by rw [HI.out]; simp))).setU HI.out 0 (Or.inl rfl)).setN HI.out 0 (Or.inl rfl)
    rw [z, pa_none] at M4
    refine ⟨⟨_, rfl⟩, M4.drew.ext fun j => ?_, ?_⟩
    · unfold upN detachH
      rw [HP.out]
      by_cases e1 : j = i
      · subst e1; have e' : ¬ (j = u) := fun e => hne0.out e.symm
        simp [e']
      · by_cases e2 : j = u
        · subst e2; simp [e1]
        · simp [e1, e2]
    · exact ((((HB1.out.mono HS.out).setCell (p := ⟨bu, 3, none⟩) L2.out _).setCell (p := ⟨b, 2, none⟩) L1.out _).setCell (p := ⟨b, 4, none⟩) L1.out _).drew
  · obtain ⟨hA1, hai⟩ := hpv ha
    obtain ⟨ba, hba⟩ := Option.ne_none_iff_exists'.1 hA1
    rw [hba, pa_some] at HA
    have HBA := Aside0.mk hba
    have hab : ba ≠ b := fun e => hai (m.inj a i ba hba (e ▸ hi))
    have hab' : b ≠ ba := fun e => hab e.symm
    have L3 := Aside0.mk (m.lo a ba hba)
    have ha0 := Aside0.mk ha
    have hai0 := Aside0.mk hai
    clear hL m hi hu hup hui hxs hba hA1 ha hai hne
    go_enter Tryd.func68, Tryd.ntmps68
    go_wp2_with (go_at_call 79; refine (HA.out).mono ?_; clear HA; rintro e W1 ⟨rfl, hb1⟩; have HB1 := Aside0.mk hb1; have M1 := Aside0.mk (HM.out.below hb1); clear hb1; have c4 := M1.out.c4 HI.out; have c2 := M1.out.c2 HI.out; have z2 := M1.out.fz HI.out 2; have z4 := M1.out.fz HI.out 4; have z3 := M1.out.fz HBA.out 4; have c3 := M1.out.c4 HBA.out)
    go_end0
    have z := M1.out.z
    have M4 := ((M1.out.setN HBA.out (h i).next (M1.out.cn i (by rw [HI.out]; simp))).setU HI.out 0 (Or.inl rfl)).setN HI.out 0 (Or.inl rfl)
    rw [z, pa_none] at M4
    refine ⟨⟨_, rfl⟩, M4.ext fun j => ?_, ?_⟩
    · unfold upN detachH
      have ha := ha0.out
      have hai := hai0.out
      by_cases e1 : j = i
      · subst e1; have e' : ¬ (j = a) := fun e => hai e.symm
        simp [e']
      · by_cases e2 : j = a
        · subst e2; simp [e1, ha]
        · simp [e1, e2, ha]
    · exact (((HB1.out.mono HS.out).setCell (p := ⟨ba, 4, none⟩) L3.out _).setCell (p := ⟨b, 2, none⟩) L1.out _).setCell (p := ⟨b, 4, none⟩) L1.out _
end Go.Proofs.YtkopimbbgckcnaaDoor.P
set_option linter.unusedVariables false
set_option linter.unusedSimpArgs false
namespace Go.Proofs.YtkopimbbgckcnaaDoor.FP
open Go.Proofs.YtkopimbbgckcnaaDoor.P
theorem sub_ids (u : Nat) : ∀ {F : Fo} {y : Nat}, y ∈ (sub u F).ids → y ∈ F.ids
  | .nil, y, h => by simp [sub, Fo.ids] at h
  | .nd j t k n, y, h => by
    unfold sub at h
    split at h
    · simp [Fo.ids, h]
    · split at h
      · simp [Fo.ids, sub_ids u h]
      · simp [Fo.ids, sub_ids u h]
theorem sub_nodup (u : Nat) : ∀ {F : Fo}, F.ids.Nodup → (sub u F).ids.Nodup
  | .nil, _ => by simp [sub, Fo.ids]
  | .nd j t k n, hn => by
    obtain ⟨n1, n2, n3, n4, n5⟩ := nodup_nd hn
    unfold sub
    split
    · exact n3
    · split
      · exact sub_nodup u n3
      · exact sub_nodup u n4
theorem sub_self (u : Nat) : ∀ {F : Fo}, F.ids.Nodup → u ∉ (sub u F).ids
  | .nil, _ => by simp [sub, Fo.ids]
  | .nd j t k n, hn => by
    obtain ⟨n1, n2, n3, n4, n5⟩ := nodup_nd hn
    unfold sub
    split
    · rename_i h; exact h ▸ n1
    · split
      · exact sub_self u n3
      · exact sub_self u n4
theorem rep_sub {h : Nat → Nd} {u : Nat} : ∀ {F : Fo} {up : Nat}, Rep h up F → F.ids.Nodup → u ∈ F.ids → Rep h u (sub u F) ∧ (h u).first = (sub u F).hd
  | .nil, _, _, _, hx => by simp [Fo.ids] at hx
  | .nd j t k n, up, ⟨h1, h2, h3, h4⟩, hn, hx => by
    obtain ⟨n1, n2, n3, n4, n5⟩ := nodup_nd hn
    simp only [Fo.ids, List.mem_cons, List.mem_append] at hx
    unfold sub
    by_cases e : j = u
    · subst e; rw [if_pos rfl]; exact ⟨h3, by rw [h2]⟩
    · rw [if_neg e]
      by_cases hk : u ∈ k.ids
      · rw [if_pos hk]; exact rep_sub h3 n3 hk
      · rw [if_neg hk]; exact rep_sub h4 n4 (by rcases hx with g | g | g; exact absurd g.symm e; exact absurd g hk; exact g)
theorem reptop_sub {h : Nat → Nd} {u : Nat} : ∀ {F : Fo}, RepTop h F → F.ids.Nodup → u ∈ F.ids → Rep h u (sub u F) ∧ (h u).first = (sub u F).hd
  | .nil, _, _, hx => by simp [Fo.ids] at hx
  | .nd j t k n, ⟨h1, h2, h3, h4⟩, hn, hx => by
    obtain ⟨n1, n2, n3, n4, n5⟩ := nodup_nd hn
    simp only [Fo.ids, List.mem_cons, List.mem_append] at hx
    unfold sub
    by_cases e : j = u
    · subst e; rw [if_pos rfl]; exact ⟨h3, by rw [h2]⟩
    · rw [if_neg e]
      by_cases hk : u ∈ k.ids
      · rw [if_pos hk]; exact rep_sub h3 n3 hk
      · rw [if_neg hk]; exact reptop_sub h4 n4 (by rcases hx with g | g | g; exact absurd g.symm e; exact absurd g hk; exact g)
/-- At the top, or under one of F. -/
theorem rep_at {h : Nat → Nd} {x : Nat} : ∀ {F : Fo} {up : Nat}, Rep h up F → F.ids.Nodup → x ∈ F.ids → (x ∈ F.tops ∧ (h x).up = up) ∨ (x ∉ F.tops ∧ (h x).up ∈ F.ids)
  | .nil, _, _, _, hx => by simp [Fo.ids] at hx
  | .nd j u k n, up, ⟨h1, h2, h3, h4⟩, hn, hx => by
    obtain ⟨n1, n2, n3, n4, n5⟩ := nodup_nd hn
    simp only [Fo.ids, Fo.tops, List.mem_cons, List.mem_append, not_or] at hx ⊢
    rcases hx with rfl | hx | hx
    · left; exact ⟨Or.inl rfl, by rw [h2]⟩
    · right
      refine ⟨⟨fun e => n1 (e ▸ hx), fun e => n5 x hx (tops_ids e)⟩, ?_⟩
      rcases rep_at h3 n3 hx with ⟨_, e⟩ | ⟨_, e⟩
      · exact Or.inl e
      · exact Or.inr (Or.inl e)
    · rcases rep_at h4 n4 hx with ⟨e1, e2⟩ | ⟨e1, e2⟩
      · exact Or.inl ⟨Or.inr e1, e2⟩
      · exact Or.inr ⟨⟨fun e => n2 (e ▸ hx), e1⟩, Or.inr (Or.inr e2)⟩
theorem sib_pv {h : Nat → Nd} {x : Nat} : ∀ {F : Fo} {up : Nat} (p : Nat), Rep h up F → F.ids.Nodup → x ∈ F.ids → sib x p F = if x ∈ F.tops then pv x p F.tops else pv x 0 (sub (h x).up F).tops
  | .nil, _, _, _, _, hx => by simp [Fo.ids] at hx
  | .nd j u k n, up, p, ⟨h1, h2, h3, h4⟩, hn, hx => by
    obtain ⟨n1, n2, n3, n4, n5⟩ := nodup_nd hn
    unfold sib
    by_cases e : j = x
    · subst e
      rw [if_pos rfl, if_pos (by simp [Fo.tops])]
      show p = pv j p (j :: n.tops)
      unfold pv
      rw [if_pos rfl]
    · rw [if_neg e]
      have e' : x ≠ j := fun g => e g.symm
      by_cases hk : x ∈ k.ids
      · have hxn : x ∉ n.ids := n5 x hk
        rw [if_pos hk, if_neg (by simp only [Fo.tops, List.mem_cons, not_or]; exact ⟨e', fun g => hxn (tops_ids g)⟩), sib_pv 0 h3 n3 hk]
        rcases rep_at h3 n3 hk with ⟨g1, g2⟩ | ⟨g1, g2⟩
        · rw [if_pos g1, g2]
          unfold sub
          rw [if_pos rfl]
        · rw [if_neg g1]
          rw [show sub (h x).up (Fo.nd j u k n) = sub (h x).up k by
            rw [sub, if_neg (fun (g : j = (h x).up) => n1 (by rw [g]; exact g2)), if_pos g2]]
      · have hxn : x ∈ n.ids := by
          simp only [Fo.ids, List.mem_cons, List.mem_append] at hx
          rcases hx with g | g | g
          · exact absurd g e'
          · exact absurd g hk
          · exact g
        rw [if_neg hk, sib_pv j h4 n4 hxn]
        rcases rep_at h4 n4 hxn with ⟨g1, g2⟩ | ⟨g1, g2⟩
        · rw [if_pos g1, if_pos (by simp [Fo.tops, g1])]
          show pv x j n.tops = pv x p (j :: n.tops)
          rw [pv, if_neg e]
        · rw [if_neg g1, if_neg (by simp only [Fo.tops, List.mem_cons, not_or]; exact ⟨e', g1⟩)]
          rw [show sub (h x).up (Fo.nd j u k n) = sub (h x).up n by
            rw [sub, if_neg (fun (g : j = (h x).up) => n2 (by rw [g]; exact g2)), if_neg (fun g => n5 _ g g2)]]
theorem sibT_pv {h : Nat → Nd} {x : Nat} : ∀ {F : Fo}, RepTop h F → F.ids.Nodup → x ∈ F.ids → x ∉ F.tops → sibT x F = pv x 0 (sub (h x).up F).tops ∧ x ∈ (sub (h x).up F).tops
  | .nil, _, _, hx, _ => by simp [Fo.ids] at hx
  | .nd j u k n, ⟨h1, h2, h3, h4⟩, hn, hx, ht => by
    obtain ⟨n1, n2, n3, n4, n5⟩ := nodup_nd hn
    simp only [Fo.ids, Fo.tops, List.mem_cons, List.mem_append, not_or] at hx ht
    unfold sibT
    by_cases hk : x ∈ k.ids
    · rw [if_pos hk, sib_pv 0 h3 n3 hk]
      rcases rep_at h3 n3 hk with ⟨g1, g2⟩ | ⟨g1, g2⟩
      · rw [if_pos g1, g2]
        unfold sub
        rw [if_pos rfl]
        exact ⟨rfl, g1⟩
      · rw [if_neg g1]
        rw [show sub (h x).up (Fo.nd j u k n) = sub (h x).up k by rw [sub, if_neg (fun (g : j = (h x).up) => n1 (by rw [g]; exact g2)), if_pos g2]]
        exact ⟨rfl, in_sub h3 n3 hk g1⟩
    · have hxn : x ∈ n.ids := by rcases hx with g | g | g; exact absurd g ht.1; exact absurd g hk; exact g
      rw [if_neg hk]
      obtain ⟨a1, a2⟩ := sibT_pv h4 n4 hxn ht.2
      obtain ⟨a3, _⟩ := reptop_up h4 n4 hxn ht.2
      rw [show sub (h x).up (Fo.nd j u k n) = sub (h x).up n by rw [sub, if_neg (fun (g : j = (h x).up) => n2 (by rw [g]; exact a3)), if_neg (fun g => n5 _ g a3)]]
      exact ⟨a1, a2⟩
where
  in_sub {h : Nat → Nd} {x : Nat} : ∀ {F : Fo} {up : Nat}, Rep h up F → F.ids.Nodup → x ∈ F.ids → x ∉ F.tops → x ∈ (sub (h x).up F).tops
  | .nil, _, _, _, hx, _ => by simp [Fo.ids] at hx
  | .nd j u k n, up, ⟨h1, h2, h3, h4⟩, hn, hx, ht => by
    obtain ⟨n1, n2, n3, n4, n5⟩ := nodup_nd hn
    simp only [Fo.ids, Fo.tops, List.mem_cons, List.mem_append, not_or] at hx ht
    rcases hx with g | hk | hxn
    · exact absurd g ht.1
    · rcases rep_at h3 n3 hk with ⟨g1, g2⟩ | ⟨g1, g2⟩
      · rw [g2, sub, if_pos rfl]; exact g1
      · rw [sub, if_neg (fun (g : j = (h x).up) => n1 (by rw [g]; exact g2)), if_pos g2]; exact in_sub h3 n3 hk g1
    · rcases rep_at h4 n4 hxn with ⟨g1, g2⟩ | ⟨g1, g2⟩
      · exact absurd g1 ht.2
      · rw [sub, if_neg (fun (g : j = (h x).up) => n2 (by rw [g]; exact g2)), if_neg (fun g => n5 _ g g2)]; exact in_sub h4 n4 hxn g1
def under (u x : Nat) (F : Fo) : Prop := u ∈ F.ids ∧ (x = u ∨ x ∈ (sub u F).ids)
instance (u x : Nat) (F : Fo) : Decidable (under u x F) := by unfold under; exact inferInstance
theorem within_rep {h : Nat → Nd} {u x : Nat} : ∀ {F : Fo} {up : Nat}, Rep h up F → F.ids.Nodup → x ∈ F.ids → ∃ c, ∀ k, (under u x F → withinF h u (c + k) x = some true) ∧ (¬ under u x F → withinF h u (c + k) x = withinF h u k up)
  | .nil, _, _, _, hx => by simp [Fo.ids] at hx
  | .nd j t m n, up, ⟨h1, h2, h3, h4⟩, hn, hx => by
    obtain ⟨n1, n2, n3, n4, n5⟩ := nodup_nd hn
    have step : ∀ k, withinF h u (k + 1) j = if j = u then some true else withinF h u k up := fun k => by
      rw [withinF, if_neg h1, h2]
    simp only [Fo.ids, List.mem_cons, List.mem_append] at hx
    rcases hx with rfl | hk | hxn
    · refine ⟨1, fun k => ⟨fun hu => ?_, fun hu => ?_⟩⟩
      · rw [Nat.add_comm, step]
        by_cases e : x = u
        · rw [if_pos e]
        · exfalso
          rcases hu.2 with g | g
          · exact e g
          · rw [sub, if_neg e] at g
            split at g
            · exact n1 (sub_ids u g)
            · exact n2 (sub_ids u g)
      · rw [Nat.add_comm, step, if_neg]
        intro e
        exact hu ⟨by simp [Fo.ids, e], Or.inl e⟩
    · obtain ⟨c, hc⟩ := within_rep (u := u) h3 n3 hk
      have key : ∀ k, withinF h u (c + (k + 1)) x = if under u x m then some true else if j = u then some true else withinF h u k up := fun k => by
        by_cases hu : under u x m
        · rw [if_pos hu, (hc (k + 1)).1 hu]
        · rw [if_neg hu, (hc (k + 1)).2 hu, step]
      have hiff : under u x (.nd j t m n) ↔ (under u x m ∨ j = u) := by
        unfold under
        constructor
        · rintro ⟨g1, g2⟩
          by_cases e : j = u
          · exact Or.inr e
          · left
            rw [sub, if_neg e] at g2
            simp only [Fo.ids, List.mem_cons, List.mem_append] at g1
            by_cases hum : u ∈ m.ids
            · rw [if_pos hum] at g2; exact ⟨hum, g2⟩
            · rw [if_neg hum] at g2
              exfalso
              rcases g2 with g2 | g2
              · exact hum (g2 ▸ hk)
              · exact n5 x hk (sub_ids u g2)
        · rintro (⟨g1, g2⟩ | e)
          · refine ⟨by simp [Fo.ids, g1], ?_⟩
            rw [sub, if_neg (fun (e : j = u) => n1 (by rw [e]; exact g1)), if_pos g1]
            exact g2
          · refine ⟨by simp [Fo.ids, e], Or.inr ?_⟩
            rw [sub, if_pos e]; exact hk
      refine ⟨c + 1, fun k => ?_⟩
      rw [show c + 1 + k = c + (k + 1) by omega, key, hiff]
      refine ⟨fun hu => ?_, fun hu => ?_⟩
      · rcases hu with hu | hu
        · rw [if_pos hu]
        · rw [if_pos hu]; split <;> rfl
      · rw [if_neg (fun g => hu (Or.inl g)), if_neg (fun g => hu (Or.inr g))]
    · obtain ⟨c, hc⟩ := within_rep (u := u) h4 n4 hxn
      refine ⟨c, fun k => ?_⟩
      have hiff : under u x (.nd j t m n) ↔ under u x n := by
        unfold under
        constructor
        · rintro ⟨g1, g2⟩
          have e : j ≠ u := fun e => by
            rw [sub, if_pos e] at g2
            rcases g2 with g2 | g2
            · exact n2 (by rw [e, ← g2]; exact hxn)
            · exact n5 x g2 hxn
          rw [sub, if_neg e] at g2
          by_cases hum : u ∈ m.ids
          · rw [if_pos hum] at g2
            exfalso
            rcases g2 with g2 | g2
            · exact n5 u hum (g2 ▸ hxn)
            · exact n5 x (sub_ids u g2) hxn
          · rw [if_neg hum] at g2
            simp only [Fo.ids, List.mem_cons, List.mem_append] at g1
            exact ⟨by rcases g1 with g | g | g; exact absurd g.symm e; exact absurd g hum; exact g, g2⟩
        · rintro ⟨g1, g2⟩
          refine ⟨by simp [Fo.ids, g1], ?_⟩
          rw [sub, if_neg (fun (e : j = u) => n2 (by rw [e]; exact g1)), if_neg (fun g => n5 u g g1)]
          exact g2
      rw [hiff]
      exact hc k
theorem within_top {h : Nat → Nd} {u x : Nat} : ∀ {F : Fo}, RepTop h F → F.ids.Nodup → x ∈ F.ids → ∃ c, ∀ k, (under u x F → withinF h u (c + k) x = some true) ∧ (¬ under u x F → withinF h u (c + k + 1) x = some false)
  | .nil, _, _, hx => by simp [Fo.ids] at hx
  | .nd j t m n, ⟨h1, h2, h3, h4⟩, hn, hx => by
    obtain ⟨n1, n2, n3, n4, n5⟩ := nodup_nd hn
    have hx2 := hx
    simp only [Fo.ids, List.mem_cons, List.mem_append] at hx
    have hRep : Rep h 0 (.nd j t m .nil) := ⟨h1, h2, h3, trivial⟩
    have hnd1 : (Fo.nd j t m .nil).ids.Nodup := by simp [Fo.ids, n1, n3]
    have hz : ∀ k, withinF h u (k + 1) 0 = some false := fun k => by rw [withinF, if_pos rfl]
    by_cases hxn : x ∈ n.ids
    · obtain ⟨c, hc⟩ := within_top (u := u) h4 n4 hxn
      have hiff : under u x (.nd j t m n) ↔ under u x n := by
        unfold under
        constructor
        · rintro ⟨g1, g2⟩
          have e : j ≠ u := fun e => by
            rw [sub, if_pos e] at g2
            rcases g2 with g2 | g2
            · exact n2 (by rw [e, ← g2]; exact hxn)
            · exact n5 x g2 hxn
          rw [sub, if_neg e] at g2
          by_cases hum : u ∈ m.ids
          · rw [if_pos hum] at g2
            exfalso
            rcases g2 with g2 | g2
            · exact n5 u hum (g2 ▸ hxn)
            · exact n5 x (sub_ids u g2) hxn
          · rw [if_neg hum] at g2
            simp only [Fo.ids, List.mem_cons, List.mem_append] at g1
            exact ⟨by rcases g1 with g | g | g; exact absurd g.symm e; exact absurd g hum; exact g, g2⟩
        · rintro ⟨g1, g2⟩
          refine ⟨by simp [Fo.ids, g1], ?_⟩
          rw [sub, if_neg (fun (e : j = u) => n2 (by rw [e]; exact g1)), if_neg (fun g => n5 u g g1)]
          exact g2
      exact ⟨c, fun k => by rw [hiff]; exact hc k⟩
    · have hx1 : x ∈ (Fo.nd j t m .nil).ids := by
        simp only [Fo.ids, List.mem_cons, List.mem_append, List.not_mem_nil, or_false]
        rcases hx with g | g | g
        · exact Or.inl g
        · exact Or.inr g
        · exact absurd g hxn
      obtain ⟨c, hc⟩ := within_rep (u := u) hRep hnd1 hx1
      have hiff : under u x (.nd j t m n) ↔ under u x (.nd j t m .nil) := by
        unfold under
        have hs : ∀ {y : Nat}, y ∈ (sub u (Fo.nd j t m n)).ids → u ∉ (Fo.nd j t m .nil).ids → y ∈ n.ids := fun {y} hy hu => by
          simp only [Fo.ids, List.mem_cons, List.mem_append, List.not_mem_nil, or_false, not_or] at hu
          rw [sub, if_neg (fun e => hu.1 e.symm), if_neg hu.2] at hy
          exact sub_ids u hy
        have he : u ∈ (Fo.nd j t m .nil).ids → sub u (Fo.nd j t m n) = sub u (Fo.nd j t m .nil) := fun hu => by
          simp only [Fo.ids, List.mem_cons, List.mem_append, List.not_mem_nil, or_false] at hu
          rw [sub, sub]
          by_cases e : j = u
          · rw [if_pos e, if_pos e]
          · have hum : u ∈ m.ids := hu.resolve_left fun g => e g.symm
            rw [if_neg e, if_neg e, if_pos hum, if_pos hum]
        constructor
        · rintro ⟨g1, g2⟩
          by_cases hu : u ∈ (Fo.nd j t m .nil).ids
          · exact ⟨hu, he hu ▸ g2⟩
          · exfalso
            rcases g2 with g2 | g2
            · exact hu (g2 ▸ hx1)
            · exact hxn (hs g2 hu)
        · rintro ⟨g1, g2⟩
          refine ⟨?_, by rw [he g1]; exact g2⟩
          simp only [Fo.ids, List.mem_cons, List.mem_append, List.not_mem_nil, or_false] at g1 ⊢
          rcases g1 with g | g
          · exact Or.inl g
          · exact Or.inr (Or.inl g)
      refine ⟨c, fun k => ?_⟩
      rw [hiff]
      refine ⟨(hc k).1, fun hu => ?_⟩
      rw [show c + k + 1 = c + (k + 1) by omega, (hc (k + 1)).2 hu, hz]
theorem ids_insAfter (a i : Nat) (t : ByteArray) (s : Fo) : ∀ (F : Fo), F.ids.Nodup → a ∈ F.ids → (insAfter a i t s F).ids.Perm (i :: (s.ids ++ F.ids))
  | .nil, _, hx => by simp [Fo.ids] at hx
  | .nd j u k n, hn, hx => by
    obtain ⟨n1, n2, n3, n4, n5⟩ := nodup_nd hn
    simp only [Fo.ids, List.mem_cons, List.mem_append] at hx
    unfold insAfter
    by_cases e : j = a
    · rw [if_pos e]
      simp only [Fo.ids]
      have : (j :: (k.ids ++ i :: (s.ids ++ n.ids))).Perm (i :: (s.ids ++ (j :: (k.ids ++ n.ids)))) := by
        refine List.perm_iff_count.2 fun z => ?_
        simp only [List.count_cons, List.count_append]
        omega
      exact this
    · rw [if_neg e]
      simp only [Fo.ids]
      by_cases hk : a ∈ k.ids
      · have p := ids_insAfter a i t s k n3 hk
        rw [insAfter_id a i t s (n5 a hk)]
        refine List.perm_iff_count.2 fun z => ?_
        have q := List.perm_iff_count.1 p z
        simp only [List.count_cons, List.count_append] at q ⊢
        omega
      · have hxn : a ∈ n.ids := by rcases hx with g | g | g; exact absurd g.symm e; exact absurd g hk; exact g
        have p := ids_insAfter a i t s n n4 hxn
        rw [insAfter_id a i t s hk]
        refine List.perm_iff_count.2 fun z => ?_
        have q := List.perm_iff_count.1 p z
        simp only [List.count_cons, List.count_append] at q ⊢
        omega
theorem ids_insFirst (a i : Nat) (t : ByteArray) (s : Fo) : ∀ (F : Fo), F.ids.Nodup → a ∈ F.ids → (insFirst a i t s F).ids.Perm (i :: (s.ids ++ F.ids))
  | .nil, _, hx => by simp [Fo.ids] at hx
  | .nd j u k n, hn, hx => by
    obtain ⟨n1, n2, n3, n4, n5⟩ := nodup_nd hn
    simp only [Fo.ids, List.mem_cons, List.mem_append] at hx
    unfold insFirst
    by_cases e : j = a
    · rw [if_pos e]
      simp only [Fo.ids]
      refine List.perm_iff_count.2 fun z => ?_
      simp only [List.count_cons, List.count_append]
      omega
    · rw [if_neg e]
      simp only [Fo.ids]
      by_cases hk : a ∈ k.ids
      · have p := ids_insFirst a i t s k n3 hk
        rw [insFirst_id a i t s (n5 a hk)]
        refine List.perm_iff_count.2 fun z => ?_
        have q := List.perm_iff_count.1 p z
        simp only [List.count_cons, List.count_append] at q ⊢
        omega
      · have hxn : a ∈ n.ids := by rcases hx with g | g | g; exact absurd g.symm e; exact absurd g hk; exact g
        have p := ids_insFirst a i t s n n4 hxn
        rw [insFirst_id a i t s hk]
        refine List.perm_iff_count.2 fun z => ?_
        have q := List.perm_iff_count.1 p z
        simp only [List.count_cons, List.count_append] at q ⊢
        omega
theorem ids_del (x : Nat) : ∀ (F : Fo), F.ids.Nodup → x ∈ F.ids → F.ids.Perm (x :: ((sub x F).ids ++ (del x F).ids))
  | .nil, _, hx => by simp [Fo.ids] at hx
  | .nd j u k n, hn, hx => by
    obtain ⟨n1, n2, n3, n4, n5⟩ := nodup_nd hn
    simp only [Fo.ids, List.mem_cons, List.mem_append] at hx
    unfold del sub
    by_cases e : j = x
    · rw [if_pos e, if_pos e]
      simp only [Fo.ids, e]
      exact List.Perm.refl _
    · rw [if_neg e, if_neg e]
      by_cases hk : x ∈ k.ids
      · have p := ids_del x k n3 hk
        rw [if_pos hk, del_id x (n5 x hk)]
        refine List.perm_iff_count.2 fun z => ?_
        have q := List.perm_iff_count.1 p z
        simp only [Fo.ids, List.count_cons, List.count_append] at q ⊢
        omega
      · have hxn : x ∈ n.ids := by rcases hx with g | g | g; exact absurd g.symm e; exact absurd g hk; exact g
        have p := ids_del x n n4 hxn
        rw [if_neg hk, del_id x hk]
        refine List.perm_iff_count.2 fun z => ?_
        have q := List.perm_iff_count.1 p z
        simp only [Fo.ids, List.count_cons, List.count_append] at q ⊢
        omega
theorem tops_insAfter (a i : Nat) (t : ByteArray) (s : Fo) : ∀ (F : Fo), a ∉ F.tops → (insAfter a i t s F).tops = F.tops
  | .nil, _ => rfl
  | .nd j u k n, h => by
    simp only [Fo.tops, List.mem_cons, not_or] at h
    unfold insAfter
    rw [if_neg (fun e => h.1 e.symm)]
    simp only [Fo.tops]
    rw [tops_insAfter a i t s n h.2]
theorem tops_insFirst (a i : Nat) (t : ByteArray) (s : Fo) : ∀ (F : Fo), (insFirst a i t s F).tops = F.tops
  | .nil => rfl
  | .nd j u k n => by
    unfold insFirst
    split
    · rfl
    · simp only [Fo.tops]
      rw [tops_insFirst a i t s n]
theorem tops_del (x : Nat) : ∀ (F : Fo), x ∉ F.tops → (del x F).tops = F.tops
  | .nil, _ => rfl
  | .nd j u k n, h => by
    simp only [Fo.tops, List.mem_cons, not_or] at h
    unfold del
    rw [if_neg (fun e => h.1 e.symm)]
    simp only [Fo.tops]
    rw [tops_del x n h.2]
/-- A text set anew. -/
def setF (x : Nat) (t : ByteArray) : Fo → Fo
  | .nil => .nil
  | .nd j u k n => .nd j (if j = x then t else u) (setF x t k) (setF x t n)
theorem setF_ids (x : Nat) (t : ByteArray) : ∀ (F : Fo), (setF x t F).ids = F.ids
  | .nil => rfl
  | .nd j u k n => by simp [setF, Fo.ids, setF_ids x t k, setF_ids x t n]
theorem setF_tops (x : Nat) (t : ByteArray) : ∀ (F : Fo), (setF x t F).tops = F.tops
  | .nil => rfl
  | .nd j u k n => by simp [setF, Fo.tops, setF_tops x t n]
theorem setF_hd (x : Nat) (t : ByteArray) (F : Fo) : (setF x t F).hd = F.hd := by cases F <;> rfl
theorem rep_setF {h : Nat → Nd} {x : Nat} {t : ByteArray} : ∀ {F : Fo} {up : Nat}, Rep h up F → Rep (upN h x ⟨t, (h x).up, (h x).first, (h x).next⟩) up (setF x t F)
  | .nil, _, _ => trivial
  | .nd j u k n, up, ⟨h1, h2, h3, h4⟩ => by
    refine ⟨h1, ?_, rep_setF h3, rep_setF h4⟩
    rw [setF_hd, setF_hd]
    unfold upN
    by_cases e : j = x
    · rw [if_pos e, if_pos e, ← e, h2]
    · rw [if_neg e, if_neg e, h2]
theorem reptop_setF {h : Nat → Nd} {x : Nat} {t : ByteArray} : ∀ {F : Fo}, RepTop h F → RepTop (upN h x ⟨t, (h x).up, (h x).first, (h x).next⟩) (setF x t F)
  | .nil, _ => trivial
  | .nd j u k n, ⟨h1, h2, h3, h4⟩ => by
    refine ⟨h1, ?_, rep_setF h3, reptop_setF h4⟩
    rw [setF_hd]
    unfold upN
    by_cases e : j = x
    · rw [if_pos e, if_pos e, ← e, h2]
    · rw [if_neg e, if_neg e, h2]
end Go.Proofs.YtkopimbbgckcnaaDoor.FP
set_option linter.unusedVariables false
set_option linter.unusedSimpArgs false
namespace Go.Proofs.YtkopimbbgckcnaaDoor.FP
open Go.Proofs.YtkopimbbgckcnaaDoor.P
/-- The row under which x stands. -/
def par (x : Nat) (up : Nat) : Fo → Nat
  | .nil => 0
  | .nd j _ k n => if j = x then up else if x ∈ k.ids then par x j k else par x up n
theorem rep_par {h : Nat → Nd} {x : Nat} : ∀ {F : Fo} {up : Nat}, Rep h up F → F.ids.Nodup → x ∈ F.ids → (h x).up = par x up F
  | .nil, _, _, _, hx => by simp [Fo.ids] at hx
  | .nd j t k n, up, ⟨h1, h2, h3, h4⟩, hn, hx => by
    obtain ⟨n1, n2, n3, n4, n5⟩ := nodup_nd hn
    simp only [Fo.ids, List.mem_cons, List.mem_append] at hx
    unfold par
    by_cases e : j = x
    · subst e; rw [if_pos rfl, h2]
    · rw [if_neg e]
      by_cases hk : x ∈ k.ids
      · rw [if_pos hk]; exact rep_par h3 n3 hk
      · rw [if_neg hk]; exact rep_par h4 n4 (by rcases hx with g | g | g; exact absurd g.symm e; exact absurd g hk; exact g)
theorem reptop_par {h : Nat → Nd} {x : Nat} : ∀ {F : Fo}, RepTop h F → F.ids.Nodup → x ∈ F.ids → (h x).up = par x 0 F
  | .nil, _, _, hx => by simp [Fo.ids] at hx
  | .nd j t k n, ⟨h1, h2, h3, h4⟩, hn, hx => by
    obtain ⟨n1, n2, n3, n4, n5⟩ := nodup_nd hn
    simp only [Fo.ids, List.mem_cons, List.mem_append] at hx
    unfold par
    by_cases e : j = x
    · subst e; rw [if_pos rfl, h2]
    · rw [if_neg e]
      by_cases hk : x ∈ k.ids
      · rw [if_pos hk]; exact rep_par h3 n3 hk
      · rw [if_neg hk]; exact reptop_par h4 n4 (by rcases hx with g | g | g; exact absurd g.symm e; exact absurd g hk; exact g)
def txtF (x : Nat) : Fo → ByteArray
  | .nil => ByteArray.empty
  | .nd j u k n => if j = x then u else if x ∈ k.ids then txtF x k else txtF x n
theorem rep_txt {h : Nat → Nd} {x : Nat} : ∀ {F : Fo} {up : Nat}, Rep h up F → F.ids.Nodup → x ∈ F.ids → (h x).t = txtF x F
  | .nil, _, _, _, hx => by simp [Fo.ids] at hx
  | .nd j t k n, up, ⟨h1, h2, h3, h4⟩, hn, hx => by
    obtain ⟨n1, n2, n3, n4, n5⟩ := nodup_nd hn
    simp only [Fo.ids, List.mem_cons, List.mem_append] at hx
    unfold txtF
    by_cases e : j = x
    · subst e; rw [if_pos rfl, h2]
    · rw [if_neg e]
      by_cases hk : x ∈ k.ids
      · rw [if_pos hk]; exact rep_txt h3 n3 hk
      · rw [if_neg hk]; exact rep_txt h4 n4 (by rcases hx with g | g | g; exact absurd g.symm e; exact absurd g hk; exact g)
theorem reptop_txt {h : Nat → Nd} {x : Nat} : ∀ {F : Fo}, RepTop h F → F.ids.Nodup → x ∈ F.ids → (h x).t = txtF x F
  | .nil, _, _, hx => by simp [Fo.ids] at hx
  | .nd j t k n, ⟨h1, h2, h3, h4⟩, hn, hx => by
    obtain ⟨n1, n2, n3, n4, n5⟩ := nodup_nd hn
    simp only [Fo.ids, List.mem_cons, List.mem_append] at hx
    unfold txtF
    by_cases e : j = x
    · subst e; rw [if_pos rfl, h2]
    · rw [if_neg e]
      by_cases hk : x ∈ k.ids
      · rw [if_pos hk]; exact rep_txt h3 n3 hk
      · rw [if_neg hk]; exact reptop_txt h4 n4 (by rcases hx with g | g | g; exact absurd g.symm e; exact absurd g hk; exact g)
theorem sib_out {x : Nat} : ∀ {F : Fo} {h : Nat → Nd} {up p : Nat}, Rep h up F → F.ids.Nodup → x ∈ F.ids → p ∉ F.ids → sib x p F ∉ (sub x F).ids
  | .nil, _, _, _, _, _, hx, _ => by simp [Fo.ids] at hx
  | .nd j t k n, h, up, p, ⟨h1, h2, h3, h4⟩, hn, hx, hp => by
    obtain ⟨n1, n2, n3, n4, n5⟩ := nodup_nd hn
    simp only [Fo.ids, List.mem_cons, List.mem_append, not_or] at hx hp
    unfold sib sub
    by_cases e : j = x
    · rw [if_pos e, if_pos e]; exact hp.2.1
    · rw [if_neg e, if_neg e]
      by_cases hk : x ∈ k.ids
      · rw [if_pos hk, if_pos hk]; exact sib_out h3 n3 hk (fun g => h3.ne0 0 g rfl)
      · rw [if_neg hk, if_neg hk]; exact sib_out h4 n4 (by rcases hx with g | g | g; exact absurd g.symm e; exact absurd g hk; exact g) n2
theorem sibT_out {x : Nat} : ∀ {F : Fo} {h : Nat → Nd}, RepTop h F → F.ids.Nodup → x ∈ F.ids → x ∉ F.tops → sibT x F ∉ (sub x F).ids
  | .nil, _, _, _, hx, _ => by simp [Fo.ids] at hx
  | .nd j t k n, h, ⟨h1, h2, h3, h4⟩, hn, hx, ht => by
    obtain ⟨n1, n2, n3, n4, n5⟩ := nodup_nd hn
    simp only [Fo.ids, Fo.tops, List.mem_cons, List.mem_append, not_or] at hx ht
    unfold sibT sub
    rw [if_neg (fun e => ht.1 e.symm)]
    by_cases hk : x ∈ k.ids
    · rw [if_pos hk, if_pos hk]; exact sib_out h3 n3 hk (fun g => h3.ne0 0 g rfl)
    · rw [if_neg hk, if_neg hk]; exact sibT_out h4 n4 (by rcases hx with g | g | g; exact absurd g ht.1; exact absurd g hk; exact g) ht.2
theorem up_out {h : Nat → Nd} {x : Nat} : ∀ {F : Fo} {up : Nat}, Rep h up F → F.ids.Nodup → x ∈ F.ids → up ∉ F.ids → (h x).up ∉ (sub x F).ids
  | .nil, _, _, _, hx, _ => by simp [Fo.ids] at hx
  | .nd j t k n, up, ⟨h1, h2, h3, h4⟩, hn, hx, hp => by
    obtain ⟨n1, n2, n3, n4, n5⟩ := nodup_nd hn
    simp only [Fo.ids, List.mem_cons, List.mem_append, not_or] at hx hp
    unfold sub
    by_cases e : j = x
    · rw [if_pos e, ← e, h2]; exact hp.2.1
    · rw [if_neg e]
      by_cases hk : x ∈ k.ids
      · rw [if_pos hk]; exact up_out h3 n3 hk n1
      · rw [if_neg hk]; exact up_out h4 n4 (by rcases hx with g | g | g; exact absurd g.symm e; exact absurd g hk; exact g) hp.2.2
theorem upT_out {h : Nat → Nd} {x : Nat} : ∀ {F : Fo}, RepTop h F → F.ids.Nodup → x ∈ F.ids → x ∉ F.tops → (h x).up ∉ (sub x F).ids
  | .nil, _, _, hx, _ => by simp [Fo.ids] at hx
  | .nd j t k n, ⟨h1, h2, h3, h4⟩, hn, hx, ht => by
    obtain ⟨n1, n2, n3, n4, n5⟩ := nodup_nd hn
    simp only [Fo.ids, Fo.tops, List.mem_cons, List.mem_append, not_or] at hx ht
    unfold sub
    rw [if_neg (fun e => ht.1 e.symm)]
    by_cases hk : x ∈ k.ids
    · rw [if_pos hk]; exact up_out h3 n3 hk n1
    · rw [if_neg hk]; exact upT_out h4 n4 (by rcases hx with g | g | g; exact absurd g ht.1; exact absurd g hk; exact g) ht.2
theorem freeT_detach {h : Nat → Nd} {x a : Nat} : ∀ {F : Fo}, RepTop h F → F.ids.Nodup → x ∈ F.ids → x ∉ F.tops → a ∉ (sub x F).ids → (h x).up ∉ (sub x F).ids → Free (detachH h x a) x (h x).t (sub x F)
  | .nil, _, _, hx, _, _, _ => by simp [Fo.ids] at hx
  | .nd j u k n, ⟨h1, h2, h3, h4⟩, hn, hx, ht, ha, hu => by
    obtain ⟨n1, n2, n3, n4, n5⟩ := nodup_nd hn
    simp only [Fo.ids, Fo.tops, List.mem_cons, List.mem_append, not_or] at hx ht
    unfold sub at ha hu ⊢
    rw [if_neg (fun e => ht.1 e.symm)] at ha hu ⊢
    by_cases hk : x ∈ k.ids
    · rw [if_pos hk] at ha hu ⊢; exact free_detach h3 n3 hk ha hu
    · rw [if_neg hk] at ha hu ⊢; exact freeT_detach h4 n4 (by rcases hx with g | g | g; exact absurd g ht.1; exact absurd g hk; exact g) ht.2 ha hu
/-- The row of a number; 0: none. -/
def fndF (G : Fo) (x : Int) : Nat := if 0 ≤ x ∧ x.toNat ∈ G.ids then x.toNat else 0
theorem fndF_mem {G : Fo} {x : Int} (h : fndF G x ≠ 0) : fndF G x ∈ G.ids ∧ (fndF G x : Int) = x := by
  unfold fndF at h ⊢
  split at h
  · rename_i g; rw [if_pos g]; exact ⟨g.2, by omega⟩
  · exact absurd rfl h
/-- Under which row a change puts, and behind which. -/
def nearF (G : Fo) (id up at_ : Int) : Nat × Nat :=
  if fndF G up = 0 then (3, 0)
  else if fndF G at_ = 0 then (fndF G up, 0)
  else if par (fndF G at_) 0 G ≠ fndF G up then (fndF G up, 0)
  else if at_ = id then (fndF G up, 0)
  else (fndF G up, fndF G at_)
def putF (G : Fo) (p : Nat × Nat) (i : Nat) (t : ByteArray) (s : Fo) : Fo := if p.2 = 0 then insFirst p.1 i t s G else insAfter p.2 i t s G
/-- What a valid change makes of an outline. -/
def doF (G : Fo) (kd id up at_ : Int) (s : ByteArray) : Fo :=
  if kd = 2 then (if fndF G id = 0 then G else setF (fndF G id) s G)
  else if kd = 1 then (if fndF G id = 0 then putF G (nearF G id up at_) id.toNat s .nil else G)
  else (if fndF G id = 0 then G else if under (fndF G id) (fndF G up) G then G else putF (del (fndF G id) G) (nearF G id up at_) (fndF G id) (txtF (fndF G id) G) (sub (fndF G id) G))
structure PlaceOk (G : Fo) (id : Int) (p : Nat × Nat) : Prop where
  up : p.1 ∈ G.ids
  at_ : p.2 = 0 ∨ (p.2 ∈ G.ids ∧ par p.2 0 G = p.1 ∧ (p.2 : Int) ≠ id)
theorem near_ok {G : Fo} (h3 : 3 ∈ G.ids) (id up at_ : Int) : PlaceOk G id (nearF G id up at_) := by
  unfold nearF
  by_cases h1 : fndF G up = 0
  · rw [if_pos h1]; exact ⟨h3, Or.inl rfl⟩
  · rw [if_neg h1]
    have hu := (fndF_mem h1).1
    by_cases h2 : fndF G at_ = 0
    · rw [if_pos h2]; exact ⟨hu, Or.inl rfl⟩
    · rw [if_neg h2]
      by_cases h4 : par (fndF G at_) 0 G ≠ fndF G up
      · rw [if_pos h4]; exact ⟨hu, Or.inl rfl⟩
      · rw [if_neg h4]
        by_cases h5 : at_ = id
        · rw [if_pos h5]; exact ⟨hu, Or.inl rfl⟩
        · rw [if_neg h5]
          exact ⟨hu, Or.inr ⟨(fndF_mem h2).1, Decidable.of_not_not h4, by rw [(fndF_mem h2).2]; exact h5⟩⟩
theorem par_top {G : Fo} (h : Nat → Nd) (hr : RepTop h G) (hn : G.ids.Nodup) {x : Nat} (hx : x ∈ G.ids) (hp : par x 0 G ≠ 0) : x ∉ G.tops := fun ht => by
  rw [← reptop_par hr hn hx, reptop_root hr ht] at hp
  exact hp rfl
theorem putF_rep {h : Nat → Nd} {G : Fo} {p : Nat × Nat} {i : Nat} {t : ByteArray} {s : Fo} (hf : Free h i t s) (hr : RepTop h G) (hn : G.ids.Nodup) (hi : i ∉ G.ids) (hd : ∀ j ∈ s.ids, j ∉ G.ids) (hu : p.1 ∈ G.ids) (ha : p.2 = 0 ∨ (p.2 ∈ G.ids ∧ (h p.2).up = p.1 ∧ p.2 ∉ G.tops)) :
    RepTop (attachH h i p.1 p.2) (putF G p i t s) := by
  unfold putF
  by_cases h0 : p.2 = 0
  · rw [if_pos h0, h0]
    exact reptop_insFirst hf hr hn hi (fun g => hd _ g hu) (fun g => hi (g ▸ hu)) hd
  · rw [if_neg h0]
    obtain ⟨a1, a2, a3⟩ := ha.resolve_left h0
    exact reptop_insAfter hf h0 a2 hr hn hi a3 (fun g => hd _ g a1) (fun g => hi (g ▸ a1)) hd
theorem putF_ids {G : Fo} {p : Nat × Nat} {i : Nat} {t : ByteArray} {s : Fo} (hn : G.ids.Nodup) (hu : p.1 ∈ G.ids) (ha : p.2 = 0 ∨ p.2 ∈ G.ids) : (putF G p i t s).ids.Perm (i :: (s.ids ++ G.ids)) := by
  unfold putF
  by_cases h0 : p.2 = 0
  · rw [if_pos h0]; exact ids_insFirst _ _ _ _ G hn hu
  · rw [if_neg h0]; exact ids_insAfter _ _ _ _ G hn (ha.resolve_left h0)
theorem putF_tops {G : Fo} {p : Nat × Nat} {i : Nat} {t : ByteArray} {s : Fo} (ha : p.2 = 0 ∨ p.2 ∉ G.tops) : (putF G p i t s).tops = G.tops := by
  unfold putF
  by_cases h0 : p.2 = 0
  · rw [if_pos h0]; exact tops_insFirst _ _ _ _ G
  · rw [if_neg h0]; exact tops_insAfter _ _ _ _ G (ha.resolve_left h0)
/-- Where a row that is moved comes: nothing of it stands under itself. -/
theorem near_del {h : Nat → Nd} {G : Fo} (hr : RepTop h G) (hn : G.ids.Nodup) (h3 : 3 ∈ G.tops) {i : Nat} (hi : i ∈ G.ids) (hit : i ∉ G.tops) {id up at_ : Int} (hid : (i : Int) = id) (hw : ¬ under i (fndF G up) G) :
    (nearF G id up at_).1 ∈ (del i G).ids ∧ ((nearF G id up at_).2 = 0 ∨ ((nearF G id up at_).2 ∈ (del i G).ids ∧ (h (nearF G id up at_).2).up = (nearF G id up at_).1 ∧ (nearF G id up at_).2 ∉ (del i G).tops ∧ (nearF G id up at_).2 ≠ i)) := by
  have hp := near_ok (G := G) (tops_ids h3) id up at_
  have hperm := ids_del i G hn hi
  have hmem : ∀ y, y ∈ G.ids → y ≠ i → y ∉ (sub i G).ids → y ∈ (del i G).ids := fun y hy h1 h2 => by
    have := hperm.mem_iff.1 hy
    simp only [List.mem_cons, List.mem_append] at this
    rcases this with g | g | g
    · exact absurd g h1
    · exact absurd g h2
    · exact g
  have ht : (del i G).tops = G.tops := tops_del i G hit
  have hu : (nearF G id up at_).1 ∈ (del i G).ids := by
    by_cases h1 : fndF G up = 0
    · have : nearF G id up at_ = (3, 0) := by unfold nearF; rw [if_pos h1]
      rw [this]
      exact tops_ids (ht ▸ h3)
    · have : (nearF G id up at_).1 = fndF G up := by
        unfold nearF
        rw [if_neg h1]
        split
        · rfl
        · split
          · rfl
          · split <;> rfl
      rw [this]
      refine hmem _ (fndF_mem h1).1 (fun g => hw ⟨hi, Or.inl g⟩) (fun g => hw ⟨hi, Or.inr g⟩)
  refine ⟨hu, ?_⟩
  rcases hp.at_ with h0 | ⟨h1, h2, h4⟩
  · exact Or.inl h0
  · right
    have e : (h (nearF G id up at_).2).up = (nearF G id up at_).1 := (reptop_par hr hn h1).trans h2
    have hne : (nearF G id up at_).2 ≠ i := fun g => h4 (by rw [g]; exact hid)
    have hp0 : (nearF G id up at_).1 ≠ 0 := hr.ne0 _ hp.up
    refine ⟨hmem _ h1 hne fun g => ?_, e, ?_, hne⟩
    · obtain ⟨r1, _⟩ := reptop_sub hr hn hi
      have hd := hperm.nodup_iff.1 hn
      rcases rep_up r1 (sub_nodup i hn) g with g2 | g2
      · rw [e] at g2
        have : i ∉ (del i G).ids := fun g3 => by
          have := List.nodup_cons.1 hd
          exact this.1 (List.mem_append_right _ g3)
        exact this (g2 ▸ hu)
      · rw [e] at g2
        have := (List.nodup_append.1 (List.nodup_cons.1 hd).2).2.2
        exact this _ g2 _ hu rfl
    · rw [ht]
      exact par_top h hr hn h1 (by rw [h2]; exact hp0)
end Go.Proofs.YtkopimbbgckcnaaDoor.FP
namespace Go.Proofs.YtkopimbbgckcnaaDoor.P
open Go.RowKit Go.Proofs.YtkopimbbgckcnaaDoorW.PrintWords
def impl_RowWho.f (a0 : Int) : Option (Int × Bool) := some (if ownI a0 = 0 then (0, false) else (ownI a0 - 1, true))
set_option maxHeartbeats 800000 in
theorem impl_RowWho.calls (a0 : Int) (r1 : Int) (r2 : Bool) (w : World) (h : impl_RowWho.f a0 = some (r1, r2)) (hG : Glob w) :
    Calls Tryd.prog 75 #[.int .i64 a0] w fun e w' => e = .returned (.tuple #[.int .i64 r1, .bool r2]) ∧ Drawn0 w w' := by
  unfold impl_RowWho.f at h
  by_cases h0 : 0 ≤ a0
  · by_cases h1 : a0 < 37
    · have hc := hG.at_ a0 h0 h1
      have hr := ownI_range a0
      generalize ownI a0 = z at hc hr h
      by_cases hz : z = 0
      · subst hz
        simp only [if_true, Option.some.injEq, Prod.mk.injEq] at h
        obtain ⟨rfl, rfl⟩ := h
        clear hr hG
        go_enter Tryd.func75, Tryd.ntmps75
        go_wp2
        go_ret2
        exact ⟨rfl, Drawn0.refl _⟩
      · rw [if_neg hz] at h
        simp only [Option.some.injEq, Prod.mk.injEq] at h
        obtain ⟨rfl, rfl⟩ := h
        have hz1 : (z == 0) = false := beq_eq_false_iff_ne.2 hz
        have hr1 : 0 ≤ z := hr.1
        have hr2 : z ≤ 4 := hr.2
        clear hr hG
        go_enter Tryd.func75, Tryd.ntmps75
        go_wp2
        go_ret2
        exact ⟨rfl, Drawn0.refl _⟩
    · have e : ownI a0 = 0 := by rw [ownI, if_neg (by omega)]
      rw [if_pos e] at h
      simp only [Option.some.injEq, Prod.mk.injEq] at h
      obtain ⟨rfl, rfl⟩ := h
      clear e hG
      go_enter Tryd.func75, Tryd.ntmps75
      go_wp2
      go_ret2
      exact ⟨rfl, Drawn0.refl _⟩
  · have e : ownI a0 = 0 := by rw [ownI, if_neg (by omega)]
    rw [if_pos e] at h
    simp only [Option.some.injEq, Prod.mk.injEq] at h
    obtain ⟨rfl, rfl⟩ := h
    clear e hG
    have hlt : a0 < 0 := by omega
    go_enter Tryd.func75, Tryd.ntmps75
    go_wp2
    go_ret2
    exact ⟨rfl, Drawn0.refl _⟩
end Go.Proofs.YtkopimbbgckcnaaDoor.P
namespace Go.Proofs.YtkopimbbgckcnaaDoor.P
open Go.RowKit Go.Proofs.YtkopimbbgckcnaaDoorW.PrintWords Go.Proofs.YtkopimbbgckcnaaDoorW.PrintLast
set_option linter.unusedVariables false
set_option linter.unusedSimpArgs false
def impl_isMade.f (a0 : Int) : Option (Bool) := (impl_RowWho.f a0).bind fun bt267 => (if bt267.2 = true then (some (bt267.1 != 0)) else (some false))
set_option maxHeartbeats 8000000 in
set_option maxRecDepth 100000 in
theorem impl_isMade.calls (a0 : Int) (r : Bool) (w : World) (h : impl_isMade.f a0 = some r) (hG : Glob w) :
  Calls Tryd.prog 64 #[.int .i64 a0] w fun e w' => e = .returned (.bool r) ∧ Drawn0 w w' := by
 have HG := Aside0.mk hG
 clear hG
 have H : ((impl_RowWho.f a0).bind fun bt267 => (if bt267.2 = true then (some (bt267.1 != 0)) else (some false))) = some r := h
 clear h
 replace H := Option.bind_eq_some_iff.mp H
 obtain ⟨⟨t267, t268⟩, A20, H⟩ := H
 replace H : (if t268 = true then (some (t267 != 0)) else (some false)) = some r := H
 have A2 := Aside0.mk A20
 clear A20
 by_cases c3 : t268 = true
 ·subst c3
  have H1 : (some (t267 != 0)) = some r := by rw [if_pos rfl] at H; exact H
  clear H
  have H := H1
  clear H1
  obtain rfl := Option.some.inj H
  go_enter Tryd.func64, Tryd.ntmps64
  go_wp2_with (first | ((with_reducible refine gate_callee (f := 75) rfl ?_); refine gl_ 7 Tryd.func75 #[.int .i64 a0] ?_; (with_reducible refine (impl_RowWho.calls a0 t267 true _ A2.out ?side1).mono ?_); (case side1 => repeat (first | (with_reducible first | exact HG.out | apply Glob.drewN | apply Glob.drew) | exact HG.out)); rintro e w' ⟨rfl, ⟨nd, rfl⟩⟩; refine ⟨_, rfl, ?_⟩))
  go_ret
  exact ⟨si_, by repeat (first | exact Drawn0.refl _ | apply Drawn0.step)⟩
 ·replace c3 := Bool.eq_false_iff.mpr c3
  subst c3
  have H1 : (some false) = some r := by rw [if_neg (show ¬ (false = true) by decide)] at H; exact H
  clear H
  have H := H1
  clear H1
  obtain rfl := Option.some.inj H
  go_enter Tryd.func64, Tryd.ntmps64
  go_wp2_with (first | ((with_reducible refine gate_callee (f := 75) rfl ?_); refine gl_ 7 Tryd.func75 #[.int .i64 a0] ?_; (with_reducible refine (impl_RowWho.calls a0 t267 false _ A2.out ?side1).mono ?_); (case side1 => repeat (first | (with_reducible first | exact HG.out | apply Glob.drewN | apply Glob.drew) | exact HG.out)); rintro e w' ⟨rfl, ⟨nd, rfl⟩⟩; refine ⟨_, rfl, ?_⟩))
  go_ret
  exact ⟨si_, by repeat (first | exact Drawn0.refl _ | apply Drawn0.step)⟩

def impl_isRoot.f (a0 : Int) : Option (Bool) := (impl_RowWho.f a0).bind fun bt269 => (if bt269.2 = true then (some (bt269.1 == 0)) else (some false))
set_option maxHeartbeats 8000000 in
set_option maxRecDepth 100000 in
theorem impl_isRoot.calls (a0 : Int) (r : Bool) (w : World) (h : impl_isRoot.f a0 = some r) (hG : Glob w) :
  Calls Tryd.prog 54 #[.int .i64 a0] w fun e w' => e = .returned (.bool r) ∧ Drawn0 w w' := by
 have HG := Aside0.mk hG
 clear hG
 have H : ((impl_RowWho.f a0).bind fun bt269 => (if bt269.2 = true then (some (bt269.1 == 0)) else (some false))) = some r := h
 clear h
 replace H := Option.bind_eq_some_iff.mp H
 obtain ⟨⟨t269, t270⟩, A20, H⟩ := H
 replace H : (if t270 = true then (some (t269 == 0)) else (some false)) = some r := H
 have A2 := Aside0.mk A20
 clear A20
 by_cases c3 : t270 = true
 ·subst c3
  have H1 : (some (t269 == 0)) = some r := by rw [if_pos rfl] at H; exact H
  clear H
  have H := H1
  clear H1
  obtain rfl := Option.some.inj H
  go_enter Tryd.func54, Tryd.ntmps54
  go_wp2_with (first | ((with_reducible refine gate_callee (f := 75) rfl ?_); refine gl_ 7 Tryd.func75 #[.int .i64 a0] ?_; (with_reducible refine (impl_RowWho.calls a0 t269 true _ A2.out ?side1).mono ?_); (case side1 => repeat (first | (with_reducible first | exact HG.out | apply Glob.drewN | apply Glob.drew) | exact HG.out)); rintro e w' ⟨rfl, ⟨nd, rfl⟩⟩; refine ⟨_, rfl, ?_⟩))
  go_ret
  exact ⟨si_, by repeat (first | exact Drawn0.refl _ | apply Drawn0.step)⟩
 ·replace c3 := Bool.eq_false_iff.mpr c3
  subst c3
  have H1 : (some false) = some r := by rw [if_neg (show ¬ (false = true) by decide)] at H; exact H
  clear H
  have H := H1
  clear H1
  obtain rfl := Option.some.inj H
  go_enter Tryd.func54, Tryd.ntmps54
  go_wp2_with (first | ((with_reducible refine gate_callee (f := 75) rfl ?_); refine gl_ 7 Tryd.func75 #[.int .i64 a0] ?_; (with_reducible refine (impl_RowWho.calls a0 t269 false _ A2.out ?side1).mono ?_); (case side1 => repeat (first | (with_reducible first | exact HG.out | apply Glob.drewN | apply Glob.drew) | exact HG.out)); rintro e w' ⟨rfl, ⟨nd, rfl⟩⟩; refine ⟨_, rfl, ?_⟩))
  go_ret
  exact ⟨si_, by repeat (first | exact Drawn0.refl _ | apply Drawn0.step)⟩

def impl_placeOk.f (a0 : Int) (a1 : Int) : Option (Bool) := (impl_isMade.f a0).bind fun t271 => (if t271 = true then (if a1 = 0 then (some true) else ((impl_isMade.f a1).bind fun t272 => (some t272))) else ((impl_isRoot.f a0).bind fun t273 => (if t273 = true then (if a1 = 0 then (some true) else ((impl_isMade.f a1).bind fun t274 => (some t274))) else (some false))))
set_option maxHeartbeats 8000000 in
set_option maxRecDepth 100000 in
theorem impl_placeOk.calls (a0 : Int) (a1 : Int) (r : Bool) (w : World) (h : impl_placeOk.f a0 a1 = some r) (hG : Glob w) :
  Calls Tryd.prog 65 #[.int .i64 a0, .int .i64 a1] w fun e w' => e = .returned (.bool r) ∧ Drawn0 w w' := by
 have HG := Aside0.mk hG
 clear hG
 have H : ((impl_isMade.f a0).bind fun t271 => (if t271 = true then (if a1 = 0 then (some true) else ((impl_isMade.f a1).bind fun t272 => (some t272))) else ((impl_isRoot.f a0).bind fun t273 => (if t273 = true then (if a1 = 0 then (some true) else ((impl_isMade.f a1).bind fun t274 => (some t274))) else (some false))))) = some r := h
 clear h
 replace H := Option.bind_eq_some_iff.mp H
 obtain ⟨t271, A30, H⟩ := H
 replace H : (if t271 = true then (if a1 = 0 then (some true) else ((impl_isMade.f a1).bind fun t272 => (some t272))) else ((impl_isRoot.f a0).bind fun t273 => (if t273 = true then (if a1 = 0 then (some true) else ((impl_isMade.f a1).bind fun t274 => (some t274))) else (some false)))) = some r := H
 have A3 := Aside0.mk A30
 clear A30
 by_cases c4 : t271 = true
 ·subst c4
  have H1 : (if a1 = 0 then (some true) else ((impl_isMade.f a1).bind fun t272 => (some t272))) = some r := by rw [if_pos rfl] at H; exact H
  clear H
  have H := H1
  clear H1
  by_cases c5 : a1 = 0
  ·rw [if_pos c5] at H
   have c5b0 : (a1 == 0) = true := beq_iff_eq.mpr c5
   have c5b1 : (a1 != 0) = false := bne_eq_false_iff_eq.mpr c5
   clear c5
   obtain rfl := Option.some.inj H
   go_enter Tryd.func65, Tryd.ntmps65
   go_wp2_with (first | ((with_reducible refine gate_callee (f := 64) rfl ?_); refine gl_ 6 Tryd.func64 #[.int .i64 a0] ?_; (with_reducible refine (impl_isMade.calls a0 true _ A3.out ?side1).mono ?_); (case side1 => repeat (first | (with_reducible first | exact HG.out | apply Glob.drewN | apply Glob.drew) | exact HG.out)); rintro e w' ⟨rfl, ⟨nd, rfl⟩⟩; refine ⟨_, rfl, ?_⟩))
   go_ret
   exact ⟨si_, by repeat (first | exact Drawn0.refl _ | apply Drawn0.step)⟩
  ·rw [if_neg c5] at H
   have c5b0 : (a1 == 0) = false := beq_eq_false_iff_ne.mpr c5
   have c5b1 : (a1 != 0) = true := bne_iff_ne.mpr c5
   replace H := Option.bind_eq_some_iff.mp H
   obtain ⟨t272, A60, H⟩ := H
   replace H : (some t272) = some r := H
   have A6 := Aside0.mk A60
   clear A60
   obtain rfl := Option.some.inj H
   go_enter Tryd.func65, Tryd.ntmps65
   go_wp2_with (first | ((with_reducible refine gate_callee (f := 64) rfl ?_); refine gl_ 6 Tryd.func64 #[.int .i64 a0] ?_; (with_reducible refine (impl_isMade.calls a0 true _ A3.out ?side1).mono ?_); (case side1 => repeat (first | (with_reducible first | exact HG.out | apply Glob.drewN | apply Glob.drew) | exact HG.out)); rintro e w' ⟨rfl, ⟨nd, rfl⟩⟩; refine ⟨_, rfl, ?_⟩) | (go_at_call 64; (with_reducible refine (impl_isMade.calls a1 t272 _ A6.out ?side1).mono ?_); (case side1 => repeat (first | (with_reducible first | exact HG.out | apply Glob.drewN | apply Glob.drew) | exact HG.out)); rintro e w' ⟨rfl, ⟨nd, rfl⟩⟩))
   go_ret
   exact ⟨si_, by repeat (first | exact Drawn0.refl _ | apply Drawn0.step)⟩
 ·replace c4 := Bool.eq_false_iff.mpr c4
  subst c4
  have H1 : ((impl_isRoot.f a0).bind fun t273 => (if t273 = true then (if a1 = 0 then (some true) else ((impl_isMade.f a1).bind fun t274 => (some t274))) else (some false))) = some r := by rw [if_neg (show ¬ (false = true) by decide)] at H; exact H
  clear H
  have H := H1
  clear H1
  replace H := Option.bind_eq_some_iff.mp H
  obtain ⟨t273, A70, H⟩ := H
  replace H : (if t273 = true then (if a1 = 0 then (some true) else ((impl_isMade.f a1).bind fun t274 => (some t274))) else (some false)) = some r := H
  have A7 := Aside0.mk A70
  clear A70
  by_cases c8 : t273 = true
  ·subst c8
   have H1 : (if a1 = 0 then (some true) else ((impl_isMade.f a1).bind fun t274 => (some t274))) = some r := by rw [if_pos rfl] at H; exact H
   clear H
   have H := H1
   clear H1
   by_cases c9 : a1 = 0
   ·rw [if_pos c9] at H
    have c9b0 : (a1 == 0) = true := beq_iff_eq.mpr c9
    have c9b1 : (a1 != 0) = false := bne_eq_false_iff_eq.mpr c9
    clear c9
    obtain rfl := Option.some.inj H
    go_enter Tryd.func65, Tryd.ntmps65
    go_wp2_with (first | ((with_reducible refine gate_callee (f := 64) rfl ?_); refine gl_ 6 Tryd.func64 #[.int .i64 a0] ?_; (with_reducible refine (impl_isMade.calls a0 false _ A3.out ?side1).mono ?_); (case side1 => repeat (first | (with_reducible first | exact HG.out | apply Glob.drewN | apply Glob.drew) | exact HG.out)); rintro e w' ⟨rfl, ⟨nd, rfl⟩⟩; refine ⟨_, rfl, ?_⟩) | (go_at_call 54; (with_reducible refine (impl_isRoot.calls a0 true _ A7.out ?side1).mono ?_); (case side1 => repeat (first | (with_reducible first | exact HG.out | apply Glob.drewN | apply Glob.drew) | exact HG.out)); rintro e w' ⟨rfl, ⟨nd, rfl⟩⟩))
    go_ret
    exact ⟨si_, by repeat (first | exact Drawn0.refl _ | apply Drawn0.step)⟩
   ·rw [if_neg c9] at H
    have c9b0 : (a1 == 0) = false := beq_eq_false_iff_ne.mpr c9
    have c9b1 : (a1 != 0) = true := bne_iff_ne.mpr c9
    replace H := Option.bind_eq_some_iff.mp H
    obtain ⟨t274, A100, H⟩ := H
    replace H : (some t274) = some r := H
    have A10 := Aside0.mk A100
    clear A100
    obtain rfl := Option.some.inj H
    go_enter Tryd.func65, Tryd.ntmps65
    go_wp2_with (first | ((with_reducible refine gate_callee (f := 64) rfl ?_); refine gl_ 6 Tryd.func64 #[.int .i64 a0] ?_; (with_reducible refine (impl_isMade.calls a0 false _ A3.out ?side1).mono ?_); (case side1 => repeat (first | (with_reducible first | exact HG.out | apply Glob.drewN | apply Glob.drew) | exact HG.out)); rintro e w' ⟨rfl, ⟨nd, rfl⟩⟩; refine ⟨_, rfl, ?_⟩) | (go_at_call 54; (with_reducible refine (impl_isRoot.calls a0 true _ A7.out ?side1).mono ?_); (case side1 => repeat (first | (with_reducible first | exact HG.out | apply Glob.drewN | apply Glob.drew) | exact HG.out)); rintro e w' ⟨rfl, ⟨nd, rfl⟩⟩) | (go_at_call 64; (with_reducible refine (impl_isMade.calls a1 t274 _ A10.out ?side1).mono ?_); (case side1 => repeat (first | (with_reducible first | exact HG.out | apply Glob.drewN | apply Glob.drew) | exact HG.out)); rintro e w' ⟨rfl, ⟨nd, rfl⟩⟩))
    go_ret
    exact ⟨si_, by repeat (first | exact Drawn0.refl _ | apply Drawn0.step)⟩
  ·replace c8 := Bool.eq_false_iff.mpr c8
   subst c8
   have H1 : (some false) = some r := by rw [if_neg (show ¬ (false = true) by decide)] at H; exact H
   clear H
   have H := H1
   clear H1
   obtain rfl := Option.some.inj H
   go_enter Tryd.func65, Tryd.ntmps65
   go_wp2_with (first | ((with_reducible refine gate_callee (f := 64) rfl ?_); refine gl_ 6 Tryd.func64 #[.int .i64 a0] ?_; (with_reducible refine (impl_isMade.calls a0 false _ A3.out ?side1).mono ?_); (case side1 => repeat (first | (with_reducible first | exact HG.out | apply Glob.drewN | apply Glob.drew) | exact HG.out)); rintro e w' ⟨rfl, ⟨nd, rfl⟩⟩; refine ⟨_, rfl, ?_⟩) | (go_at_call 54; (with_reducible refine (impl_isRoot.calls a0 false _ A7.out ?side1).mono ?_); (case side1 => repeat (first | (with_reducible first | exact HG.out | apply Glob.drewN | apply Glob.drew) | exact HG.out)); rintro e w' ⟨rfl, ⟨nd, rfl⟩⟩))
   go_ret
   exact ⟨si_, by repeat (first | exact Drawn0.refl _ | apply Drawn0.step)⟩

def impl_textOk.l0 : Nat → ByteArray → Int → Option (Bool)
 | 0, _, _ => none
 | k + 1, x0, x3 => if x3 < (x0.size : Int) then (if 0 ≤ x3 then (if (bt x0 x3) < 97 then (some false) else (if (bt x0 x3) > 100 then (some false) else (impl_textOk.l0 k x0 (wrap64 (x3 + 1))))) else (none)) else (some true)
def impl_textOk.f (k : Nat) (a0 : ByteArray) : Option (Bool) := if (a0.size : Int) > 4 then (some false) else (impl_textOk.l0 k a0 0)
theorem impl_textOk.mono_l : ∀ k, (∀ y0 y1, LeO (impl_textOk.l0 k y0 y1) (impl_textOk.l0 (k + 1) y0 y1))
 | 0 => fun _ _ r h => by simp [impl_textOk.l0] at h
 | k + 1 => by
  have ih0 := impl_textOk.mono_l k
  ·intro y0 y1
   unfold impl_textOk.l0
   repeat' first
   | (with_reducible exact ih0 _ _)
   | (with_reducible exact LeO.refl _)
   | (with_reducible exact LeO.none _)
   | (with_reducible refine LeO.ite ?_ ?_)
   | (with_reducible refine LeO.bind ?_ (fun _ => ?_))
   | exact ih0 _ _
   | exact LeO.none _
   | refine LeO.ite ?_ ?_
   | refine LeO.bind ?_ (fun _ => ?_)
theorem impl_textOk.mono : ∀ a0 k, LeO (impl_textOk.f k a0) (impl_textOk.f (k + 1) a0) := by
 intro a0 k
 have ih0 := impl_textOk.mono_l k
 unfold impl_textOk.f
 repeat' first
   | (with_reducible exact ih0 _ _)
   | (with_reducible exact LeO.refl _)
   | (with_reducible exact LeO.none _)
   | (with_reducible refine LeO.ite ?_ ?_)
   | (with_reducible refine LeO.bind ?_ (fun _ => ?_))
   | exact ih0 _ _
   | exact LeO.none _
   | refine LeO.ite ?_ ?_
   | refine LeO.bind ?_ (fun _ => ?_)
set_option maxHeartbeats 8000000 in
set_option maxRecDepth 100000 in
theorem impl_textOk.calls (k : Nat) (a0 : ByteArray) (r : Bool) (w : World) (h : impl_textOk.f k a0 = some r) :
  Calls Tryd.prog 66 #[.string a0] w fun e w' => e = .returned (.bool r) ∧ Drawn0 w w' := by
 have H : (if (a0.size : Int) > 4 then (some false) else (impl_textOk.l0 k a0 0)) = some r := h
 clear h
 by_cases c2 : (a0.size : Int) > 4
 ·rw [if_pos c2] at H
  have c2b0 : decide (4 < (a0.size : Int)) = true := decide_eq_true c2
  have c2b1 : decide (4 < a0.size) = true := decide_eq_true (by omega)
  clear c2
  obtain rfl := Option.some.inj H
  go_enter Tryd.func66, Tryd.ntmps66
  go_wp2
  go_ret
  exact ⟨si_, by repeat (first | exact Drawn0.refl _ | apply Drawn0.step)⟩
 ·rw [if_neg c2] at H
  have c2b0 : decide (4 < (a0.size : Int)) = false := decide_eq_false c2
  have c2b1 : decide (4 < a0.size) = false := decide_eq_false (by omega)
  clear c2
  have H' := Aside0.mk H
  clear H
  go_enter Tryd.func66, Tryd.ntmps66
  go_wp2
  go_loopg [3] k (fun kq v3 w' => ∃ (x3_1 : Int), v3 = .int .i64 x3_1 ∧ Aside0 (impl_textOk.l0 kq a0 x3_1 = some r) ∧ Aside0 (kq ≤ k) ∧ Drawn0 w w')
  case atStart => exact ⟨(0), (si_), H', ⟨Nat.le_refl _⟩, by repeat (first | exact Drawn0.refl _ | apply Drawn0.step)⟩
  case round =>
   clear H'
   try clear c2
   try clear c2b0
   try clear c2b1
   try clear p2
   obtain ⟨x3_1, rfl, HA, HK1, ⟨m1, rfl⟩⟩ := hrel
   cases gk with
   | zero => exact absurd HA.out (by simp [impl_textOk.l0])
   | succ k1 =>
    have H := HA.out
    clear HA
    simp only [impl_textOk.l0] at H
    by_cases c3 : x3_1 < (a0.size : Int)
    ·rw [if_pos c3] at H
     have c3b0 : decide (x3_1 < (a0.size : Int)) = true := decide_eq_true c3
     clear c3
     by_cases c4 : 0 ≤ x3_1
     ·rw [if_pos c4] at H
      have c4b0 : decide (0 ≤ x3_1) = true := decide_eq_true c4
      clear c4
      by_cases c6 : (bt a0 x3_1) < 97
      ·rw [if_pos c6] at H
       have c6b0 : decide ((bt a0 x3_1) < 97) = true := decide_eq_true c6
       clear c6
       obtain rfl := Option.some.inj H
       have p5 : 0 ≤ (x3_1 : Int) := od_
       have q5 : x3_1 < (a0.size : Int) := od_
       have hx5 := bt_at a0 x3_1
       replace p5 := eq_true p5
       replace q5 := eq_true q5
       go_wp2
       go_ret
       exact ⟨si_, by repeat (first | exact Drawn0.refl _ | apply Drawn0.step)⟩
      ·rw [if_neg c6] at H
       have c6b0 : decide ((bt a0 x3_1) < 97) = false := decide_eq_false c6
       clear c6
       by_cases c8 : (bt a0 x3_1) > 100
       ·rw [if_pos c8] at H
        have c8b0 : decide (100 < (bt a0 x3_1)) = true := decide_eq_true c8
        clear c8
        obtain rfl := Option.some.inj H
        have p5 : 0 ≤ (x3_1 : Int) := od_
        have q5 : x3_1 < (a0.size : Int) := od_
        have hx5 := bt_at a0 x3_1
        replace p5 := eq_true p5
        replace q5 := eq_true q5
        have p7 : 0 ≤ (x3_1 : Int) := od_
        have q7 : x3_1 < (a0.size : Int) := od_
        have hx7 := bt_at a0 x3_1
        replace p7 := eq_true p7
        replace q7 := eq_true q7
        go_wp2
        go_ret
        exact ⟨si_, by repeat (first | exact Drawn0.refl _ | apply Drawn0.step)⟩
       ·rw [if_neg c8] at H
        have c8b0 : decide (100 < (bt a0 x3_1)) = false := decide_eq_false c8
        clear c8
        have H' := Aside0.mk H
        clear H
        have p5 : 0 ≤ (x3_1 : Int) := od_
        have q5 : x3_1 < (a0.size : Int) := od_
        have hx5 := bt_at a0 x3_1
        replace p5 := eq_true p5
        replace q5 := eq_true q5
        have p7 : 0 ≤ (x3_1 : Int) := od_
        have q7 : x3_1 < (a0.size : Int) := od_
        have hx7 := bt_at a0 x3_1
        replace p7 := eq_true p7
        replace q7 := eq_true q7
        go_wp2
        go_roundg k1
        case measure => have := HK1.out; omega
        case rel => exact ⟨(wrap64 (x3_1 + 1)), (si_), H', ⟨by have := HK1.out; omega⟩, by repeat (first | exact Drawn0.refl _ | apply Drawn0.step)⟩
     ·rw [if_neg c4] at H
      exact absurd H (by simp)
    ·rw [if_neg c3] at H
     have c3b0 : decide (x3_1 < (a0.size : Int)) = false := decide_eq_false c3
     clear c3
     obtain rfl := Option.some.inj H
     go_wp2
     go_ret
     exact ⟨si_, by repeat (first | exact Drawn0.refl _ | apply Drawn0.step)⟩


def impl_RowOk.f (k : Nat) (a0_0 : Int) (a0_1 : Int) (a0_2 : ByteArray) : Option (Bool) := (impl_isRoot.f a0_0).bind fun t276 => (if t276 = true then (if a0_1 = 0 then (some (a0_2.toList == ([] : List UInt8))) else (some false)) else ((impl_isMade.f a0_0).bind fun t277 => (if t277 = true then (if a0_1 ≥ 1 then (if a0_1 ≤ 18 then ((impl_textOk.f k a0_2).bind fun t278 => (some t278)) else (some false)) else (some false)) else (some false))))
theorem impl_RowOk.mono : ∀ a0 a1 a2 k, LeO (impl_RowOk.f k a0 a1 a2) (impl_RowOk.f (k + 1) a0 a1 a2) := by
 intro a0 a1 a2 k
 unfold impl_RowOk.f
 repeat' first
   | (with_reducible exact impl_textOk.mono _ _)
   | (with_reducible exact LeO.refl _)
   | (with_reducible exact LeO.none _)
   | (with_reducible refine LeO.ite ?_ ?_)
   | (with_reducible refine LeO.bind ?_ (fun _ => ?_))
   | exact impl_textOk.mono _ _
   | exact LeO.none _
   | refine LeO.ite ?_ ?_
   | refine LeO.bind ?_ (fun _ => ?_)
set_option maxHeartbeats 8000000 in
set_option maxRecDepth 100000 in
theorem impl_RowOk.calls (k : Nat) (a0_0 : Int) (a0_1 : Int) (a0_2 : ByteArray) (r : Bool) (w : World) (h : impl_RowOk.f k a0_0 a0_1 a0_2 = some r) (hG : Glob w) :
  Calls Tryd.prog 53 #[.agg #[.int .i64 a0_0, .int .i64 a0_1, .string a0_2]] w fun e w' => e = .returned (.bool r) ∧ Below w.heap.size w w' := by
 have hu43 := Tryd.underlying43
 have HB := Aside0.mk (Below.refl w.heap.size w)
 have HG := Aside0.mk hG
 clear hG
 have H : ((impl_isRoot.f a0_0).bind fun t276 => (if t276 = true then (if a0_1 = 0 then (some (a0_2.toList == ([] : List UInt8))) else (some false)) else ((impl_isMade.f a0_0).bind fun t277 => (if t277 = true then (if a0_1 ≥ 1 then (if a0_1 ≤ 18 then ((impl_textOk.f k a0_2).bind fun t278 => (some t278)) else (some false)) else (some false)) else (some false))))) = some r := h
 clear h
 replace H := Option.bind_eq_some_iff.mp H
 obtain ⟨t276, A20, H⟩ := H
 replace H : (if t276 = true then (if a0_1 = 0 then (some (a0_2.toList == ([] : List UInt8))) else (some false)) else ((impl_isMade.f a0_0).bind fun t277 => (if t277 = true then (if a0_1 ≥ 1 then (if a0_1 ≤ 18 then ((impl_textOk.f k a0_2).bind fun t278 => (some t278)) else (some false)) else (some false)) else (some false)))) = some r := H
 have A2 := Aside0.mk A20
 clear A20
 by_cases c3 : t276 = true
 ·subst c3
  have H1 : (if a0_1 = 0 then (some (a0_2.toList == ([] : List UInt8))) else (some false)) = some r := by rw [if_pos rfl] at H; exact H
  clear H
  have H := H1
  clear H1
  by_cases c4 : a0_1 = 0
  ·rw [if_pos c4] at H
   have c4b0 : (a0_1 == 0) = true := beq_iff_eq.mpr c4
   have c4b1 : (a0_1 != 0) = false := bne_eq_false_iff_eq.mpr c4
   clear c4
   obtain rfl := Option.some.inj H
   go_enter Tryd.func53, Tryd.ntmps53
   go_wp2_with (first | ((with_reducible refine gate_dst (N := 1) rfl ?_); refine box_event ?hg (N := 1) ?hd (cs := #[.int .i64 a0_0, .int .i64 a0_1, .string a0_2]) (t := 43) ?hr ?_; (case hd => rfl); (case hg => rfl); (case hr => first | (go_simp; done) | (go_simp; rfl)); intro gb275 hg w5 hbox hb; have n0_ := Aside0.mk (below_step (bel_) hb); have n1_ := Aside0.mk (hbox); have n2_ := Aside0.mk ((by rw [hg]; exact (below_size (bel_)) : w.heap.size ≤ gb275)); have n3_ := Aside0.mk ((by rw [hg]; exact (below_size (bel_)) : w.heap.size ≤ gb275)); clear HB; have HB := n0_; have BK275 := n1_; have GW275 := n2_; have GE275 := n3_; clear n0_ n1_ n2_ n3_; clear hb hbox hg; have hcz6_0 : w5.cell? ⟨gb275, 0, none⟩ = some (.int .i64 a0_0) := (blk_cell BK275.out 0).trans rfl; have hcz6_1 : w5.cell? ⟨gb275, 1, none⟩ = some (.int .i64 a0_1) := (blk_cell BK275.out 1).trans rfl; have hcz6_2 : w5.cell? ⟨gb275, 2, none⟩ = some (.string a0_2) := (blk_cell BK275.out 2).trans rfl; have hfz6_0 := blk_frozen BK275.out 0; have hfz6_1 := blk_frozen BK275.out 1; have hfz6_2 := blk_frozen BK275.out 2) | ((with_reducible refine gate_callee (f := 54) rfl ?_); refine gl_ 5 Tryd.func54 #[.int .i64 a0_0] ?_; (with_reducible refine (impl_isRoot.calls a0_0 true _ A2.out ?side1).mono ?_); (case side1 => exact Glob.below HG.out (bel_)); rintro e w' ⟨rfl, ⟨nd, rfl⟩⟩; refine ⟨_, rfl, ?_⟩))
   go_ret
   exact ⟨fi_, bel_⟩
  ·rw [if_neg c4] at H
   have c4b0 : (a0_1 == 0) = false := beq_eq_false_iff_ne.mpr c4
   have c4b1 : (a0_1 != 0) = true := bne_iff_ne.mpr c4
   obtain rfl := Option.some.inj H
   go_enter Tryd.func53, Tryd.ntmps53
   go_wp2_with (first | ((with_reducible refine gate_dst (N := 1) rfl ?_); refine box_event ?hg (N := 1) ?hd (cs := #[.int .i64 a0_0, .int .i64 a0_1, .string a0_2]) (t := 43) ?hr ?_; (case hd => rfl); (case hg => rfl); (case hr => first | (go_simp; done) | (go_simp; rfl)); intro gb275 hg w7 hbox hb; have n0_ := Aside0.mk (below_step (bel_) hb); have n1_ := Aside0.mk (hbox); have n2_ := Aside0.mk ((by rw [hg]; exact (below_size (bel_)) : w.heap.size ≤ gb275)); have n3_ := Aside0.mk ((by rw [hg]; exact (below_size (bel_)) : w.heap.size ≤ gb275)); clear HB; have HB := n0_; have BK275 := n1_; have GW275 := n2_; have GE275 := n3_; clear n0_ n1_ n2_ n3_; clear hb hbox hg; have hcz8_0 : w7.cell? ⟨gb275, 0, none⟩ = some (.int .i64 a0_0) := (blk_cell BK275.out 0).trans rfl; have hcz8_1 : w7.cell? ⟨gb275, 1, none⟩ = some (.int .i64 a0_1) := (blk_cell BK275.out 1).trans rfl; have hcz8_2 : w7.cell? ⟨gb275, 2, none⟩ = some (.string a0_2) := (blk_cell BK275.out 2).trans rfl; have hfz8_0 := blk_frozen BK275.out 0; have hfz8_1 := blk_frozen BK275.out 1; have hfz8_2 := blk_frozen BK275.out 2) | ((with_reducible refine gate_callee (f := 54) rfl ?_); refine gl_ 5 Tryd.func54 #[.int .i64 a0_0] ?_; (with_reducible refine (impl_isRoot.calls a0_0 true _ A2.out ?side1).mono ?_); (case side1 => exact Glob.below HG.out (bel_)); rintro e w' ⟨rfl, ⟨nd, rfl⟩⟩; refine ⟨_, rfl, ?_⟩))
   go_ret
   exact ⟨fi_, bel_⟩
 ·replace c3 := Bool.eq_false_iff.mpr c3
  subst c3
  have H1 : ((impl_isMade.f a0_0).bind fun t277 => (if t277 = true then (if a0_1 ≥ 1 then (if a0_1 ≤ 18 then ((impl_textOk.f k a0_2).bind fun t278 => (some t278)) else (some false)) else (some false)) else (some false))) = some r := by rw [if_neg (show ¬ (false = true) by decide)] at H; exact H
  clear H
  have H := H1
  clear H1
  replace H := Option.bind_eq_some_iff.mp H
  obtain ⟨t277, A90, H⟩ := H
  replace H : (if t277 = true then (if a0_1 ≥ 1 then (if a0_1 ≤ 18 then ((impl_textOk.f k a0_2).bind fun t278 => (some t278)) else (some false)) else (some false)) else (some false)) = some r := H
  have A9 := Aside0.mk A90
  clear A90
  by_cases c10 : t277 = true
  ·subst c10
   have H1 : (if a0_1 ≥ 1 then (if a0_1 ≤ 18 then ((impl_textOk.f k a0_2).bind fun t278 => (some t278)) else (some false)) else (some false)) = some r := by rw [if_pos rfl] at H; exact H
   clear H
   have H := H1
   clear H1
   by_cases c11 : a0_1 ≥ 1
   ·rw [if_pos c11] at H
    have c11b0 : decide (1 ≤ a0_1) = true := decide_eq_true c11
    clear c11
    by_cases c12 : a0_1 ≤ 18
    ·rw [if_pos c12] at H
     have c12b0 : decide (a0_1 ≤ 18) = true := decide_eq_true c12
     clear c12
     replace H := Option.bind_eq_some_iff.mp H
     obtain ⟨t278, A130, H⟩ := H
     replace H : (some t278) = some r := H
     have A13 := Aside0.mk A130
     clear A130
     obtain rfl := Option.some.inj H
     go_enter Tryd.func53, Tryd.ntmps53
     go_wp2_with (first | ((with_reducible refine gate_dst (N := 1) rfl ?_); refine box_event ?hg (N := 1) ?hd (cs := #[.int .i64 a0_0, .int .i64 a0_1, .string a0_2]) (t := 43) ?hr ?_; (case hd => rfl); (case hg => rfl); (case hr => first | (go_simp; done) | (go_simp; rfl)); intro gb275 hg w14 hbox hb; have n0_ := Aside0.mk (below_step (bel_) hb); have n1_ := Aside0.mk (hbox); have n2_ := Aside0.mk ((by rw [hg]; exact (below_size (bel_)) : w.heap.size ≤ gb275)); have n3_ := Aside0.mk ((by rw [hg]; exact (below_size (bel_)) : w.heap.size ≤ gb275)); clear HB; have HB := n0_; have BK275 := n1_; have GW275 := n2_; have GE275 := n3_; clear n0_ n1_ n2_ n3_; clear hb hbox hg; have hcz15_0 : w14.cell? ⟨gb275, 0, none⟩ = some (.int .i64 a0_0) := (blk_cell BK275.out 0).trans rfl; have hcz15_1 : w14.cell? ⟨gb275, 1, none⟩ = some (.int .i64 a0_1) := (blk_cell BK275.out 1).trans rfl; have hcz15_2 : w14.cell? ⟨gb275, 2, none⟩ = some (.string a0_2) := (blk_cell BK275.out 2).trans rfl; have hfz15_0 := blk_frozen BK275.out 0; have hfz15_1 := blk_frozen BK275.out 1; have hfz15_2 := blk_frozen BK275.out 2) | ((with_reducible refine gate_callee (f := 54) rfl ?_); refine gl_ 5 Tryd.func54 #[.int .i64 a0_0] ?_; (with_reducible refine (impl_isRoot.calls a0_0 false _ A2.out ?side1).mono ?_); (case side1 => exact Glob.below HG.out (bel_)); rintro e w' ⟨rfl, ⟨nd, rfl⟩⟩; refine ⟨_, rfl, ?_⟩) | ((with_reducible refine gate_callee (f := 64) rfl ?_); refine gl_ 16 Tryd.func64 #[.int .i64 a0_0] ?_; (with_reducible refine (impl_isMade.calls a0_0 true _ A9.out ?side1).mono ?_); (case side1 => exact Glob.below HG.out (bel_)); rintro e w' ⟨rfl, ⟨nd, rfl⟩⟩; refine ⟨_, rfl, ?_⟩) | (go_at_call 66; (with_reducible refine (impl_textOk.calls k a0_2 t278 _ A13.out).mono ?_); rintro e w' ⟨rfl, ⟨nd, rfl⟩⟩))
     go_ret
     exact ⟨fi_, bel_⟩
    ·rw [if_neg c12] at H
     have c12b0 : decide (a0_1 ≤ 18) = false := decide_eq_false c12
     clear c12
     obtain rfl := Option.some.inj H
     go_enter Tryd.func53, Tryd.ntmps53
     go_wp2_with (first | ((with_reducible refine gate_dst (N := 1) rfl ?_); refine box_event ?hg (N := 1) ?hd (cs := #[.int .i64 a0_0, .int .i64 a0_1, .string a0_2]) (t := 43) ?hr ?_; (case hd => rfl); (case hg => rfl); (case hr => first | (go_simp; done) | (go_simp; rfl)); intro gb275 hg w16 hbox hb; have n0_ := Aside0.mk (below_step (bel_) hb); have n1_ := Aside0.mk (hbox); have n2_ := Aside0.mk ((by rw [hg]; exact (below_size (bel_)) : w.heap.size ≤ gb275)); have n3_ := Aside0.mk ((by rw [hg]; exact (below_size (bel_)) : w.heap.size ≤ gb275)); clear HB; have HB := n0_; have BK275 := n1_; have GW275 := n2_; have GE275 := n3_; clear n0_ n1_ n2_ n3_; clear hb hbox hg; have hcz17_0 : w16.cell? ⟨gb275, 0, none⟩ = some (.int .i64 a0_0) := (blk_cell BK275.out 0).trans rfl; have hcz17_1 : w16.cell? ⟨gb275, 1, none⟩ = some (.int .i64 a0_1) := (blk_cell BK275.out 1).trans rfl; have hcz17_2 : w16.cell? ⟨gb275, 2, none⟩ = some (.string a0_2) := (blk_cell BK275.out 2).trans rfl; have hfz17_0 := blk_frozen BK275.out 0; have hfz17_1 := blk_frozen BK275.out 1; have hfz17_2 := blk_frozen BK275.out 2) | ((with_reducible refine gate_callee (f := 54) rfl ?_); refine gl_ 5 Tryd.func54 #[.int .i64 a0_0] ?_; (with_reducible refine (impl_isRoot.calls a0_0 false _ A2.out ?side1).mono ?_); (case side1 => exact Glob.below HG.out (bel_)); rintro e w' ⟨rfl, ⟨nd, rfl⟩⟩; refine ⟨_, rfl, ?_⟩) | ((with_reducible refine gate_callee (f := 64) rfl ?_); refine gl_ 16 Tryd.func64 #[.int .i64 a0_0] ?_; (with_reducible refine (impl_isMade.calls a0_0 true _ A9.out ?side1).mono ?_); (case side1 => exact Glob.below HG.out (bel_)); rintro e w' ⟨rfl, ⟨nd, rfl⟩⟩; refine ⟨_, rfl, ?_⟩))
     go_ret
     exact ⟨fi_, bel_⟩
   ·rw [if_neg c11] at H
    have c11b0 : decide (1 ≤ a0_1) = false := decide_eq_false c11
    clear c11
    obtain rfl := Option.some.inj H
    go_enter Tryd.func53, Tryd.ntmps53
    go_wp2_with (first | ((with_reducible refine gate_dst (N := 1) rfl ?_); refine box_event ?hg (N := 1) ?hd (cs := #[.int .i64 a0_0, .int .i64 a0_1, .string a0_2]) (t := 43) ?hr ?_; (case hd => rfl); (case hg => rfl); (case hr => first | (go_simp; done) | (go_simp; rfl)); intro gb275 hg w18 hbox hb; have n0_ := Aside0.mk (below_step (bel_) hb); have n1_ := Aside0.mk (hbox); have n2_ := Aside0.mk ((by rw [hg]; exact (below_size (bel_)) : w.heap.size ≤ gb275)); have n3_ := Aside0.mk ((by rw [hg]; exact (below_size (bel_)) : w.heap.size ≤ gb275)); clear HB; have HB := n0_; have BK275 := n1_; have GW275 := n2_; have GE275 := n3_; clear n0_ n1_ n2_ n3_; clear hb hbox hg; have hcz19_0 : w18.cell? ⟨gb275, 0, none⟩ = some (.int .i64 a0_0) := (blk_cell BK275.out 0).trans rfl; have hcz19_1 : w18.cell? ⟨gb275, 1, none⟩ = some (.int .i64 a0_1) := (blk_cell BK275.out 1).trans rfl; have hcz19_2 : w18.cell? ⟨gb275, 2, none⟩ = some (.string a0_2) := (blk_cell BK275.out 2).trans rfl; have hfz19_0 := blk_frozen BK275.out 0; have hfz19_1 := blk_frozen BK275.out 1; have hfz19_2 := blk_frozen BK275.out 2) | ((with_reducible refine gate_callee (f := 54) rfl ?_); refine gl_ 5 Tryd.func54 #[.int .i64 a0_0] ?_; (with_reducible refine (impl_isRoot.calls a0_0 false _ A2.out ?side1).mono ?_); (case side1 => exact Glob.below HG.out (bel_)); rintro e w' ⟨rfl, ⟨nd, rfl⟩⟩; refine ⟨_, rfl, ?_⟩) | ((with_reducible refine gate_callee (f := 64) rfl ?_); refine gl_ 16 Tryd.func64 #[.int .i64 a0_0] ?_; (with_reducible refine (impl_isMade.calls a0_0 true _ A9.out ?side1).mono ?_); (case side1 => exact Glob.below HG.out (bel_)); rintro e w' ⟨rfl, ⟨nd, rfl⟩⟩; refine ⟨_, rfl, ?_⟩))
    go_ret
    exact ⟨fi_, bel_⟩
  ·replace c10 := Bool.eq_false_iff.mpr c10
   subst c10
   have H1 : (some false) = some r := by rw [if_neg (show ¬ (false = true) by decide)] at H; exact H
   clear H
   have H := H1
   clear H1
   obtain rfl := Option.some.inj H
   go_enter Tryd.func53, Tryd.ntmps53
   go_wp2_with (first | ((with_reducible refine gate_dst (N := 1) rfl ?_); refine box_event ?hg (N := 1) ?hd (cs := #[.int .i64 a0_0, .int .i64 a0_1, .string a0_2]) (t := 43) ?hr ?_; (case hd => rfl); (case hg => rfl); (case hr => first | (go_simp; done) | (go_simp; rfl)); intro gb275 hg w20 hbox hb; have n0_ := Aside0.mk (below_step (bel_) hb); have n1_ := Aside0.mk (hbox); have n2_ := Aside0.mk ((by rw [hg]; exact (below_size (bel_)) : w.heap.size ≤ gb275)); have n3_ := Aside0.mk ((by rw [hg]; exact (below_size (bel_)) : w.heap.size ≤ gb275)); clear HB; have HB := n0_; have BK275 := n1_; have GW275 := n2_; have GE275 := n3_; clear n0_ n1_ n2_ n3_; clear hb hbox hg; have hcz21_0 : w20.cell? ⟨gb275, 0, none⟩ = some (.int .i64 a0_0) := (blk_cell BK275.out 0).trans rfl; have hcz21_1 : w20.cell? ⟨gb275, 1, none⟩ = some (.int .i64 a0_1) := (blk_cell BK275.out 1).trans rfl; have hcz21_2 : w20.cell? ⟨gb275, 2, none⟩ = some (.string a0_2) := (blk_cell BK275.out 2).trans rfl; have hfz21_0 := blk_frozen BK275.out 0; have hfz21_1 := blk_frozen BK275.out 1; have hfz21_2 := blk_frozen BK275.out 2) | ((with_reducible refine gate_callee (f := 54) rfl ?_); refine gl_ 5 Tryd.func54 #[.int .i64 a0_0] ?_; (with_reducible refine (impl_isRoot.calls a0_0 false _ A2.out ?side1).mono ?_); (case side1 => exact Glob.below HG.out (bel_)); rintro e w' ⟨rfl, ⟨nd, rfl⟩⟩; refine ⟨_, rfl, ?_⟩) | ((with_reducible refine gate_callee (f := 64) rfl ?_); refine gl_ 16 Tryd.func64 #[.int .i64 a0_0] ?_; (with_reducible refine (impl_isMade.calls a0_0 false _ A9.out ?side1).mono ?_); (case side1 => exact Glob.below HG.out (bel_)); rintro e w' ⟨rfl, ⟨nd, rfl⟩⟩; refine ⟨_, rfl, ?_⟩))
   go_ret
   exact ⟨fi_, bel_⟩

end Go.Proofs.YtkopimbbgckcnaaDoor.P
