/- Joined by a program (wip/shake.py): the declarations that 'YtdpklbomhdpimaaDoorCardFnExactClientOk' reaches. -/
import Derived.Test.YtdpklbomhdpimaaDoorZLf2
set_option linter.unusedVariables false
set_option linter.unusedSimpArgs false
set_option linter.unusedSectionVars false
namespace Go.Proofs.YtdpklbomhdpimaaDoor.P
open Go.RowKit Go.Proofs.YtdpklbomhdpimaaDoorW.PrintWords Go.Proofs.YtdpklbomhdpimaaDoorW.PrintLast
def laws_eqRow.f (a0_0 : Int) (a0_1 : Int) (a0_2 : ByteArray) (a1_0 : Int) (a1_1 : Int) (a1_2 : ByteArray) : Option (Bool) := if a0_0 = a1_0 then (if a0_1 = a1_1 then (if a0_2.toList = a1_2.toList then (some true) else (some false)) else (some false)) else (some false)
set_option maxHeartbeats 8000000 in
set_option maxRecDepth 100000 in
theorem laws_eqRow.calls (a0_0 : Int) (a0_1 : Int) (a0_2 : ByteArray) (a1_0 : Int) (a1_1 : Int) (a1_2 : ByteArray) (r : Bool) (w : World) (h : laws_eqRow.f a0_0 a0_1 a0_2 a1_0 a1_1 a1_2 = some r) :
  Calls Tryd.prog 101 #[.agg #[.int .i64 a0_0, .int .i64 a0_1, .string a0_2], .agg #[.int .i64 a1_0, .int .i64 a1_1, .string a1_2]] w fun e w' => e = .returned (.bool r) ∧ Below w.heap.size w w' := by
 have hu69 := Tryd.underlying69
 have HB := Aside0.mk (Below.refl w.heap.size w)
 unfold laws_eqRow.f at h
 have H := h
 clear h
 by_cases c3 : a0_0 = a1_0
 ·rw [if_pos c3] at H
  have c3b0 : (a0_0 == a1_0) = true := beq_iff_eq.mpr c3
  have c3b1 : (a0_0 != a1_0) = false := bne_eq_false_iff_eq.mpr c3
  clear c3
  by_cases c4 : a0_1 = a1_1
  ·rw [if_pos c4] at H
   have c4b0 : (a0_1 == a1_1) = true := beq_iff_eq.mpr c4
   have c4b1 : (a0_1 != a1_1) = false := bne_eq_false_iff_eq.mpr c4
   clear c4
   by_cases c5 : a0_2.toList = a1_2.toList
   ·rw [if_pos c5] at H
    have c5b0 : (a0_2.toList == a1_2.toList) = true := beq_iff_eq.mpr c5
    have c5b1 : (a0_2.toList != a1_2.toList) = false := bne_eq_false_iff_eq.mpr c5
    clear c5
    obtain rfl := Option.some.inj H
    go_enter Tryd.func101, Tryd.ntmps101
    go_wp2_with (first | ((with_reducible refine gate_dst (N := 2) rfl ?_); refine bx_ 2 (#[.int .i64 a0_0, .int .i64 a0_1, .string a0_2]) 69 ?_; intro gb1069 hg w6 hbox hb; have n0_ := Aside0.mk (below_step (bel_) hb); have n1_ := Aside0.mk (hbox); have n2_ := Aside0.mk ((by rw [hg]; exact (below_size (bel_)) : w.heap.size ≤ gb1069)); have n3_ := Aside0.mk ((by rw [hg]; exact (below_size (bel_)) : w.heap.size ≤ gb1069)); clear HB; have HB := n0_; have BK1069 := n1_; have GW1069 := n2_; have GE1069 := n3_; clear n0_ n1_ n2_ n3_; clear hb hbox hg) | ((with_reducible refine gate_dst (N := 3) rfl ?_); refine bx_ 3 (#[.int .i64 a1_0, .int .i64 a1_1, .string a1_2]) 69 ?_; intro gb1070 hg w7 hbox hb; have n0_ := Aside0.mk (bb_ BK1069.out hb); have n1_ := Aside0.mk (below_step (bel_) hb); have n2_ := Aside0.mk (hbox); have n3_ := Aside0.mk ((by rw [hg]; exact (below_size (bel_)) : w.heap.size ≤ gb1070)); have n4_ := Aside0.mk ((by rw [hg]; exact (below_size (bel_)) : w.heap.size ≤ gb1070)); have n5_ := Aside0.mk ((by rw [hg]; exact Nat.ne_of_lt (blk_lt (g := gb1069) (o := .cells #[.int .i64 a0_0, .int .i64 a0_1, .string a0_2] 69 (0, 0)) (bp_ BK1069.out)) : gb1069 ≠ gb1070)); have n6_ := Aside0.mk ((by rw [hg]; exact Nat.ne_of_gt (blk_lt (g := gb1069) (o := .cells #[.int .i64 a0_0, .int .i64 a0_1, .string a0_2] 69 (0, 0)) (bp_ BK1069.out)) : gb1070 ≠ gb1069)); clear BK1069; clear HB; have BK1069 := n0_; have HB := n1_; have BK1070 := n2_; have GW1070 := n3_; have GE1070 := n4_; have NB1069_1070 := n5_; have NB1070_1069 := n6_; clear n0_ n1_ n2_ n3_ n4_ n5_ n6_; clear hb hbox hg; have hnb8 := NB1069_1070.out; have hnc8 := NB1070_1069.out; have hcz9_0 := cz_ BK1069.out 0 (.int .i64 a0_0); have hcz9_1 := cz_ BK1069.out 1 (.int .i64 a0_1); have hcz9_2 := cz_ BK1069.out 2 (.string a0_2); have hfz9_0 := blk_frozen BK1069.out 0; have hfz9_1 := blk_frozen BK1069.out 1; have hfz9_2 := blk_frozen BK1069.out 2; have hcz10_0 := cz_ BK1070.out 0 (.int .i64 a1_0); have hcz10_1 := cz_ BK1070.out 1 (.int .i64 a1_1); have hcz10_2 := cz_ BK1070.out 2 (.string a1_2); have hfz10_0 := blk_frozen BK1070.out 0; have hfz10_1 := blk_frozen BK1070.out 1; have hfz10_2 := blk_frozen BK1070.out 2))
    go_ret
    exact ⟨fi_, bel_⟩
   ·rw [if_neg c5] at H
    have c5b0 : (a0_2.toList == a1_2.toList) = false := beq_eq_false_iff_ne.mpr c5
    have c5b1 : (a0_2.toList != a1_2.toList) = true := bne_iff_ne.mpr c5
    obtain rfl := Option.some.inj H
    go_enter Tryd.func101, Tryd.ntmps101
    go_wp2_with (first | ((with_reducible refine gate_dst (N := 2) rfl ?_); refine bx_ 2 (#[.int .i64 a0_0, .int .i64 a0_1, .string a0_2]) 69 ?_; intro gb1069 hg w11 hbox hb; have n0_ := Aside0.mk (below_step (bel_) hb); have n1_ := Aside0.mk (hbox); have n2_ := Aside0.mk ((by rw [hg]; exact (below_size (bel_)) : w.heap.size ≤ gb1069)); have n3_ := Aside0.mk ((by rw [hg]; exact (below_size (bel_)) : w.heap.size ≤ gb1069)); clear HB; have HB := n0_; have BK1069 := n1_; have GW1069 := n2_; have GE1069 := n3_; clear n0_ n1_ n2_ n3_; clear hb hbox hg) | ((with_reducible refine gate_dst (N := 3) rfl ?_); refine bx_ 3 (#[.int .i64 a1_0, .int .i64 a1_1, .string a1_2]) 69 ?_; intro gb1070 hg w12 hbox hb; have n0_ := Aside0.mk (bb_ BK1069.out hb); have n1_ := Aside0.mk (below_step (bel_) hb); have n2_ := Aside0.mk (hbox); have n3_ := Aside0.mk ((by rw [hg]; exact (below_size (bel_)) : w.heap.size ≤ gb1070)); have n4_ := Aside0.mk ((by rw [hg]; exact (below_size (bel_)) : w.heap.size ≤ gb1070)); have n5_ := Aside0.mk ((by rw [hg]; exact Nat.ne_of_lt (blk_lt (g := gb1069) (o := .cells #[.int .i64 a0_0, .int .i64 a0_1, .string a0_2] 69 (0, 0)) (bp_ BK1069.out)) : gb1069 ≠ gb1070)); have n6_ := Aside0.mk ((by rw [hg]; exact Nat.ne_of_gt (blk_lt (g := gb1069) (o := .cells #[.int .i64 a0_0, .int .i64 a0_1, .string a0_2] 69 (0, 0)) (bp_ BK1069.out)) : gb1070 ≠ gb1069)); clear BK1069; clear HB; have BK1069 := n0_; have HB := n1_; have BK1070 := n2_; have GW1070 := n3_; have GE1070 := n4_; have NB1069_1070 := n5_; have NB1070_1069 := n6_; clear n0_ n1_ n2_ n3_ n4_ n5_ n6_; clear hb hbox hg; have hnb13 := NB1069_1070.out; have hnc13 := NB1070_1069.out; have hcz14_0 := cz_ BK1069.out 0 (.int .i64 a0_0); have hcz14_1 := cz_ BK1069.out 1 (.int .i64 a0_1); have hcz14_2 := cz_ BK1069.out 2 (.string a0_2); have hfz14_0 := blk_frozen BK1069.out 0; have hfz14_1 := blk_frozen BK1069.out 1; have hfz14_2 := blk_frozen BK1069.out 2; have hcz15_0 := cz_ BK1070.out 0 (.int .i64 a1_0); have hcz15_1 := cz_ BK1070.out 1 (.int .i64 a1_1); have hcz15_2 := cz_ BK1070.out 2 (.string a1_2); have hfz15_0 := blk_frozen BK1070.out 0; have hfz15_1 := blk_frozen BK1070.out 1; have hfz15_2 := blk_frozen BK1070.out 2))
    go_ret
    exact ⟨fi_, bel_⟩
  ·rw [if_neg c4] at H
   have c4b0 : (a0_1 == a1_1) = false := beq_eq_false_iff_ne.mpr c4
   have c4b1 : (a0_1 != a1_1) = true := bne_iff_ne.mpr c4
   obtain rfl := Option.some.inj H
   go_enter Tryd.func101, Tryd.ntmps101
   go_wp2_with (first | ((with_reducible refine gate_dst (N := 2) rfl ?_); refine bx_ 2 (#[.int .i64 a0_0, .int .i64 a0_1, .string a0_2]) 69 ?_; intro gb1069 hg w16 hbox hb; have n0_ := Aside0.mk (below_step (bel_) hb); have n1_ := Aside0.mk (hbox); have n2_ := Aside0.mk ((by rw [hg]; exact (below_size (bel_)) : w.heap.size ≤ gb1069)); have n3_ := Aside0.mk ((by rw [hg]; exact (below_size (bel_)) : w.heap.size ≤ gb1069)); clear HB; have HB := n0_; have BK1069 := n1_; have GW1069 := n2_; have GE1069 := n3_; clear n0_ n1_ n2_ n3_; clear hb hbox hg) | ((with_reducible refine gate_dst (N := 3) rfl ?_); refine bx_ 3 (#[.int .i64 a1_0, .int .i64 a1_1, .string a1_2]) 69 ?_; intro gb1070 hg w17 hbox hb; have n0_ := Aside0.mk (bb_ BK1069.out hb); have n1_ := Aside0.mk (below_step (bel_) hb); have n2_ := Aside0.mk (hbox); have n3_ := Aside0.mk ((by rw [hg]; exact (below_size (bel_)) : w.heap.size ≤ gb1070)); have n4_ := Aside0.mk ((by rw [hg]; exact (below_size (bel_)) : w.heap.size ≤ gb1070)); have n5_ := Aside0.mk ((by rw [hg]; exact Nat.ne_of_lt (blk_lt (g := gb1069) (o := .cells #[.int .i64 a0_0, .int .i64 a0_1, .string a0_2] 69 (0, 0)) (bp_ BK1069.out)) : gb1069 ≠ gb1070)); have n6_ := Aside0.mk ((by rw [hg]; exact Nat.ne_of_gt (blk_lt (g := gb1069) (o := .cells #[.int .i64 a0_0, .int .i64 a0_1, .string a0_2] 69 (0, 0)) (bp_ BK1069.out)) : gb1070 ≠ gb1069)); clear BK1069; clear HB; have BK1069 := n0_; have HB := n1_; have BK1070 := n2_; have GW1070 := n3_; have GE1070 := n4_; have NB1069_1070 := n5_; have NB1070_1069 := n6_; clear n0_ n1_ n2_ n3_ n4_ n5_ n6_; clear hb hbox hg; have hnb18 := NB1069_1070.out; have hnc18 := NB1070_1069.out; have hcz19_0 := cz_ BK1069.out 0 (.int .i64 a0_0); have hcz19_1 := cz_ BK1069.out 1 (.int .i64 a0_1); have hcz19_2 := cz_ BK1069.out 2 (.string a0_2); have hfz19_0 := blk_frozen BK1069.out 0; have hfz19_1 := blk_frozen BK1069.out 1; have hfz19_2 := blk_frozen BK1069.out 2; have hcz20_0 := cz_ BK1070.out 0 (.int .i64 a1_0); have hcz20_1 := cz_ BK1070.out 1 (.int .i64 a1_1); have hcz20_2 := cz_ BK1070.out 2 (.string a1_2); have hfz20_0 := blk_frozen BK1070.out 0; have hfz20_1 := blk_frozen BK1070.out 1; have hfz20_2 := blk_frozen BK1070.out 2))
   go_ret
   exact ⟨fi_, bel_⟩
 ·rw [if_neg c3] at H
  have c3b0 : (a0_0 == a1_0) = false := beq_eq_false_iff_ne.mpr c3
  have c3b1 : (a0_0 != a1_0) = true := bne_iff_ne.mpr c3
  obtain rfl := Option.some.inj H
  go_enter Tryd.func101, Tryd.ntmps101
  go_wp2_with (first | ((with_reducible refine gate_dst (N := 2) rfl ?_); refine bx_ 2 (#[.int .i64 a0_0, .int .i64 a0_1, .string a0_2]) 69 ?_; intro gb1069 hg w21 hbox hb; have n0_ := Aside0.mk (below_step (bel_) hb); have n1_ := Aside0.mk (hbox); have n2_ := Aside0.mk ((by rw [hg]; exact (below_size (bel_)) : w.heap.size ≤ gb1069)); have n3_ := Aside0.mk ((by rw [hg]; exact (below_size (bel_)) : w.heap.size ≤ gb1069)); clear HB; have HB := n0_; have BK1069 := n1_; have GW1069 := n2_; have GE1069 := n3_; clear n0_ n1_ n2_ n3_; clear hb hbox hg) | ((with_reducible refine gate_dst (N := 3) rfl ?_); refine bx_ 3 (#[.int .i64 a1_0, .int .i64 a1_1, .string a1_2]) 69 ?_; intro gb1070 hg w22 hbox hb; have n0_ := Aside0.mk (bb_ BK1069.out hb); have n1_ := Aside0.mk (below_step (bel_) hb); have n2_ := Aside0.mk (hbox); have n3_ := Aside0.mk ((by rw [hg]; exact (below_size (bel_)) : w.heap.size ≤ gb1070)); have n4_ := Aside0.mk ((by rw [hg]; exact (below_size (bel_)) : w.heap.size ≤ gb1070)); have n5_ := Aside0.mk ((by rw [hg]; exact Nat.ne_of_lt (blk_lt (g := gb1069) (o := .cells #[.int .i64 a0_0, .int .i64 a0_1, .string a0_2] 69 (0, 0)) (bp_ BK1069.out)) : gb1069 ≠ gb1070)); have n6_ := Aside0.mk ((by rw [hg]; exact Nat.ne_of_gt (blk_lt (g := gb1069) (o := .cells #[.int .i64 a0_0, .int .i64 a0_1, .string a0_2] 69 (0, 0)) (bp_ BK1069.out)) : gb1070 ≠ gb1069)); clear BK1069; clear HB; have BK1069 := n0_; have HB := n1_; have BK1070 := n2_; have GW1070 := n3_; have GE1070 := n4_; have NB1069_1070 := n5_; have NB1070_1069 := n6_; clear n0_ n1_ n2_ n3_ n4_ n5_ n6_; clear hb hbox hg; have hnb23 := NB1069_1070.out; have hnc23 := NB1070_1069.out; have hcz24_0 := cz_ BK1069.out 0 (.int .i64 a0_0); have hcz24_1 := cz_ BK1069.out 1 (.int .i64 a0_1); have hcz24_2 := cz_ BK1069.out 2 (.string a0_2); have hfz24_0 := blk_frozen BK1069.out 0; have hfz24_1 := blk_frozen BK1069.out 1; have hfz24_2 := blk_frozen BK1069.out 2; have hcz25_0 := cz_ BK1070.out 0 (.int .i64 a1_0); have hcz25_1 := cz_ BK1070.out 1 (.int .i64 a1_1); have hcz25_2 := cz_ BK1070.out 2 (.string a1_2); have hfz25_0 := blk_frozen BK1070.out 0; have hfz25_1 := blk_frozen BK1070.out 1; have hfz25_2 := blk_frozen BK1070.out 2))
  go_ret
  exact ⟨fi_, bel_⟩

def laws_eqRowS.l0 : Nat → List (S69) → List (S69) → Int → Option (Bool)
 | 0, _, _, _ => none
 | k + 1, x0, x1, x5 => if x5 < (x0.length : Int) then (if 0 ≤ x5 then (if x5 < (x1.length : Int) then ((laws_eqRow.f ((rd_T69 x0 x5).f0) ((rd_T69 x0 x5).f1) ((rd_T69 x0 x5).f2) ((rd_T69 x1 x5).f0) ((rd_T69 x1 x5).f1) ((rd_T69 x1 x5).f2)).bind fun t1073 => (if t1073 = true then (laws_eqRowS.l0 k x0 x1 (wrap64 (x5 + 1))) else (some false))) else (none)) else (none)) else (some true)
def laws_eqRowS.f (k : Nat) (l0 : List (S69)) (l1 : List (S69)) : Option (Bool) := if (l0.length : Int) = (l1.length : Int) then (laws_eqRowS.l0 k l0 l1 0) else (some false)
theorem laws_eqRowS.mono_l : ∀ k, (∀ y0 y1 y2, LeO (laws_eqRowS.l0 k y0 y1 y2) (laws_eqRowS.l0 (k + 1) y0 y1 y2))
 | 0 => fun _ _ _ r h => by simp [laws_eqRowS.l0] at h
 | k + 1 => by
  have ih0 := laws_eqRowS.mono_l k
  ·intro y0 y1 y2
   unfold laws_eqRowS.l0
   repeat' first
   | (with_reducible exact ih0 _ _ _)
   | (with_reducible exact LeO.refl _)
   | (with_reducible exact LeO.none _)
   | (with_reducible refine LeO.ite ?_ ?_)
   | (with_reducible refine LeO.bind ?_ (fun _ => ?_))
   | exact ih0 _ _ _
   | exact LeO.none _
   | refine LeO.ite ?_ ?_
   | refine LeO.bind ?_ (fun _ => ?_)
theorem laws_eqRowS.mono : ∀ a0 a1 k, LeO (laws_eqRowS.f k a0 a1) (laws_eqRowS.f (k + 1) a0 a1) := by
 intro a0 a1 k
 have ih0 := laws_eqRowS.mono_l k
 unfold laws_eqRowS.f
 repeat' first
   | (with_reducible exact ih0 _ _ _)
   | (with_reducible exact LeO.refl _)
   | (with_reducible exact LeO.none _)
   | (with_reducible refine LeO.ite ?_ ?_)
   | (with_reducible refine LeO.bind ?_ (fun _ => ?_))
   | exact ih0 _ _ _
   | exact LeO.none _
   | refine LeO.ite ?_ ?_
   | refine LeO.bind ?_ (fun _ => ?_)
def laws_eqRowS.T6 : Bool × List (List Nat × List Nat) := (true, [([], []), ([], []), ([0, 1], [0, 1]), ([2], [2]), ([], []), ([], []), ([4, 5], [4, 5]), ([6], [6]), ([3, 7], [3, 7]), ([8], [8])])
def laws_eqRowS.B6 : List Nat := [0, 0, 3, 7, 0, 0, 48, 112, 255, 511]
theorem laws_eqRowS.tab6 : rtab .any (opsOf Tryd.f51 6) = laws_eqRowS.T6 := by kernel_rfl
theorem laws_eqRowS.bits6 : waitsOk laws_eqRowS.T6.2 laws_eqRowS.B6 = true := by kernel_rfl
set_option maxHeartbeats 8000000 in
set_option maxRecDepth 100000 in
theorem laws_eqRowS.calls (k : Nat) (A0 : Option Addr) (c0 : Nat) (l0 : List (S69)) (A1 : Option Addr) (c1 : Nat) (l1 : List (S69)) (r : Bool) (w : World) (hr0 : Kd.C k69 w A0 l0.length l0) (hc0 : l0.length ≤ c0) (hr1 : Kd.C k69 w A1 l1.length l1) (hc1 : l1.length ≤ c1) (h : laws_eqRowS.f k l0 l1 = some r) :
  Calls Tryd.prog 51 #[.slice A0 l0.length c0, .slice A1 l1.length c1] w fun e w' => e = .returned (.bool r) ∧ Below w.heap.size w w' := by
 have hu69 := Tryd.underlying69
 have HR0 := Aside0.mk hr0
 have HC0 := Aside0.mk hc0
 clear hr0 hc0
 have HR1 := Aside0.mk hr1
 have HC1 := Aside0.mk hc1
 clear hr1 hc1
 have HB := Aside0.mk (Below.refl w.heap.size w)
 unfold laws_eqRowS.f at h
 have H := h
 clear h
 by_cases c3 : (l0.length : Int) = (l1.length : Int)
 ·rw [if_pos c3] at H
  have c3b0 : ((l0.length : Int) == (l1.length : Int)) = true := beq_iff_eq.mpr c3
  have c3b1 : ((l0.length : Int) != (l1.length : Int)) = false := bne_eq_false_iff_eq.mpr c3
  have c3b2 : (l0.length == l1.length) = true := by first | simpa using c3 | (simp at c3 ⊢; omega)
  clear c3
  have H' := Aside0.mk H
  clear H
  go_enter Tryd.func51, Tryd.ntmps51
  go_wp2
  go_loopg [5] k (fun kq v5 w' => ∃ (x5_1 : Int), v5 = .int .i64 x5_1 ∧ Aside0 (laws_eqRowS.l0 kq l0 l1 x5_1 = some r) ∧ Aside0 (kq ≤ k) ∧ Aside0 (Below w.heap.size w w'))
  case atStart => exact ⟨(0), (si_), H', ⟨Nat.le_refl _⟩, ⟨bel_⟩⟩
  case round =>
   clear H'
   try clear c1
   try clear p2
   try clear c3
   try clear c3b0
   try clear c3b1
   try clear c3b2
   obtain ⟨x5_1, rfl, HA, HK1, HB⟩ := hrel
   cases gk with
   | zero => exact absurd HA.out (by simp [laws_eqRowS.l0])
   | succ k1 =>
    have H := HA.out
    clear HA
    simp only [laws_eqRowS.l0] at H
    by_cases c4 : x5_1 < (l0.length : Int)
    ·rw [if_pos c4] at H
     have c4b0 : decide (x5_1 < (l0.length : Int)) = true := decide_eq_true c4
     clear c4
     by_cases c5 : 0 ≤ x5_1
     ·rw [if_pos c5] at H
      have c5b0 : decide (0 ≤ x5_1) = true := decide_eq_true c5
      clear c5
      by_cases c6 : x5_1 < (l1.length : Int)
      ·rw [if_pos c6] at H
       have c6b0 : decide (x5_1 < (l1.length : Int)) = true := decide_eq_true c6
       clear c6
       replace H := Option.bind_eq_some_iff.mp H
       obtain ⟨t1073, A70, H⟩ := H
       try dsimp only at H
       have A7 := Aside0.mk A70
       clear A70
       by_cases c8 : t1073 = true
       ·subst c8
        have H1 : (laws_eqRowS.l0 k1 l0 l1 (wrap64 (x5_1 + 1))) = some r := by rw [if_pos rfl] at H; exact H
        clear H
        have H := H1
        clear H1
        have H' := Aside0.mk H
        clear H
        try go_wp2
        have n0_ := Aside0.mk (below_drew1 HB.out)
        clear HB
        have HB := n0_
        clear n0_
        have p1071 : 0 ≤ (x5_1 : Int) := od_
        have q1071 : x5_1 < (l0.length : Int) := od_
        obtain ⟨ad1071, e1071, hx1071_0, hx1071_1, hx1071_2⟩ := at_T69 HR0.out x5_1 p1071 q1071
        have hw1071_2 := hx1071_2
        have hw1071_1 := hx1071_1
        have hw1071_0 := hx1071_0
        cases e1071
        replace hx1071_0 := (cb_ HB.out hx1071_0 :)
        replace hx1071_1 := (cb_ HB.out hx1071_1 :)
        replace hx1071_2 := (cb_ HB.out hx1071_2 :)
        replace p1071 := eq_true p1071
        replace q1071 := eq_true q1071
        have p1072 : 0 ≤ (x5_1 : Int) := od_
        have q1072 : x5_1 < (l1.length : Int) := od_
        obtain ⟨ad1072, e1072, hx1072_0, hx1072_1, hx1072_2⟩ := at_T69 HR1.out x5_1 p1072 q1072
        have hw1072_2 := hx1072_2
        have hw1072_1 := hx1072_1
        have hw1072_0 := hx1072_0
        cases e1072
        replace hx1072_0 := (cb_ HB.out hx1072_0 :)
        replace hx1072_1 := (cb_ HB.out hx1072_1 :)
        replace hx1072_2 := (cb_ HB.out hx1072_2 :)
        replace p1072 := eq_true p1072
        replace q1072 := eq_true q1072
        refine start_ (n := 10) (S := fun w' => w'.cell? (ad1071.add ((x5_1).toNat * 3)) = some (.int .i64 ((rd_T69 l0 x5_1).f0)) ∧ w'.cell? ⟨(ad1071.add ((x5_1).toNat * 3)).block, (ad1071.add ((x5_1).toNat * 3)).off + 1, none⟩ = some (.int .i64 ((rd_T69 l0 x5_1).f1)) ∧ w'.cell? ⟨(ad1071.add ((x5_1).toNat * 3)).block, (ad1071.add ((x5_1).toNat * 3)).off + 2, none⟩ = some (.string ((rd_T69 l0 x5_1).f2)) ∧ w'.cell? (ad1072.add ((x5_1).toNat * 3)) = some (.int .i64 ((rd_T69 l1 x5_1).f0)) ∧ w'.cell? ⟨(ad1072.add ((x5_1).toNat * 3)).block, (ad1072.add ((x5_1).toNat * 3)).off + 1, none⟩ = some (.int .i64 ((rd_T69 l1 x5_1).f1)) ∧ w'.cell? ⟨(ad1072.add ((x5_1).toNat * 3)).block, (ad1072.add ((x5_1).toNat * 3)).off + 2, none⟩ = some (.string ((rd_T69 l1 x5_1).f2))) (ds := []) #[false, false, false, false, false, false, false, false, false, false] (by kernel_rfl) rfl rfl ⟨((cb_ HB.out hw1071_0 :)), ((cb_ HB.out hw1071_1 :)), ((cb_ HB.out hw1071_2 :)), ((cb_ HB.out hw1072_0 :)), ((cb_ HB.out hw1072_1 :)), ((cb_ HB.out hw1072_2 :))⟩ (fun hHeld => ?_); refine with_tabW laws_eqRowS.tab6 laws_eqRowS.bits6 (fun HT_ HW_ => ?_)
        generalize wr.drew = w9 at HB hx1071_0 hx1071_1 hx1071_2 hx1072_0 hx1072_1 hx1072_2 hHeld ⊢
        refine pa_ 0 17 ?_
        refine pa_ 1 18 ?_
        refine pa_ 2 19 ?_
        refine pa_ 4 21 ?_
        refine pa_ 5 22 ?_
        refine pa_ 6 23 ?_
        refine ta6_ 3 20 hHeld ?_
        refine ta6_ 7 24 hHeld ?_
        refine on_ 8 25 (fun K hK => ?_)
        refine goes_ Tryd.func101 (by kernel_rfl) rfl #[.agg #[.int .i64 ((rd_T69 l0 x5_1).f0), .int .i64 ((rd_T69 l0 x5_1).f1), .string ((rd_T69 l0 x5_1).f2)], .agg #[.int .i64 ((rd_T69 l1 x5_1).f0), .int .i64 ((rd_T69 l1 x5_1).f1), .string ((rd_T69 l1 x5_1).f2)]] (by rfl) rfl rfl ar_ ?_
        with_reducible refine (laws_eqRow.calls ((rd_T69 l0 x5_1).f0) ((rd_T69 l0 x5_1).f1) ((rd_T69 l0 x5_1).f2) ((rd_T69 l1 x5_1).f0) ((rd_T69 l1 x5_1).f1) ((rd_T69 l1 x5_1).f2) true _ A7.out).mono ?_
        rintro e w10 ⟨rfl, hb⟩
        refine ⟨_, rfl, ?_⟩
        have n0_ := Aside0.mk (below_step (bel_) hb)
        clear HB
        have HB := n0_
        clear n0_
        (try clear hb)
        (try clear hb2)
        (try clear hk)
        (try clear hi)
        refine hK.out _ _ ⟨((cb_ HB.out hw1071_0 :)), ((cb_ HB.out hw1071_1 :)), ((cb_ HB.out hw1071_2 :)), ((cb_ HB.out hw1072_0 :)), ((cb_ HB.out hw1072_1 :)), ((cb_ HB.out hw1072_2 :))⟩ (fun hHeld => ?_)
        clear hK K
        refine no_ 25 ?_
        refine pa_ 9 26 ?_
        refine done_ (done_of HT_.out (by kernel_rfl)) ?_
        try go_wp2
        go_roundg k1
        case measure => have := HK1.out; omega
        case rel => exact ⟨(wrap64 (x5_1 + 1)), (si_), H', ⟨by have := HK1.out; omega⟩, ⟨bel_⟩⟩
       ·replace c8 := Bool.eq_false_iff.mpr c8
        subst c8
        have H1 : (some false) = some r := by rw [if_neg (show ¬ (false = true) by decide)] at H; exact H
        clear H
        have H := H1
        clear H1
        obtain rfl := Option.some.inj H
        try go_wp2
        have n0_ := Aside0.mk (below_drew1 HB.out)
        clear HB
        have HB := n0_
        clear n0_
        have p1071 : 0 ≤ (x5_1 : Int) := od_
        have q1071 : x5_1 < (l0.length : Int) := od_
        obtain ⟨ad1071, e1071, hx1071_0, hx1071_1, hx1071_2⟩ := at_T69 HR0.out x5_1 p1071 q1071
        have hw1071_2 := hx1071_2
        have hw1071_1 := hx1071_1
        have hw1071_0 := hx1071_0
        cases e1071
        replace hx1071_0 := (cb_ HB.out hx1071_0 :)
        replace hx1071_1 := (cb_ HB.out hx1071_1 :)
        replace hx1071_2 := (cb_ HB.out hx1071_2 :)
        replace p1071 := eq_true p1071
        replace q1071 := eq_true q1071
        have p1072 : 0 ≤ (x5_1 : Int) := od_
        have q1072 : x5_1 < (l1.length : Int) := od_
        obtain ⟨ad1072, e1072, hx1072_0, hx1072_1, hx1072_2⟩ := at_T69 HR1.out x5_1 p1072 q1072
        have hw1072_2 := hx1072_2
        have hw1072_1 := hx1072_1
        have hw1072_0 := hx1072_0
        cases e1072
        replace hx1072_0 := (cb_ HB.out hx1072_0 :)
        replace hx1072_1 := (cb_ HB.out hx1072_1 :)
        replace hx1072_2 := (cb_ HB.out hx1072_2 :)
        replace p1072 := eq_true p1072
        replace q1072 := eq_true q1072
        refine start_ (n := 10) (S := fun w' => w'.cell? (ad1071.add ((x5_1).toNat * 3)) = some (.int .i64 ((rd_T69 l0 x5_1).f0)) ∧ w'.cell? ⟨(ad1071.add ((x5_1).toNat * 3)).block, (ad1071.add ((x5_1).toNat * 3)).off + 1, none⟩ = some (.int .i64 ((rd_T69 l0 x5_1).f1)) ∧ w'.cell? ⟨(ad1071.add ((x5_1).toNat * 3)).block, (ad1071.add ((x5_1).toNat * 3)).off + 2, none⟩ = some (.string ((rd_T69 l0 x5_1).f2)) ∧ w'.cell? (ad1072.add ((x5_1).toNat * 3)) = some (.int .i64 ((rd_T69 l1 x5_1).f0)) ∧ w'.cell? ⟨(ad1072.add ((x5_1).toNat * 3)).block, (ad1072.add ((x5_1).toNat * 3)).off + 1, none⟩ = some (.int .i64 ((rd_T69 l1 x5_1).f1)) ∧ w'.cell? ⟨(ad1072.add ((x5_1).toNat * 3)).block, (ad1072.add ((x5_1).toNat * 3)).off + 2, none⟩ = some (.string ((rd_T69 l1 x5_1).f2))) (ds := []) #[false, false, false, false, false, false, false, false, false, false] (by kernel_rfl) rfl rfl ⟨((cb_ HB.out hw1071_0 :)), ((cb_ HB.out hw1071_1 :)), ((cb_ HB.out hw1071_2 :)), ((cb_ HB.out hw1072_0 :)), ((cb_ HB.out hw1072_1 :)), ((cb_ HB.out hw1072_2 :))⟩ (fun hHeld => ?_); refine with_tabW laws_eqRowS.tab6 laws_eqRowS.bits6 (fun HT_ HW_ => ?_)
        generalize wr.drew = w11 at HB hx1071_0 hx1071_1 hx1071_2 hx1072_0 hx1072_1 hx1072_2 hHeld ⊢
        refine pa_ 0 17 ?_
        refine pa_ 1 18 ?_
        refine pa_ 2 19 ?_
        refine pa_ 4 21 ?_
        refine pa_ 5 22 ?_
        refine pa_ 6 23 ?_
        refine ta6_ 3 20 hHeld ?_
        refine ta6_ 7 24 hHeld ?_
        refine on_ 8 25 (fun K hK => ?_)
        refine goes_ Tryd.func101 (by kernel_rfl) rfl #[.agg #[.int .i64 ((rd_T69 l0 x5_1).f0), .int .i64 ((rd_T69 l0 x5_1).f1), .string ((rd_T69 l0 x5_1).f2)], .agg #[.int .i64 ((rd_T69 l1 x5_1).f0), .int .i64 ((rd_T69 l1 x5_1).f1), .string ((rd_T69 l1 x5_1).f2)]] (by rfl) rfl rfl ar_ ?_
        with_reducible refine (laws_eqRow.calls ((rd_T69 l0 x5_1).f0) ((rd_T69 l0 x5_1).f1) ((rd_T69 l0 x5_1).f2) ((rd_T69 l1 x5_1).f0) ((rd_T69 l1 x5_1).f1) ((rd_T69 l1 x5_1).f2) false _ A7.out).mono ?_
        rintro e w12 ⟨rfl, hb⟩
        refine ⟨_, rfl, ?_⟩
        have n0_ := Aside0.mk (below_step (bel_) hb)
        clear HB
        have HB := n0_
        clear n0_
        (try clear hb)
        (try clear hb2)
        (try clear hk)
        (try clear hi)
        refine hK.out _ _ ⟨((cb_ HB.out hw1071_0 :)), ((cb_ HB.out hw1071_1 :)), ((cb_ HB.out hw1071_2 :)), ((cb_ HB.out hw1072_0 :)), ((cb_ HB.out hw1072_1 :)), ((cb_ HB.out hw1072_2 :))⟩ (fun hHeld => ?_)
        clear hK K
        refine no_ 25 ?_
        refine pa_ 9 26 ?_
        refine done_ (done_of HT_.out (by kernel_rfl)) ?_
        try go_wp2
        go_ret
        exact ⟨fi_, bel_⟩
      ·rw [if_neg c6] at H
       exact absurd H (by simp)
     ·rw [if_neg c5] at H
      exact absurd H (by simp)
    ·rw [if_neg c4] at H
     have c4b0 : decide (x5_1 < (l0.length : Int)) = false := decide_eq_false c4
     clear c4
     obtain rfl := Option.some.inj H
     go_wp2
     go_ret
     exact ⟨fi_, bel_⟩
 ·rw [if_neg c3] at H
  have c3b0 : ((l0.length : Int) == (l1.length : Int)) = false := beq_eq_false_iff_ne.mpr c3
  have c3b1 : ((l0.length : Int) != (l1.length : Int)) = true := bne_iff_ne.mpr c3
  have c3b2 : (l0.length == l1.length) = false := by first | simpa using c3 | (simp at c3 ⊢; omega)
  obtain rfl := Option.some.inj H
  go_enter Tryd.func51, Tryd.ntmps51
  go_wp2
  go_ret
  exact ⟨fi_, bel_⟩

def laws_toRowS.l0 : Nat → List (S183) → List (S69) → Int → Option ((List (S69)))
 | 0, _, _, _ => none
 | k + 1, x0, x3, x4 => if x4 < (x0.length : Int) then (if 0 ≤ x4 then ((laws_toRow.f ((rd_T183 x0 x4).f0) ((rd_T183 x0 x4).f1) ((rd_T183 x0 x4).f2)).bind fun bt1218 => (if x4 < (x3.length : Int) then (laws_toRowS.l0 k x0 (x3.set (x4 : Int).toNat (⟨bt1218.1, bt1218.2.1, bt1218.2.2⟩ : S69)) (wrap64 (x4 + 1))) else (none))) else (none)) else (some x3)
def laws_toRowS.f (k : Nat) (l0 : List (S183)) : Option ((List (S69))) := if 0 ≤ (l0.length : Int) then (if ((l0.length : Int) : Int).toNat ≤ 8796093022208 then (laws_toRowS.l0 k l0 (List.replicate ((l0.length : Int) : Int).toNat z69) 0) else (none)) else (none)
theorem laws_toRowS.mono_l : ∀ k, (∀ y0 y1 y2, LeO (laws_toRowS.l0 k y0 y1 y2) (laws_toRowS.l0 (k + 1) y0 y1 y2))
 | 0 => fun _ _ _ r h => by simp [laws_toRowS.l0] at h
 | k + 1 => by
  have ih0 := laws_toRowS.mono_l k
  ·intro y0 y1 y2
   unfold laws_toRowS.l0
   repeat' first
   | (with_reducible exact ih0 _ _ _)
   | (with_reducible exact LeO.refl _)
   | (with_reducible exact LeO.none _)
   | (with_reducible refine LeO.ite ?_ ?_)
   | (with_reducible refine LeO.bind ?_ (fun _ => ?_))
   | exact ih0 _ _ _
   | exact LeO.none _
   | refine LeO.ite ?_ ?_
   | refine LeO.bind ?_ (fun _ => ?_)
theorem laws_toRowS.mono : ∀ a0 k, LeO (laws_toRowS.f k a0) (laws_toRowS.f (k + 1) a0) := by
 intro a0 k
 have ih0 := laws_toRowS.mono_l k
 unfold laws_toRowS.f
 repeat' first
   | (with_reducible exact ih0 _ _ _)
   | (with_reducible exact LeO.refl _)
   | (with_reducible exact LeO.none _)
   | (with_reducible refine LeO.ite ?_ ?_)
   | (with_reducible refine LeO.bind ?_ (fun _ => ?_))
   | exact ih0 _ _ _
   | exact LeO.none _
   | refine LeO.ite ?_ ?_
   | refine LeO.bind ?_ (fun _ => ?_)
set_option maxHeartbeats 8000000 in
set_option maxRecDepth 100000 in
theorem laws_toRowS.calls (k : Nat) (A0 : Option Addr) (c0 : Nat) (l0 : List (S183)) (r : List (S69)) (w : World) (hr0 : Kd.C k183 w A0 l0.length l0) (hc0 : l0.length ≤ c0) (h : laws_toRowS.f k l0 = some r) :
  Calls Tryd.prog 111 #[.slice A0 l0.length c0] w fun e w' => ∃ v0_ : Value, e = .returned (v0_) ∧ Kd.R k69 69 w' w.heap.size (fun _ => True) v0_ r ∧ Below w.heap.size w w' := by
 have hu183 := Tryd.underlying183
 have hu69 := Tryd.underlying69
 have HR0 := Aside0.mk hr0
 have HC0 := Aside0.mk hc0
 clear hr0 hc0
 have HB := Aside0.mk (Below.refl w.heap.size w)
 unfold laws_toRowS.f at h
 have H := h
 clear h
 by_cases c2 : 0 ≤ (l0.length : Int)
 ·rw [if_pos c2] at H
  have c2b0 := eq_true c2
  have c2b1 : decide (0 ≤ (l0.length : Int)) = true := decide_eq_true c2
  clear c2
  by_cases c3 : ((l0.length : Int) : Int).toNat ≤ 8796093022208
  ·rw [if_pos c3] at H
   have c3b0 := eq_true c3
   have c3b1 : decide (((l0.length : Int) : Int).toNat ≤ 8796093022208) = true := decide_eq_true c3
   clear c3
   obtain ⟨y1214, hy1214⟩ : ∃ y_ : List (S69), y_ = (List.replicate ((l0.length : Int) : Int).toNat z69) := ⟨_, rfl⟩
   replace H : (laws_toRowS.l0 k l0 y1214 0) = some r := by first | (rw [hy1214]; with_reducible exact H) | (have H2_ := (Option.bind_some _ _).symm.trans H; rw [hy1214]; with_reducible exact H2_) | (have H2_ := (Option.bind_some _ _).symm.trans H; with_reducible exact H2_) | with_reducible exact H | (rw [hy1214]; exact H) | exact H
   have Ny1214 := Aside0.mk hy1214
   clear hy1214
   have H' := Aside0.mk H
   clear H
   go_enter Tryd.func111, Tryd.ntmps111
   go_wp2_with (first | ((with_reducible refine gate_dst (N := 7) rfl ?_); refine Kd.R_make k69 _ 69 rfl (N := 7) rfl 62 _ _ rfl (l0.length : Int) rfl rfl Tryd.underlying62 (.agg #[(.int .i64 0), (.int .i64 0), (.string ⟨#[]⟩)]) 32 info69 rfl (by decide) (by omega) z69 (ok := fun _ => True) (okp := fun _ => True) (k69_mkM _ _ _ z69 ) (fun _ hk => hk) trivial (od_) (Nat.le_trans (Nat.mul_le_mul_right _ (od_ : (l0.length : Int).toNat ≤ 8796093022208)) (by omega)) (Below.refl _ _) (Nat.le_refl _) ?_; intro v1215 w4 ho5 hb hg_ hnew_; clear hg_ hnew_; (first | rw [← Ny1214.out] at ho5 | (simp only [Int.reduceToNat] at ho5; rw [← Ny1214.out] at ho5)); have HO1216 := Aside0.mk (Kd.R_lower ho5 (below_size (bel_))); replace HB := Aside0.mk (below_step (bel_) hb); clear hb ho5))
   go_loopg [4] k (fun kq v4 w' => ∃ (x3_1 : List (S69)) (x4_1 : Int), v4 = .int .i64 x4_1 ∧ Aside0 (laws_toRowS.l0 kq l0 x3_1 x4_1 = some r) ∧ Aside0 (kq ≤ k) ∧ Aside0 (Kd.R k69 69 w' w.heap.size (fun _ => True) v1215 x3_1) ∧ Aside0 (Below w.heap.size w w'))
   case atStart => exact ⟨(y1214), (0), (si_), H', ⟨Nat.le_refl _⟩, ⟨by (with_reducible repeat (first | apply Kd.R_alloc | apply Kd.R_drewN | apply Kd.R_drew)); exact HO1216.out⟩, ⟨bel_⟩⟩
   case round =>
    clear H'
    try clear c1
    try clear c2
    try clear c2b0
    try clear c2b1
    try clear p2
    try clear c3
    try clear c3b0
    try clear c3b1
    obtain ⟨x3_1, x4_1, rfl, HA, HK1, HO_3, HB⟩ := hrel
    cases gk with
    | zero => exact absurd HA.out (by simp [laws_toRowS.l0])
    | succ k1 =>
     have H := HA.out
     clear HA
     simp only [laws_toRowS.l0] at H
     by_cases c6 : x4_1 < (l0.length : Int)
     ·rw [if_pos c6] at H
      have c6b0 : decide (x4_1 < (l0.length : Int)) = true := decide_eq_true c6
      clear c6
      by_cases c7 : 0 ≤ x4_1
      ·rw [if_pos c7] at H
       have c7b0 : decide (0 ≤ x4_1) = true := decide_eq_true c7
       clear c7
       replace H := Option.bind_eq_some_iff.mp H
       obtain ⟨⟨t1218, t1219, t1220⟩, A80, H⟩ := H
       try dsimp only at H
       have A8 := Aside0.mk A80
       clear A80
       by_cases c9 : x4_1 < (x3_1.length : Int)
       ·rw [if_pos c9] at H
        have c9b0 : decide (x4_1 < (x3_1.length : Int)) = true := decide_eq_true c9
        clear c9
        obtain ⟨y1221, hy1221⟩ : ∃ y_ : List (S69), y_ = (x3_1.set (x4_1 : Int).toNat (⟨t1218, t1219, t1220⟩ : S69)) := ⟨_, rfl⟩
        replace H : (laws_toRowS.l0 k1 l0 y1221 (wrap64 (x4_1 + 1))) = some r := by first | (rw [hy1221]; with_reducible exact H) | (have H2_ := (Option.bind_some _ _).symm.trans H; rw [hy1221]; with_reducible exact H2_) | (have H2_ := (Option.bind_some _ _).symm.trans H; with_reducible exact H2_) | with_reducible exact H | (rw [hy1221]; exact H) | exact H
        have Ny1221 := Aside0.mk hy1221
        clear hy1221
        have H' := Aside0.mk H
        clear H
        have p1217 : 0 ≤ (x4_1 : Int) := od_
        have q1217 : x4_1 < (l0.length : Int) := od_
        obtain ⟨ad1217, e1217, hx1217_0, hx1217_1, hx1217_2⟩ := at_T183 HR0.out x4_1 p1217 q1217
        cases e1217
        replace hx1217_0 := (cb_ HB.out hx1217_0 :)
        replace hx1217_1 := (cb_ HB.out hx1217_1 :)
        replace hx1217_2 := (cb_ HB.out hx1217_2 :)
        replace p1217 := eq_true p1217
        replace q1217 := eq_true q1217
        go_wp2_with (first | ((with_reducible refine gate_callee (f := 142) rfl ?_); refine gl_ 20 Tryd.func142 #[.agg #[.int .i64 ((rd_T183 l0 x4_1).f0), .int .i64 ((rd_T183 l0 x4_1).f1), .string ((rd_T183 l0 x4_1).f2)]] ?_; (with_reducible refine (laws_toRow.calls ((rd_T183 l0 x4_1).f0) ((rd_T183 l0 x4_1).f1) ((rd_T183 l0 x4_1).f2) t1218 t1219 t1220 _ A8.out).mono ?_); rintro e w11 ⟨rfl, hb⟩; refine ⟨_, rfl, ?_⟩; replace HO_3 := Aside0.mk (Kd.R_below (rp_ HO_3.out) hb); replace HB := Aside0.mk (below_step (bel_) hb); (try clear hb); have p10 : 0 ≤ (x4_1 : Int) := od_; have q10 : (x4_1 : Int) < ((x3_1.length : Int) : Int) := od_; obtain ⟨go10, co10, eo10, gb10, gl10, cl10, HG10⟩ := Kd.R_form HO_3.out (by omega); (first | cases eo10 | (injection eo10 with ea_ en_ ec_; (first | subst ea_ | (injection ea_ with ea_; subst ea_)); subst ec_; clear en_)); have GB10 := Aside0.mk gb10; have GG10 := Aside0.mk HG10; clear gb10 gl10 HG10; obtain ⟨ce10, hcl10, hM10, hcc10, hfr10⟩ := Kd.R_elem HO_3.out z69 (x4_1 : Int) p10 q10; obtain rfl := k69_openM hM10; have hx10_0 : w11.cell? ⟨go10, (x4_1 : Int).toNat * 3, none⟩ = some (.int .i64 ((rd_T69 x3_1 x4_1).f0)) := hcc10 0 _ rfl; have hx10_1 : w11.cell? ⟨go10, (x4_1 : Int).toNat * 3 + 1, none⟩ = some (.int .i64 ((rd_T69 x3_1 x4_1).f1)) := hcc10 1 _ rfl; have hx10_2 : w11.cell? ⟨go10, (x4_1 : Int).toNat * 3 + 2, none⟩ = some (.string ((rd_T69 x3_1 x4_1).f2)) := hcc10 2 _ rfl; have hf10_0 : w11.frozen? ⟨go10, (x4_1 : Int).toNat * 3, none⟩ = false := hfr10 0; have hf10_1 : w11.frozen? ⟨go10, (x4_1 : Int).toNat * 3 + 1, none⟩ = false := hfr10 1; have hf10_2 : w11.frozen? ⟨go10, (x4_1 : Int).toNat * 3 + 2, none⟩ = false := hfr10 2; clear hcl10 hcc10 hfr10 hM10; replace p10 := eq_true p10; replace q10 := eq_true q10; have HX12 := Aside0.mk (show Kd.R k69 69 w11 w.heap.size (fun _ => True) (.slice (some ⟨go10, 0, none⟩) x3_1.length co10) x3_1 from (rp_ HO_3.out)); obtain ⟨ce12, hcl12, hM12, hcc12, hfr12⟩ := Kd.R_elem HX12.out z69 (x4_1 : Int) (od_) (by have h_ : (x4_1 : Int) < ((x3_1.length : Int) : Int) := od_; first | exact h_ | (have e_ := (Kd.R_reads' HO_3.out).1; omega) | simpa using h_); obtain rfl := k69_openM hM12; have HP12 := Kd.R_seg HX12.out (x4_1 : Int) (od_) (by have h_ : (x4_1 : Int) < ((x3_1.length : Int) : Int) := od_; first | exact h_ | (have e_ := (Kd.R_reads' HO_3.out).1; omega) | simpa using h_) (seg := [.int .i64 t1218, .int .i64 t1219, .string t1220]) (j := 0) hcl12 hcc12 (show 3 ≤ 3 from by decide) (x' := (⟨t1218, t1219, t1220⟩ : S69)) (k69_mkM _ _ _ (⟨t1218, t1219, t1220⟩ : S69) ) (fun _ hk => hk); have hx12_0 := hcc12 0 _ rfl; (try simp only [show (k69).sz = 3 from rfl, Nat.mul_one, Nat.add_zero] at hx12_0); have hf12_0 := hfr12 0; (try simp only [show (k69).sz = 3 from rfl, Nat.mul_one, Nat.add_zero] at hf12_0); have hx12_1 := hcc12 1 _ rfl; (try simp only [show (k69).sz = 3 from rfl, Nat.mul_one, Nat.add_zero] at hx12_1); have hf12_1 := hfr12 1; (try simp only [show (k69).sz = 3 from rfl, Nat.mul_one, Nat.add_zero] at hf12_1); have hx12_2 := hcc12 2 _ rfl; (try simp only [show (k69).sz = 3 from rfl, Nat.mul_one, Nat.add_zero] at hx12_2); have hf12_2 := hfr12 2; (try simp only [show (k69).sz = 3 from rfl, Nat.mul_one, Nat.add_zero] at hf12_2); clear hcl12 hcc12 hfr12 hM12) | ((with_reducible refine gate_store (t := 69) (p := 21) rfl ?_); refine store_event (t := 69) (p := 21) (v := ?vo_w13) (w1 := (((w11.setCell ⟨go10, (x4_1 : Int).toNat * 3, none⟩ (.int .i64 t1218)).setCell ⟨go10, (x4_1 : Int).toNat * 3 + 1, none⟩ (.int .i64 t1219)).setCell ⟨go10, (x4_1 : Int).toNat * 3 + 2, none⟩ (.string t1220))) ?hg ?ho ?hn ?hr ?_; (case ho => rfl); (case hg => rfl); (case hn => rfl); (case hr => first | (go_simp; done) | (go_simp; rfl)); intro w13 hw; have hg : w11.grownBy w13 (some go10) := (by rw [hw]; exact HP12.2); have hp_ : Kd.R k69 69 w13 w.heap.size (fun _ => True) (.slice (some ⟨go10, 0, none⟩) x3_1.length co10) y1221 := (by rw [hw, Ny1221.out]; exact HP12.1); clear HP12; have n0_ := Aside0.mk (hp_); have n1_ := Aside0.mk ((by rw [hw]; exact below_set (below_set (below_set (HB.out) GB10.out) GB10.out) GB10.out : Below w.heap.size w w13)); clear HO_3; clear HB; have HO_3 := n0_; have HB := n1_; clear n0_ n1_; clear hg hw hp_))
        go_roundg k1
        case measure => have := HK1.out; omega
        case rel => exact ⟨(y1221), (wrap64 (x4_1 + 1)), (si_), H', ⟨by have := HK1.out; omega⟩, ⟨by (with_reducible repeat (first | apply Kd.R_alloc | apply Kd.R_drewN | apply Kd.R_drew)); exact HO_3.out⟩, ⟨bel_⟩⟩
       ·rw [if_neg c9] at H
        exact absurd H (by simp)
      ·rw [if_neg c7] at H
       exact absurd H (by simp)
     ·rw [if_neg c6] at H
      have c6b0 : decide (x4_1 < (l0.length : Int)) = false := decide_eq_false c6
      clear c6
      obtain rfl := Option.some.inj H
      go_wp2
      go_ret
      exact ⟨_, fi_, by (with_reducible repeat (first | apply Kd.R_alloc | apply Kd.R_drewN | apply Kd.R_drew)); exact HO_3.out, bel_⟩
  ·rw [if_neg c3] at H
   exact absurd H (by simp)
 ·rw [if_neg c2] at H
  exact absurd H (by simp)

def laws_toClient.f (k : Nat) (a0_0 : Int) (a0_1 : Int) (l0_2 : List (S183)) (l0_3 : List (S36)) (a0_4 : Int) (a0_5 : Int) : Option (Int × Int × (List (S69)) × (List (S44)) × Int × Int) := (laws_toRowS.f k l0_2).bind fun t1225 => ((laws_toEntryS.f k l0_3).bind fun t1228 => (some (a0_0, a0_1, t1225, t1228, a0_4, a0_5)))
theorem laws_toClient.mono : ∀ a0 a1 a2 a3 a4 a5 k, LeO (laws_toClient.f k a0 a1 a2 a3 a4 a5) (laws_toClient.f (k + 1) a0 a1 a2 a3 a4 a5) := by
 intro a0 a1 a2 a3 a4 a5 k
 unfold laws_toClient.f
 repeat' first
   | (with_reducible exact laws_toEntryS.mono _ _)
   | (with_reducible exact laws_toRowS.mono _ _)
   | (with_reducible exact LeO.refl _)
   | (with_reducible exact LeO.none _)
   | (with_reducible refine LeO.ite ?_ ?_)
   | (with_reducible refine LeO.bind ?_ (fun _ => ?_))
   | exact laws_toEntryS.mono _ _
   | exact laws_toRowS.mono _ _
   | exact LeO.none _
   | refine LeO.ite ?_ ?_
   | refine LeO.bind ?_ (fun _ => ?_)
set_option maxHeartbeats 8000000 in
set_option maxRecDepth 100000 in
theorem laws_toClient.calls (k : Nat) (a0_0 : Int) (a0_1 : Int) (A0_2 : Option Addr) (c0_2 : Nat) (l0_2 : List (S183)) (A0_3 : Option Addr) (c0_3 : Nat) (l0_3 : List (S36)) (a0_4 : Int) (a0_5 : Int) (r1 : Int) (r2 : Int) (r3 : List (S69)) (r4 : List (S44)) (r5 : Int) (r6 : Int) (w : World) (hr0_2 : Kd.C k183 w A0_2 l0_2.length l0_2) (hc0_2 : l0_2.length ≤ c0_2) (hr0_3 : Kd.C k36 w A0_3 l0_3.length l0_3) (hc0_3 : l0_3.length ≤ c0_3) (h : laws_toClient.f k a0_0 a0_1 l0_2 l0_3 a0_4 a0_5 = some (r1, r2, r3, r4, r5, r6)) :
  Calls Tryd.prog 64 #[.agg #[.int .i64 a0_0, .int .i64 a0_1, .slice A0_2 l0_2.length c0_2, .slice A0_3 l0_3.length c0_3, .int .i64 a0_4, .int .i64 a0_5]] w fun e w' => ∃ v2_ v3_ : Value, e = .returned (.agg #[.int .i64 r1, .int .i64 r2, v2_, v3_, .int .i64 r5, .int .i64 r6]) ∧ Kd.R k69 69 w' w.heap.size (fun _ => True) v2_ r3 ∧ Kd.R k44 44 w' w.heap.size (fun _ => True) v3_ r4 ∧ Below w.heap.size w w' := by
 have hu85 := Tryd.underlying85
 have hu77 := Tryd.underlying77
 have HR0_2 := Aside0.mk hr0_2
 have HC0_2 := Aside0.mk hc0_2
 clear hr0_2 hc0_2
 have HR0_3 := Aside0.mk hr0_3
 have HC0_3 := Aside0.mk hc0_3
 clear hr0_3 hc0_3
 have HB := Aside0.mk (Below.refl w.heap.size w)
 unfold laws_toClient.f at h
 have H := h
 clear h
 replace H := Option.bind_eq_some_iff.mp H
 obtain ⟨t1225, A20, H⟩ := H
 try dsimp only at H
 have A2 := Aside0.mk A20
 clear A20
 replace H := Option.bind_eq_some_iff.mp H
 obtain ⟨t1228, A30, H⟩ := H
 try dsimp only at H
 have A3 := Aside0.mk A30
 clear A30
 simp only [Option.some.injEq, Prod.mk.injEq] at H
 obtain ⟨rfl, rfl, rfl, rfl, rfl, rfl⟩ := H
 go_enter Tryd.func64, Tryd.ntmps64
 go_wp2_with (first | ((with_reducible refine gate_dst (N := 1) rfl ?_); refine bx_ 1 (#[.int .i64 a0_0, .int .i64 a0_1, .slice A0_2 l0_2.length c0_2, .slice A0_3 l0_3.length c0_3, .int .i64 a0_4, .int .i64 a0_5]) 85 ?_; intro gb1222 hg w4 hbox hb; have n0_ := Aside0.mk (below_step (bel_) hb); have n1_ := Aside0.mk (hbox); have n2_ := Aside0.mk ((by rw [hg]; exact (below_size (bel_)) : w.heap.size ≤ gb1222)); have n3_ := Aside0.mk ((by rw [hg]; exact (below_size (bel_)) : w.heap.size ≤ gb1222)); clear HB; have HB := n0_; have BK1222 := n1_; have GW1222 := n2_; have GE1222 := n3_; clear n0_ n1_ n2_ n3_; clear hb hbox hg) | ((with_reducible refine gate_dst (N := 2) rfl ?_); refine bx_ 2 (#[.int .i64 0, .int .i64 0, .slice none 0 0, .slice none 0 0, .int .i64 0, .int .i64 0]) 77 ?_; intro gb1223 hg w5 hbox hb; have n0_ := Aside0.mk (bb_ BK1222.out hb); have n1_ := Aside0.mk (below_step (bel_) hb); have n2_ := Aside0.mk (hbox); have n3_ := Aside0.mk ((by rw [hg]; exact (below_size (bel_)) : w.heap.size ≤ gb1223)); have n4_ := Aside0.mk ((by rw [hg]; exact (below_size (bel_)) : w.heap.size ≤ gb1223)); have n5_ := Aside0.mk ((by rw [hg]; exact Nat.ne_of_lt (blk_lt (g := gb1222) (o := .cells #[.int .i64 a0_0, .int .i64 a0_1, .slice A0_2 l0_2.length c0_2, .slice A0_3 l0_3.length c0_3, .int .i64 a0_4, .int .i64 a0_5] 85 (0, 0)) (bp_ BK1222.out)) : gb1222 ≠ gb1223)); have n6_ := Aside0.mk ((by rw [hg]; exact Nat.ne_of_gt (blk_lt (g := gb1222) (o := .cells #[.int .i64 a0_0, .int .i64 a0_1, .slice A0_2 l0_2.length c0_2, .slice A0_3 l0_3.length c0_3, .int .i64 a0_4, .int .i64 a0_5] 85 (0, 0)) (bp_ BK1222.out)) : gb1223 ≠ gb1222)); clear BK1222; clear HB; have BK1222 := n0_; have HB := n1_; have BK1223 := n2_; have GW1223 := n3_; have GE1223 := n4_; have NB1222_1223 := n5_; have NB1223_1222 := n6_; clear n0_ n1_ n2_ n3_ n4_ n5_ n6_; clear hb hbox hg) | ((with_reducible refine gate_dst (N := 3) rfl ?_); refine bx_ 3 (#[.int .i64 0, .int .i64 0, .slice none 0 0, .slice none 0 0, .int .i64 0, .int .i64 0]) 77 ?_; intro gb1224 hg w6 hbox hb; have n0_ := Aside0.mk (bb_ BK1222.out hb); have n1_ := Aside0.mk (bb_ BK1223.out hb); have n2_ := Aside0.mk (below_step (bel_) hb); have n3_ := Aside0.mk (hbox); have n4_ := Aside0.mk ((by rw [hg]; exact (below_size (bel_)) : w.heap.size ≤ gb1224)); have n5_ := Aside0.mk ((by rw [hg]; exact (below_size (bel_)) : w.heap.size ≤ gb1224)); have n6_ := Aside0.mk ((by rw [hg]; exact Nat.ne_of_lt (blk_lt (g := gb1222) (o := .cells #[.int .i64 a0_0, .int .i64 a0_1, .slice A0_2 l0_2.length c0_2, .slice A0_3 l0_3.length c0_3, .int .i64 a0_4, .int .i64 a0_5] 85 (0, 0)) (bp_ BK1222.out)) : gb1222 ≠ gb1224)); have n7_ := Aside0.mk ((by rw [hg]; exact Nat.ne_of_gt (blk_lt (g := gb1222) (o := .cells #[.int .i64 a0_0, .int .i64 a0_1, .slice A0_2 l0_2.length c0_2, .slice A0_3 l0_3.length c0_3, .int .i64 a0_4, .int .i64 a0_5] 85 (0, 0)) (bp_ BK1222.out)) : gb1224 ≠ gb1222)); have n8_ := Aside0.mk ((by rw [hg]; exact Nat.ne_of_lt (blk_lt (g := gb1223) (o := .cells #[.int .i64 0, .int .i64 0, .slice none 0 0, .slice none 0 0, .int .i64 0, .int .i64 0] 77 (0, 0)) (bp_ BK1223.out)) : gb1223 ≠ gb1224)); have n9_ := Aside0.mk ((by rw [hg]; exact Nat.ne_of_gt (blk_lt (g := gb1223) (o := .cells #[.int .i64 0, .int .i64 0, .slice none 0 0, .slice none 0 0, .int .i64 0, .int .i64 0] 77 (0, 0)) (bp_ BK1223.out)) : gb1224 ≠ gb1223)); clear BK1222; clear BK1223; clear HB; have BK1222 := n0_; have BK1223 := n1_; have HB := n2_; have BK1224 := n3_; have GW1224 := n4_; have GE1224 := n5_; have NB1222_1224 := n6_; have NB1224_1222 := n7_; have NB1223_1224 := n8_; have NB1224_1223 := n9_; clear n0_ n1_ n2_ n3_ n4_ n5_ n6_ n7_ n8_ n9_; clear hb hbox hg; have hnb7 := NB1222_1223.out; have hnc7 := NB1223_1222.out; have hnb8 := NB1222_1224.out; have hnc8 := NB1224_1222.out; have hcz9_0 := cz_ BK1222.out 0 (.int .i64 a0_0); have hcz9_1 := cz_ BK1222.out 1 (.int .i64 a0_1); have hcz9_2 := cz_ BK1222.out 2 (.slice A0_2 l0_2.length c0_2); have hcz9_3 := cz_ BK1222.out 3 (.slice A0_3 l0_3.length c0_3); have hcz9_4 := cz_ BK1222.out 4 (.int .i64 a0_4); have hcz9_5 := cz_ BK1222.out 5 (.int .i64 a0_5); have hfz9_0 := blk_frozen BK1222.out 0; have hfz9_1 := blk_frozen BK1222.out 1; have hfz9_2 := blk_frozen BK1222.out 2; have hfz9_3 := blk_frozen BK1222.out 3; have hfz9_4 := blk_frozen BK1222.out 4; have hfz9_5 := blk_frozen BK1222.out 5; have hnb10 := NB1224_1223.out; have hnc10 := NB1223_1224.out; have hcz11_0 := cz_ BK1224.out 0 (.int .i64 0); have hcz11_1 := cz_ BK1224.out 1 (.int .i64 0); have hcz11_2 := cz_ BK1224.out 2 (.slice none 0 0); have hcz11_3 := cz_ BK1224.out 3 (.slice none 0 0); have hcz11_4 := cz_ BK1224.out 4 (.int .i64 0); have hcz11_5 := cz_ BK1224.out 5 (.int .i64 0); have hfz11_0 := blk_frozen BK1224.out 0; have hfz11_1 := blk_frozen BK1224.out 1; have hfz11_2 := blk_frozen BK1224.out 2; have hfz11_3 := blk_frozen BK1224.out 3; have hfz11_4 := blk_frozen BK1224.out 4; have hfz11_5 := blk_frozen BK1224.out 5) | ((with_reducible refine gate_callee (f := 111) rfl ?_); refine gl_ 12 Tryd.func111 #[.slice A0_2 l0_2.length c0_2] ?_; (with_reducible refine (laws_toRowS.calls k _ _ l0_2 t1225 _ ?side1 ?side2 A2.out).mono ?_); (case side1 => exact Kd.C_below HR0_2.out (bel_)); (case side2 => exact HC0_2.out); rintro e w12 ⟨v1226, rfl, ho0, hb⟩; refine ⟨_, rfl, ?_⟩; have n0_ := Aside0.mk (Kd.R_lower ho0 (below_size (bel_))); have n1_ := Aside0.mk (blk_below (g := gb1222) (o := .cells #[.int .i64 a0_0, .int .i64 a0_1, .slice A0_2 l0_2.length c0_2, .slice A0_3 l0_3.length c0_3, .int .i64 a0_4, .int .i64 a0_5] 85 (0, 0)) (by (with_reducible repeat (first | refine blk_drewN ?_ _ | refine blk_drew ?_ | refine blk_alloc ?_ _)); refine blk_far ?_ NB1222_1224.out _; (with_reducible repeat (first | refine blk_drewN ?_ _ | refine blk_drew ?_ | refine blk_alloc ?_ _)); refine blk_far ?_ NB1222_1224.out _; (with_reducible repeat (first | refine blk_drewN ?_ _ | refine blk_drew ?_ | refine blk_alloc ?_ _)); exact BK1222.out) hb); have n2_ := Aside0.mk (blk_below (g := gb1223) (o := .cells #[.int .i64 0, .int .i64 0, .slice none 0 0, .slice none 0 0, .int .i64 0, .int .i64 0] 77 (0, 0)) (by (with_reducible repeat (first | refine blk_drewN ?_ _ | refine blk_drew ?_ | refine blk_alloc ?_ _)); refine blk_far ?_ NB1223_1224.out _; (with_reducible repeat (first | refine blk_drewN ?_ _ | refine blk_drew ?_ | refine blk_alloc ?_ _)); refine blk_far ?_ NB1223_1224.out _; (with_reducible repeat (first | refine blk_drewN ?_ _ | refine blk_drew ?_ | refine blk_alloc ?_ _)); exact BK1223.out) hb); have n3_ := Aside0.mk (blk_below (g := gb1224) (o := .cells #[.int .i64 a0_0, .int .i64 a0_1, .slice none 0 0, .slice none 0 0, .int .i64 0, .int .i64 0] 77 (0, 0)) (by (with_reducible repeat (first | refine blk_drewN ?_ _ | refine blk_drew ?_ | refine blk_alloc ?_ _)); refine blk_put (cs := #[.int .i64 a0_0, .int .i64 0, .slice none 0 0, .slice none 0 0, .int .i64 0, .int .i64 0]) ?_ 1 _ rfl; (with_reducible repeat (first | refine blk_drewN ?_ _ | refine blk_drew ?_ | refine blk_alloc ?_ _)); refine blk_put (cs := #[.int .i64 0, .int .i64 0, .slice none 0 0, .slice none 0 0, .int .i64 0, .int .i64 0]) ?_ 0 _ rfl; (with_reducible repeat (first | refine blk_drewN ?_ _ | refine blk_drew ?_ | refine blk_alloc ?_ _)); exact BK1224.out) hb); have n4_ := Aside0.mk (below_step (bel_) hb); clear BK1222; clear BK1223; clear BK1224; clear HB; have HO1227 := n0_; have BK1222 := n1_; have BK1223 := n2_; have BK1224 := n3_; have HB := n4_; clear n0_ n1_ n2_ n3_ n4_; (try clear hb ho0); obtain ⟨Ao13, co13, eo13⟩ := Kd.R_slice HO1227.out; subst eo13; have hcz14_0 := cz_ BK1224.out 0 (.int .i64 a0_0); have hcz14_1 := cz_ BK1224.out 1 (.int .i64 a0_1); have hcz14_2 := cz_ BK1224.out 2 (.slice none 0 0); have hcz14_3 := cz_ BK1224.out 3 (.slice none 0 0); have hcz14_4 := cz_ BK1224.out 4 (.int .i64 0); have hcz14_5 := cz_ BK1224.out 5 (.int .i64 0); have hfz14_0 := blk_frozen BK1224.out 0; have hfz14_1 := blk_frozen BK1224.out 1; have hfz14_2 := blk_frozen BK1224.out 2; have hfz14_3 := blk_frozen BK1224.out 3; have hfz14_4 := blk_frozen BK1224.out 4; have hfz14_5 := blk_frozen BK1224.out 5; have hcz15_0 := cz_ BK1222.out 0 (.int .i64 a0_0); have hcz15_1 := cz_ BK1222.out 1 (.int .i64 a0_1); have hcz15_2 := cz_ BK1222.out 2 (.slice A0_2 l0_2.length c0_2); have hcz15_3 := cz_ BK1222.out 3 (.slice A0_3 l0_3.length c0_3); have hcz15_4 := cz_ BK1222.out 4 (.int .i64 a0_4); have hcz15_5 := cz_ BK1222.out 5 (.int .i64 a0_5); have hfz15_0 := blk_frozen BK1222.out 0; have hfz15_1 := blk_frozen BK1222.out 1; have hfz15_2 := blk_frozen BK1222.out 2; have hfz15_3 := blk_frozen BK1222.out 3; have hfz15_4 := blk_frozen BK1222.out 4; have hfz15_5 := blk_frozen BK1222.out 5) | ((with_reducible refine gate_callee (f := 50) rfl ?_); refine gl_ 16 Tryd.func50 #[.slice A0_3 l0_3.length c0_3] ?_; (with_reducible refine (laws_toEntryS.calls k _ _ l0_3 t1228 _ ?side1 ?side2 A3.out).mono ?_); (case side1 => exact Kd.C_below HR0_3.out (bel_)); (case side2 => exact HC0_3.out); rintro e w16 ⟨v1229, rfl, ho0, hb⟩; refine ⟨_, rfl, ?_⟩; have n0_ := Aside0.mk (Kd.R_below (by (with_reducible repeat (first | apply Kd.R_alloc | apply Kd.R_drewN | apply Kd.R_drew)); exact (Kd.R_mono (Kd.R_far (p := ⟨gb1224, 2, none⟩) (Kd.R_types HO1227.out BK1224.out (by decide)) (fun _ hk => hk.2) (.slice Ao13 t1225.length co13)) (fun _ h_ => h_.1))) hb); have n1_ := Aside0.mk (Kd.R_lower ho0 (below_size (bel_))); have n2_ := Aside0.mk (blk_below (g := gb1222) (o := .cells #[.int .i64 a0_0, .int .i64 a0_1, .slice A0_2 l0_2.length c0_2, .slice A0_3 l0_3.length c0_3, .int .i64 a0_4, .int .i64 a0_5] 85 (0, 0)) (by (with_reducible repeat (first | refine blk_drewN ?_ _ | refine blk_drew ?_ | refine blk_alloc ?_ _)); refine blk_far ?_ NB1222_1224.out _; (with_reducible repeat (first | refine blk_drewN ?_ _ | refine blk_drew ?_ | refine blk_alloc ?_ _)); exact BK1222.out) hb); have n3_ := Aside0.mk (blk_below (g := gb1223) (o := .cells #[.int .i64 0, .int .i64 0, .slice none 0 0, .slice none 0 0, .int .i64 0, .int .i64 0] 77 (0, 0)) (by (with_reducible repeat (first | refine blk_drewN ?_ _ | refine blk_drew ?_ | refine blk_alloc ?_ _)); refine blk_far ?_ NB1223_1224.out _; (with_reducible repeat (first | refine blk_drewN ?_ _ | refine blk_drew ?_ | refine blk_alloc ?_ _)); exact BK1223.out) hb); have n4_ := Aside0.mk (blk_below (g := gb1224) (o := .cells #[.int .i64 a0_0, .int .i64 a0_1, .slice Ao13 t1225.length co13, .slice none 0 0, .int .i64 0, .int .i64 0] 77 (0, 0)) (by (with_reducible repeat (first | refine blk_drewN ?_ _ | refine blk_drew ?_ | refine blk_alloc ?_ _)); refine blk_put (cs := #[.int .i64 a0_0, .int .i64 a0_1, .slice none 0 0, .slice none 0 0, .int .i64 0, .int .i64 0]) ?_ 2 _ rfl; (with_reducible repeat (first | refine blk_drewN ?_ _ | refine blk_drew ?_ | refine blk_alloc ?_ _)); exact BK1224.out) hb); have n5_ := Aside0.mk (below_step (bel_) hb); clear HO1227; clear BK1222; clear BK1223; clear BK1224; clear HB; have HO1227 := n0_; have HO1230 := n1_; have BK1222 := n2_; have BK1223 := n3_; have BK1224 := n4_; have HB := n5_; clear n0_ n1_ n2_ n3_ n4_ n5_; (try clear hb ho0); obtain ⟨Ao17, co17, eo17⟩ := Kd.R_slice HO1230.out; subst eo17; have hcz18_0 := cz_ BK1224.out 0 (.int .i64 a0_0); have hcz18_1 := cz_ BK1224.out 1 (.int .i64 a0_1); have hcz18_2 := cz_ BK1224.out 2 (.slice Ao13 t1225.length co13); have hcz18_3 := cz_ BK1224.out 3 (.slice none 0 0); have hcz18_4 := cz_ BK1224.out 4 (.int .i64 0); have hcz18_5 := cz_ BK1224.out 5 (.int .i64 0); have hfz18_0 := blk_frozen BK1224.out 0; have hfz18_1 := blk_frozen BK1224.out 1; have hfz18_2 := blk_frozen BK1224.out 2; have hfz18_3 := blk_frozen BK1224.out 3; have hfz18_4 := blk_frozen BK1224.out 4; have hfz18_5 := blk_frozen BK1224.out 5; have hcz19_0 := cz_ BK1222.out 0 (.int .i64 a0_0); have hcz19_1 := cz_ BK1222.out 1 (.int .i64 a0_1); have hcz19_2 := cz_ BK1222.out 2 (.slice A0_2 l0_2.length c0_2); have hcz19_3 := cz_ BK1222.out 3 (.slice A0_3 l0_3.length c0_3); have hcz19_4 := cz_ BK1222.out 4 (.int .i64 a0_4); have hcz19_5 := cz_ BK1222.out 5 (.int .i64 a0_5); have hfz19_0 := blk_frozen BK1222.out 0; have hfz19_1 := blk_frozen BK1222.out 1; have hfz19_2 := blk_frozen BK1222.out 2; have hfz19_3 := blk_frozen BK1222.out 3; have hfz19_4 := blk_frozen BK1222.out 4; have hfz19_5 := blk_frozen BK1222.out 5; have hcz20_0 := cz_ BK1223.out 0 (.int .i64 0); have hcz20_1 := cz_ BK1223.out 1 (.int .i64 0); have hcz20_2 := cz_ BK1223.out 2 (.slice none 0 0); have hcz20_3 := cz_ BK1223.out 3 (.slice none 0 0); have hcz20_4 := cz_ BK1223.out 4 (.int .i64 0); have hcz20_5 := cz_ BK1223.out 5 (.int .i64 0); have hfz20_0 := blk_frozen BK1223.out 0; have hfz20_1 := blk_frozen BK1223.out 1; have hfz20_2 := blk_frozen BK1223.out 2; have hfz20_3 := blk_frozen BK1223.out 3; have hfz20_4 := blk_frozen BK1223.out 4; have hfz20_5 := blk_frozen BK1223.out 5))
 refine bodyPost_ret (results_cell_row rfl _ _ gb1223 77 #[.int .i64 a0_0, .int .i64 a0_1, .slice Ao13 t1225.length co13, .slice Ao17 t1228.length co17, .int .i64 a0_4, .int .i64 a0_5] (0, 0) _ rfl (by (with_reducible repeat (first | refine blk_drewN ?_ _ | refine blk_drew ?_ | refine blk_alloc ?_ _)); refine blk_put (cs := #[.int .i64 a0_0, .int .i64 a0_1, .slice Ao13 t1225.length co13, .slice Ao17 t1228.length co17, .int .i64 a0_4, .int .i64 0]) ?_ 5 _ rfl; (with_reducible repeat (first | refine blk_drewN ?_ _ | refine blk_drew ?_ | refine blk_alloc ?_ _)); refine blk_put (cs := #[.int .i64 a0_0, .int .i64 a0_1, .slice Ao13 t1225.length co13, .slice Ao17 t1228.length co17, .int .i64 0, .int .i64 0]) ?_ 4 _ rfl; (with_reducible repeat (first | refine blk_drewN ?_ _ | refine blk_drew ?_ | refine blk_alloc ?_ _)); refine blk_put (cs := #[.int .i64 a0_0, .int .i64 a0_1, .slice Ao13 t1225.length co13, .slice none 0 0, .int .i64 0, .int .i64 0]) ?_ 3 _ rfl; (with_reducible repeat (first | refine blk_drewN ?_ _ | refine blk_drew ?_ | refine blk_alloc ?_ _)); refine blk_put (cs := #[.int .i64 a0_0, .int .i64 a0_1, .slice none 0 0, .slice none 0 0, .int .i64 0, .int .i64 0]) ?_ 2 _ rfl; (with_reducible repeat (first | refine blk_drewN ?_ _ | refine blk_drew ?_ | refine blk_alloc ?_ _)); refine blk_put (cs := #[.int .i64 a0_0, .int .i64 0, .slice none 0 0, .slice none 0 0, .int .i64 0, .int .i64 0]) ?_ 1 _ rfl; (with_reducible repeat (first | refine blk_drewN ?_ _ | refine blk_drew ?_ | refine blk_alloc ?_ _)); refine blk_put (cs := #[.int .i64 0, .int .i64 0, .slice none 0 0, .slice none 0 0, .int .i64 0, .int .i64 0]) ?_ 0 _ rfl; (with_reducible repeat (first | refine blk_drewN ?_ _ | refine blk_drew ?_ | refine blk_alloc ?_ _)); refine blk_far ?_ NB1223_1224.out _; (with_reducible repeat (first | refine blk_drewN ?_ _ | refine blk_drew ?_ | refine blk_alloc ?_ _)); refine blk_far ?_ NB1223_1224.out _; (with_reducible repeat (first | refine blk_drewN ?_ _ | refine blk_drew ?_ | refine blk_alloc ?_ _)); refine blk_far ?_ NB1223_1224.out _; (with_reducible repeat (first | refine blk_drewN ?_ _ | refine blk_drew ?_ | refine blk_alloc ?_ _)); exact BK1223.out) Tryd.underlying77 rfl (by kernel_rfl)) rfl ?_
 exact ⟨_, _, fi_, by (with_reducible repeat (first | apply Kd.R_alloc | apply Kd.R_drewN | apply Kd.R_drew)); exact Kd.R_mono (Kd.R_far (p := ⟨gb1223, 5, none⟩) (Kd.R_far (p := ⟨gb1223, 4, none⟩) (Kd.R_far (p := ⟨gb1223, 3, none⟩) (Kd.R_far (p := ⟨gb1223, 2, none⟩) (Kd.R_far (p := ⟨gb1223, 1, none⟩) (Kd.R_far (p := ⟨gb1223, 0, none⟩) (Kd.R_far (p := ⟨gb1224, 5, none⟩) (Kd.R_far (p := ⟨gb1224, 4, none⟩) (Kd.R_far (p := ⟨gb1224, 3, none⟩) (Kd.R_types (Kd.R_types HO1227.out BK1224.out (by decide)) BK1223.out (by decide)) (fun _ hk => hk.1.2) (.slice Ao17 t1228.length co17)) (fun _ hk => hk.1.2) (.int .i64 a0_4)) (fun _ hk => hk.1.2) (.int .i64 a0_5)) (fun _ hk => hk.2) (.int .i64 a0_0)) (fun _ hk => hk.2) (.int .i64 a0_1)) (fun _ hk => hk.2) (.slice Ao13 t1225.length co13)) (fun _ hk => hk.2) (.slice Ao17 t1228.length co17)) (fun _ hk => hk.2) (.int .i64 a0_4)) (fun _ hk => hk.2) (.int .i64 a0_5)) (fun _ hk => trivial), by (with_reducible repeat (first | apply Kd.R_alloc | apply Kd.R_drewN | apply Kd.R_drew)); exact Kd.R_mono (Kd.R_far (p := ⟨gb1223, 5, none⟩) (Kd.R_far (p := ⟨gb1223, 4, none⟩) (Kd.R_far (p := ⟨gb1223, 3, none⟩) (Kd.R_far (p := ⟨gb1223, 2, none⟩) (Kd.R_far (p := ⟨gb1223, 1, none⟩) (Kd.R_far (p := ⟨gb1223, 0, none⟩) (Kd.R_far (p := ⟨gb1224, 5, none⟩) (Kd.R_far (p := ⟨gb1224, 4, none⟩) (Kd.R_far (p := ⟨gb1224, 3, none⟩) (Kd.R_types (Kd.R_types HO1230.out BK1224.out (by decide)) BK1223.out (by decide)) (fun _ hk => hk.1.2) (.slice Ao17 t1228.length co17)) (fun _ hk => hk.1.2) (.int .i64 a0_4)) (fun _ hk => hk.1.2) (.int .i64 a0_5)) (fun _ hk => hk.2) (.int .i64 a0_0)) (fun _ hk => hk.2) (.int .i64 a0_1)) (fun _ hk => hk.2) (.slice Ao13 t1225.length co13)) (fun _ hk => hk.2) (.slice Ao17 t1228.length co17)) (fun _ hk => hk.2) (.int .i64 a0_4)) (fun _ hk => hk.2) (.int .i64 a0_5)) (fun _ hk => trivial), bel_⟩

def laws_eqClient.f (k : Nat) (a0_0 : Int) (a0_1 : Int) (l0_2 : List (S69)) (l0_3 : List (S44)) (a0_4 : Int) (a0_5 : Int) (a1_0 : Int) (a1_1 : Int) (l1_2 : List (S69)) (l1_3 : List (S44)) (a1_4 : Int) (a1_5 : Int) : Option (Bool) := if a0_0 = a1_0 then (if a0_1 = a1_1 then ((laws_eqRowS.f k l0_2 l1_2).bind fun t1233 => (if t1233 = true then ((laws_eqEntryS.f k l0_3 l1_3).bind fun t1234 => (if t1234 = true then (if a0_4 = a1_4 then (if a0_5 = a1_5 then (some true) else (some false)) else (some false)) else (some false))) else (some false))) else (some false)) else (some false)
theorem laws_eqClient.mono : ∀ a0 a1 a2 a3 a4 a5 a6 a7 a8 a9 a10 a11 k, LeO (laws_eqClient.f k a0 a1 a2 a3 a4 a5 a6 a7 a8 a9 a10 a11) (laws_eqClient.f (k + 1) a0 a1 a2 a3 a4 a5 a6 a7 a8 a9 a10 a11) := by
 intro a0 a1 a2 a3 a4 a5 a6 a7 a8 a9 a10 a11 k
 unfold laws_eqClient.f
 repeat' first
   | (with_reducible exact laws_eqEntryS.mono _ _ _)
   | (with_reducible exact laws_eqRowS.mono _ _ _)
   | (with_reducible exact LeO.refl _)
   | (with_reducible exact LeO.none _)
   | (with_reducible refine LeO.ite ?_ ?_)
   | (with_reducible refine LeO.bind ?_ (fun _ => ?_))
   | exact laws_eqEntryS.mono _ _ _
   | exact laws_eqRowS.mono _ _ _
   | exact LeO.none _
   | refine LeO.ite ?_ ?_
   | refine LeO.bind ?_ (fun _ => ?_)
set_option maxHeartbeats 8000000 in
set_option maxRecDepth 100000 in
theorem laws_eqClient.calls (k : Nat) (a0_0 : Int) (a0_1 : Int) (A0_2 : Option Addr) (c0_2 : Nat) (l0_2 : List (S69)) (A0_3 : Option Addr) (c0_3 : Nat) (l0_3 : List (S44)) (a0_4 : Int) (a0_5 : Int) (a1_0 : Int) (a1_1 : Int) (A1_2 : Option Addr) (c1_2 : Nat) (l1_2 : List (S69)) (A1_3 : Option Addr) (c1_3 : Nat) (l1_3 : List (S44)) (a1_4 : Int) (a1_5 : Int) (r : Bool) (w : World) (hr0_2 : Kd.C k69 w A0_2 l0_2.length l0_2) (hc0_2 : l0_2.length ≤ c0_2) (hr0_3 : Kd.C k44 w A0_3 l0_3.length l0_3) (hc0_3 : l0_3.length ≤ c0_3) (hr1_2 : Kd.C k69 w A1_2 l1_2.length l1_2) (hc1_2 : l1_2.length ≤ c1_2) (hr1_3 : Kd.C k44 w A1_3 l1_3.length l1_3) (hc1_3 : l1_3.length ≤ c1_3) (h : laws_eqClient.f k a0_0 a0_1 l0_2 l0_3 a0_4 a0_5 a1_0 a1_1 l1_2 l1_3 a1_4 a1_5 = some r) :
  Calls Tryd.prog 65 #[.agg #[.int .i64 a0_0, .int .i64 a0_1, .slice A0_2 l0_2.length c0_2, .slice A0_3 l0_3.length c0_3, .int .i64 a0_4, .int .i64 a0_5], .agg #[.int .i64 a1_0, .int .i64 a1_1, .slice A1_2 l1_2.length c1_2, .slice A1_3 l1_3.length c1_3, .int .i64 a1_4, .int .i64 a1_5]] w fun e w' => e = .returned (.bool r) ∧ Below w.heap.size w w' := by
 have hu77 := Tryd.underlying77
 have HR0_2 := Aside0.mk hr0_2
 have HC0_2 := Aside0.mk hc0_2
 clear hr0_2 hc0_2
 have HR0_3 := Aside0.mk hr0_3
 have HC0_3 := Aside0.mk hc0_3
 clear hr0_3 hc0_3
 have HR1_2 := Aside0.mk hr1_2
 have HC1_2 := Aside0.mk hc1_2
 clear hr1_2 hc1_2
 have HR1_3 := Aside0.mk hr1_3
 have HC1_3 := Aside0.mk hc1_3
 clear hr1_3 hc1_3
 have HB := Aside0.mk (Below.refl w.heap.size w)
 unfold laws_eqClient.f at h
 have H := h
 clear h
 by_cases c3 : a0_0 = a1_0
 ·rw [if_pos c3] at H
  have c3b0 : (a0_0 == a1_0) = true := beq_iff_eq.mpr c3
  have c3b1 : (a0_0 != a1_0) = false := bne_eq_false_iff_eq.mpr c3
  clear c3
  by_cases c4 : a0_1 = a1_1
  ·rw [if_pos c4] at H
   have c4b0 : (a0_1 == a1_1) = true := beq_iff_eq.mpr c4
   have c4b1 : (a0_1 != a1_1) = false := bne_eq_false_iff_eq.mpr c4
   clear c4
   replace H := Option.bind_eq_some_iff.mp H
   obtain ⟨t1233, A50, H⟩ := H
   try dsimp only at H
   have A5 := Aside0.mk A50
   clear A50
   by_cases c6 : t1233 = true
   ·subst c6
    have H1 : ((laws_eqEntryS.f k l0_3 l1_3).bind fun t1234 => (if t1234 = true then (if a0_4 = a1_4 then (if a0_5 = a1_5 then (some true) else (some false)) else (some false)) else (some false))) = some r := by rw [if_pos rfl] at H; exact H
    clear H
    have H := H1
    clear H1
    replace H := Option.bind_eq_some_iff.mp H
    obtain ⟨t1234, A70, H⟩ := H
    try dsimp only at H
    have A7 := Aside0.mk A70
    clear A70
    by_cases c8 : t1234 = true
    ·subst c8
     have H1 : (if a0_4 = a1_4 then (if a0_5 = a1_5 then (some true) else (some false)) else (some false)) = some r := by rw [if_pos rfl] at H; exact H
     clear H
     have H := H1
     clear H1
     by_cases c9 : a0_4 = a1_4
     ·rw [if_pos c9] at H
      have c9b0 : (a0_4 == a1_4) = true := beq_iff_eq.mpr c9
      have c9b1 : (a0_4 != a1_4) = false := bne_eq_false_iff_eq.mpr c9
      clear c9
      by_cases c10 : a0_5 = a1_5
      ·rw [if_pos c10] at H
       have c10b0 : (a0_5 == a1_5) = true := beq_iff_eq.mpr c10
       have c10b1 : (a0_5 != a1_5) = false := bne_eq_false_iff_eq.mpr c10
       clear c10
       obtain rfl := Option.some.inj H
       go_enter Tryd.func65, Tryd.ntmps65
       go_wp2_with (first | ((with_reducible refine gate_dst (N := 2) rfl ?_); refine bx_ 2 (#[.int .i64 a0_0, .int .i64 a0_1, .slice A0_2 l0_2.length c0_2, .slice A0_3 l0_3.length c0_3, .int .i64 a0_4, .int .i64 a0_5]) 77 ?_; intro gb1231 hg w11 hbox hb; have n0_ := Aside0.mk (below_step (bel_) hb); have n1_ := Aside0.mk (hbox); have n2_ := Aside0.mk ((by rw [hg]; exact (below_size (bel_)) : w.heap.size ≤ gb1231)); have n3_ := Aside0.mk ((by rw [hg]; exact (below_size (bel_)) : w.heap.size ≤ gb1231)); clear HB; have HB := n0_; have BK1231 := n1_; have GW1231 := n2_; have GE1231 := n3_; clear n0_ n1_ n2_ n3_; clear hb hbox hg) | ((with_reducible refine gate_dst (N := 3) rfl ?_); refine bx_ 3 (#[.int .i64 a1_0, .int .i64 a1_1, .slice A1_2 l1_2.length c1_2, .slice A1_3 l1_3.length c1_3, .int .i64 a1_4, .int .i64 a1_5]) 77 ?_; intro gb1232 hg w12 hbox hb; have n0_ := Aside0.mk (bb_ BK1231.out hb); have n1_ := Aside0.mk (below_step (bel_) hb); have n2_ := Aside0.mk (hbox); have n3_ := Aside0.mk ((by rw [hg]; exact (below_size (bel_)) : w.heap.size ≤ gb1232)); have n4_ := Aside0.mk ((by rw [hg]; exact (below_size (bel_)) : w.heap.size ≤ gb1232)); have n5_ := Aside0.mk ((by rw [hg]; exact Nat.ne_of_lt (blk_lt (g := gb1231) (o := .cells #[.int .i64 a0_0, .int .i64 a0_1, .slice A0_2 l0_2.length c0_2, .slice A0_3 l0_3.length c0_3, .int .i64 a0_4, .int .i64 a0_5] 77 (0, 0)) (bp_ BK1231.out)) : gb1231 ≠ gb1232)); have n6_ := Aside0.mk ((by rw [hg]; exact Nat.ne_of_gt (blk_lt (g := gb1231) (o := .cells #[.int .i64 a0_0, .int .i64 a0_1, .slice A0_2 l0_2.length c0_2, .slice A0_3 l0_3.length c0_3, .int .i64 a0_4, .int .i64 a0_5] 77 (0, 0)) (bp_ BK1231.out)) : gb1232 ≠ gb1231)); clear BK1231; clear HB; have BK1231 := n0_; have HB := n1_; have BK1232 := n2_; have GW1232 := n3_; have GE1232 := n4_; have NB1231_1232 := n5_; have NB1232_1231 := n6_; clear n0_ n1_ n2_ n3_ n4_ n5_ n6_; clear hb hbox hg; have hnb13 := NB1231_1232.out; have hnc13 := NB1232_1231.out; have hcz14_0 := cz_ BK1231.out 0 (.int .i64 a0_0); have hcz14_1 := cz_ BK1231.out 1 (.int .i64 a0_1); have hcz14_2 := cz_ BK1231.out 2 (.slice A0_2 l0_2.length c0_2); have hcz14_3 := cz_ BK1231.out 3 (.slice A0_3 l0_3.length c0_3); have hcz14_4 := cz_ BK1231.out 4 (.int .i64 a0_4); have hcz14_5 := cz_ BK1231.out 5 (.int .i64 a0_5); have hfz14_0 := blk_frozen BK1231.out 0; have hfz14_1 := blk_frozen BK1231.out 1; have hfz14_2 := blk_frozen BK1231.out 2; have hfz14_3 := blk_frozen BK1231.out 3; have hfz14_4 := blk_frozen BK1231.out 4; have hfz14_5 := blk_frozen BK1231.out 5; have hcz15_0 := cz_ BK1232.out 0 (.int .i64 a1_0); have hcz15_1 := cz_ BK1232.out 1 (.int .i64 a1_1); have hcz15_2 := cz_ BK1232.out 2 (.slice A1_2 l1_2.length c1_2); have hcz15_3 := cz_ BK1232.out 3 (.slice A1_3 l1_3.length c1_3); have hcz15_4 := cz_ BK1232.out 4 (.int .i64 a1_4); have hcz15_5 := cz_ BK1232.out 5 (.int .i64 a1_5); have hfz15_0 := blk_frozen BK1232.out 0; have hfz15_1 := blk_frozen BK1232.out 1; have hfz15_2 := blk_frozen BK1232.out 2; have hfz15_3 := blk_frozen BK1232.out 3; have hfz15_4 := blk_frozen BK1232.out 4; have hfz15_5 := blk_frozen BK1232.out 5) | ((with_reducible refine gate_callee (f := 51) rfl ?_); refine gl_ 19 Tryd.func51 #[.slice A0_2 l0_2.length c0_2, .slice A1_2 l1_2.length c1_2] ?_; (with_reducible refine (laws_eqRowS.calls k _ _ l0_2 _ _ l1_2 true _ ?side1 ?side2 ?side3 ?side4 A5.out).mono ?_); (case side1 => exact cp_ HR0_2.out); (case side2 => exact HC0_2.out); (case side3 => exact cx_ (Kd.C_below HR1_2.out HB.out)); (case side4 => exact HC1_2.out); rintro e w16 ⟨rfl, hb⟩; refine ⟨_, rfl, ?_⟩; replace HB := Aside0.mk (below_step (bel_) hb); replace BK1231 := Aside0.mk (bb_ BK1231.out hb); replace BK1232 := Aside0.mk (bb_ BK1232.out hb); (try clear hb); have hcz17_0 := cz_ BK1231.out 0 (.int .i64 a0_0); have hcz17_1 := cz_ BK1231.out 1 (.int .i64 a0_1); have hcz17_2 := cz_ BK1231.out 2 (.slice A0_2 l0_2.length c0_2); have hcz17_3 := cz_ BK1231.out 3 (.slice A0_3 l0_3.length c0_3); have hcz17_4 := cz_ BK1231.out 4 (.int .i64 a0_4); have hcz17_5 := cz_ BK1231.out 5 (.int .i64 a0_5); have hfz17_0 := blk_frozen BK1231.out 0; have hfz17_1 := blk_frozen BK1231.out 1; have hfz17_2 := blk_frozen BK1231.out 2; have hfz17_3 := blk_frozen BK1231.out 3; have hfz17_4 := blk_frozen BK1231.out 4; have hfz17_5 := blk_frozen BK1231.out 5; have hcz18_0 := cz_ BK1232.out 0 (.int .i64 a1_0); have hcz18_1 := cz_ BK1232.out 1 (.int .i64 a1_1); have hcz18_2 := cz_ BK1232.out 2 (.slice A1_2 l1_2.length c1_2); have hcz18_3 := cz_ BK1232.out 3 (.slice A1_3 l1_3.length c1_3); have hcz18_4 := cz_ BK1232.out 4 (.int .i64 a1_4); have hcz18_5 := cz_ BK1232.out 5 (.int .i64 a1_5); have hfz18_0 := blk_frozen BK1232.out 0; have hfz18_1 := blk_frozen BK1232.out 1; have hfz18_2 := blk_frozen BK1232.out 2; have hfz18_3 := blk_frozen BK1232.out 3; have hfz18_4 := blk_frozen BK1232.out 4; have hfz18_5 := blk_frozen BK1232.out 5) | ((with_reducible refine gate_callee (f := 52) rfl ?_); refine gl_ 25 Tryd.func52 #[.slice A0_3 l0_3.length c0_3, .slice A1_3 l1_3.length c1_3] ?_; (with_reducible refine (laws_eqEntryS.calls k _ _ l0_3 _ _ l1_3 true _ ?side1 ?side2 ?side3 ?side4 A7.out).mono ?_); (case side1 => exact cp_ HR0_3.out); (case side2 => exact HC0_3.out); (case side3 => exact cx_ (Kd.C_below HR1_3.out HB.out)); (case side4 => exact HC1_3.out); rintro e w19 ⟨rfl, hb⟩; refine ⟨_, rfl, ?_⟩; replace HB := Aside0.mk (below_step (bel_) hb); replace BK1231 := Aside0.mk (bb_ BK1231.out hb); replace BK1232 := Aside0.mk (bb_ BK1232.out hb); (try clear hb); have hcz20_0 := cz_ BK1231.out 0 (.int .i64 a0_0); have hcz20_1 := cz_ BK1231.out 1 (.int .i64 a0_1); have hcz20_2 := cz_ BK1231.out 2 (.slice A0_2 l0_2.length c0_2); have hcz20_3 := cz_ BK1231.out 3 (.slice A0_3 l0_3.length c0_3); have hcz20_4 := cz_ BK1231.out 4 (.int .i64 a0_4); have hcz20_5 := cz_ BK1231.out 5 (.int .i64 a0_5); have hfz20_0 := blk_frozen BK1231.out 0; have hfz20_1 := blk_frozen BK1231.out 1; have hfz20_2 := blk_frozen BK1231.out 2; have hfz20_3 := blk_frozen BK1231.out 3; have hfz20_4 := blk_frozen BK1231.out 4; have hfz20_5 := blk_frozen BK1231.out 5; have hcz21_0 := cz_ BK1232.out 0 (.int .i64 a1_0); have hcz21_1 := cz_ BK1232.out 1 (.int .i64 a1_1); have hcz21_2 := cz_ BK1232.out 2 (.slice A1_2 l1_2.length c1_2); have hcz21_3 := cz_ BK1232.out 3 (.slice A1_3 l1_3.length c1_3); have hcz21_4 := cz_ BK1232.out 4 (.int .i64 a1_4); have hcz21_5 := cz_ BK1232.out 5 (.int .i64 a1_5); have hfz21_0 := blk_frozen BK1232.out 0; have hfz21_1 := blk_frozen BK1232.out 1; have hfz21_2 := blk_frozen BK1232.out 2; have hfz21_3 := blk_frozen BK1232.out 3; have hfz21_4 := blk_frozen BK1232.out 4; have hfz21_5 := blk_frozen BK1232.out 5))
       go_ret
       exact ⟨fi_, bel_⟩
      ·rw [if_neg c10] at H
       have c10b0 : (a0_5 == a1_5) = false := beq_eq_false_iff_ne.mpr c10
       have c10b1 : (a0_5 != a1_5) = true := bne_iff_ne.mpr c10
       obtain rfl := Option.some.inj H
       go_enter Tryd.func65, Tryd.ntmps65
       go_wp2_with (first | ((with_reducible refine gate_dst (N := 2) rfl ?_); refine bx_ 2 (#[.int .i64 a0_0, .int .i64 a0_1, .slice A0_2 l0_2.length c0_2, .slice A0_3 l0_3.length c0_3, .int .i64 a0_4, .int .i64 a0_5]) 77 ?_; intro gb1231 hg w22 hbox hb; have n0_ := Aside0.mk (below_step (bel_) hb); have n1_ := Aside0.mk (hbox); have n2_ := Aside0.mk ((by rw [hg]; exact (below_size (bel_)) : w.heap.size ≤ gb1231)); have n3_ := Aside0.mk ((by rw [hg]; exact (below_size (bel_)) : w.heap.size ≤ gb1231)); clear HB; have HB := n0_; have BK1231 := n1_; have GW1231 := n2_; have GE1231 := n3_; clear n0_ n1_ n2_ n3_; clear hb hbox hg) | ((with_reducible refine gate_dst (N := 3) rfl ?_); refine bx_ 3 (#[.int .i64 a1_0, .int .i64 a1_1, .slice A1_2 l1_2.length c1_2, .slice A1_3 l1_3.length c1_3, .int .i64 a1_4, .int .i64 a1_5]) 77 ?_; intro gb1232 hg w23 hbox hb; have n0_ := Aside0.mk (bb_ BK1231.out hb); have n1_ := Aside0.mk (below_step (bel_) hb); have n2_ := Aside0.mk (hbox); have n3_ := Aside0.mk ((by rw [hg]; exact (below_size (bel_)) : w.heap.size ≤ gb1232)); have n4_ := Aside0.mk ((by rw [hg]; exact (below_size (bel_)) : w.heap.size ≤ gb1232)); have n5_ := Aside0.mk ((by rw [hg]; exact Nat.ne_of_lt (blk_lt (g := gb1231) (o := .cells #[.int .i64 a0_0, .int .i64 a0_1, .slice A0_2 l0_2.length c0_2, .slice A0_3 l0_3.length c0_3, .int .i64 a0_4, .int .i64 a0_5] 77 (0, 0)) (bp_ BK1231.out)) : gb1231 ≠ gb1232)); have n6_ := Aside0.mk ((by rw [hg]; exact Nat.ne_of_gt (blk_lt (g := gb1231) (o := .cells #[.int .i64 a0_0, .int .i64 a0_1, .slice A0_2 l0_2.length c0_2, .slice A0_3 l0_3.length c0_3, .int .i64 a0_4, .int .i64 a0_5] 77 (0, 0)) (bp_ BK1231.out)) : gb1232 ≠ gb1231)); clear BK1231; clear HB; have BK1231 := n0_; have HB := n1_; have BK1232 := n2_; have GW1232 := n3_; have GE1232 := n4_; have NB1231_1232 := n5_; have NB1232_1231 := n6_; clear n0_ n1_ n2_ n3_ n4_ n5_ n6_; clear hb hbox hg; have hnb24 := NB1231_1232.out; have hnc24 := NB1232_1231.out; have hcz25_0 := cz_ BK1231.out 0 (.int .i64 a0_0); have hcz25_1 := cz_ BK1231.out 1 (.int .i64 a0_1); have hcz25_2 := cz_ BK1231.out 2 (.slice A0_2 l0_2.length c0_2); have hcz25_3 := cz_ BK1231.out 3 (.slice A0_3 l0_3.length c0_3); have hcz25_4 := cz_ BK1231.out 4 (.int .i64 a0_4); have hcz25_5 := cz_ BK1231.out 5 (.int .i64 a0_5); have hfz25_0 := blk_frozen BK1231.out 0; have hfz25_1 := blk_frozen BK1231.out 1; have hfz25_2 := blk_frozen BK1231.out 2; have hfz25_3 := blk_frozen BK1231.out 3; have hfz25_4 := blk_frozen BK1231.out 4; have hfz25_5 := blk_frozen BK1231.out 5; have hcz26_0 := cz_ BK1232.out 0 (.int .i64 a1_0); have hcz26_1 := cz_ BK1232.out 1 (.int .i64 a1_1); have hcz26_2 := cz_ BK1232.out 2 (.slice A1_2 l1_2.length c1_2); have hcz26_3 := cz_ BK1232.out 3 (.slice A1_3 l1_3.length c1_3); have hcz26_4 := cz_ BK1232.out 4 (.int .i64 a1_4); have hcz26_5 := cz_ BK1232.out 5 (.int .i64 a1_5); have hfz26_0 := blk_frozen BK1232.out 0; have hfz26_1 := blk_frozen BK1232.out 1; have hfz26_2 := blk_frozen BK1232.out 2; have hfz26_3 := blk_frozen BK1232.out 3; have hfz26_4 := blk_frozen BK1232.out 4; have hfz26_5 := blk_frozen BK1232.out 5) | ((with_reducible refine gate_callee (f := 51) rfl ?_); refine gl_ 19 Tryd.func51 #[.slice A0_2 l0_2.length c0_2, .slice A1_2 l1_2.length c1_2] ?_; (with_reducible refine (laws_eqRowS.calls k _ _ l0_2 _ _ l1_2 true _ ?side1 ?side2 ?side3 ?side4 A5.out).mono ?_); (case side1 => exact cp_ HR0_2.out); (case side2 => exact HC0_2.out); (case side3 => exact cx_ (Kd.C_below HR1_2.out HB.out)); (case side4 => exact HC1_2.out); rintro e w27 ⟨rfl, hb⟩; refine ⟨_, rfl, ?_⟩; replace HB := Aside0.mk (below_step (bel_) hb); replace BK1231 := Aside0.mk (bb_ BK1231.out hb); replace BK1232 := Aside0.mk (bb_ BK1232.out hb); (try clear hb); have hcz28_0 := cz_ BK1231.out 0 (.int .i64 a0_0); have hcz28_1 := cz_ BK1231.out 1 (.int .i64 a0_1); have hcz28_2 := cz_ BK1231.out 2 (.slice A0_2 l0_2.length c0_2); have hcz28_3 := cz_ BK1231.out 3 (.slice A0_3 l0_3.length c0_3); have hcz28_4 := cz_ BK1231.out 4 (.int .i64 a0_4); have hcz28_5 := cz_ BK1231.out 5 (.int .i64 a0_5); have hfz28_0 := blk_frozen BK1231.out 0; have hfz28_1 := blk_frozen BK1231.out 1; have hfz28_2 := blk_frozen BK1231.out 2; have hfz28_3 := blk_frozen BK1231.out 3; have hfz28_4 := blk_frozen BK1231.out 4; have hfz28_5 := blk_frozen BK1231.out 5; have hcz29_0 := cz_ BK1232.out 0 (.int .i64 a1_0); have hcz29_1 := cz_ BK1232.out 1 (.int .i64 a1_1); have hcz29_2 := cz_ BK1232.out 2 (.slice A1_2 l1_2.length c1_2); have hcz29_3 := cz_ BK1232.out 3 (.slice A1_3 l1_3.length c1_3); have hcz29_4 := cz_ BK1232.out 4 (.int .i64 a1_4); have hcz29_5 := cz_ BK1232.out 5 (.int .i64 a1_5); have hfz29_0 := blk_frozen BK1232.out 0; have hfz29_1 := blk_frozen BK1232.out 1; have hfz29_2 := blk_frozen BK1232.out 2; have hfz29_3 := blk_frozen BK1232.out 3; have hfz29_4 := blk_frozen BK1232.out 4; have hfz29_5 := blk_frozen BK1232.out 5) | ((with_reducible refine gate_callee (f := 52) rfl ?_); refine gl_ 25 Tryd.func52 #[.slice A0_3 l0_3.length c0_3, .slice A1_3 l1_3.length c1_3] ?_; (with_reducible refine (laws_eqEntryS.calls k _ _ l0_3 _ _ l1_3 true _ ?side1 ?side2 ?side3 ?side4 A7.out).mono ?_); (case side1 => exact cp_ HR0_3.out); (case side2 => exact HC0_3.out); (case side3 => exact cx_ (Kd.C_below HR1_3.out HB.out)); (case side4 => exact HC1_3.out); rintro e w30 ⟨rfl, hb⟩; refine ⟨_, rfl, ?_⟩; replace HB := Aside0.mk (below_step (bel_) hb); replace BK1231 := Aside0.mk (bb_ BK1231.out hb); replace BK1232 := Aside0.mk (bb_ BK1232.out hb); (try clear hb); have hcz31_0 := cz_ BK1231.out 0 (.int .i64 a0_0); have hcz31_1 := cz_ BK1231.out 1 (.int .i64 a0_1); have hcz31_2 := cz_ BK1231.out 2 (.slice A0_2 l0_2.length c0_2); have hcz31_3 := cz_ BK1231.out 3 (.slice A0_3 l0_3.length c0_3); have hcz31_4 := cz_ BK1231.out 4 (.int .i64 a0_4); have hcz31_5 := cz_ BK1231.out 5 (.int .i64 a0_5); have hfz31_0 := blk_frozen BK1231.out 0; have hfz31_1 := blk_frozen BK1231.out 1; have hfz31_2 := blk_frozen BK1231.out 2; have hfz31_3 := blk_frozen BK1231.out 3; have hfz31_4 := blk_frozen BK1231.out 4; have hfz31_5 := blk_frozen BK1231.out 5; have hcz32_0 := cz_ BK1232.out 0 (.int .i64 a1_0); have hcz32_1 := cz_ BK1232.out 1 (.int .i64 a1_1); have hcz32_2 := cz_ BK1232.out 2 (.slice A1_2 l1_2.length c1_2); have hcz32_3 := cz_ BK1232.out 3 (.slice A1_3 l1_3.length c1_3); have hcz32_4 := cz_ BK1232.out 4 (.int .i64 a1_4); have hcz32_5 := cz_ BK1232.out 5 (.int .i64 a1_5); have hfz32_0 := blk_frozen BK1232.out 0; have hfz32_1 := blk_frozen BK1232.out 1; have hfz32_2 := blk_frozen BK1232.out 2; have hfz32_3 := blk_frozen BK1232.out 3; have hfz32_4 := blk_frozen BK1232.out 4; have hfz32_5 := blk_frozen BK1232.out 5))
       go_ret
       exact ⟨fi_, bel_⟩
     ·rw [if_neg c9] at H
      have c9b0 : (a0_4 == a1_4) = false := beq_eq_false_iff_ne.mpr c9
      have c9b1 : (a0_4 != a1_4) = true := bne_iff_ne.mpr c9
      obtain rfl := Option.some.inj H
      go_enter Tryd.func65, Tryd.ntmps65
      go_wp2_with (first | ((with_reducible refine gate_dst (N := 2) rfl ?_); refine bx_ 2 (#[.int .i64 a0_0, .int .i64 a0_1, .slice A0_2 l0_2.length c0_2, .slice A0_3 l0_3.length c0_3, .int .i64 a0_4, .int .i64 a0_5]) 77 ?_; intro gb1231 hg w33 hbox hb; have n0_ := Aside0.mk (below_step (bel_) hb); have n1_ := Aside0.mk (hbox); have n2_ := Aside0.mk ((by rw [hg]; exact (below_size (bel_)) : w.heap.size ≤ gb1231)); have n3_ := Aside0.mk ((by rw [hg]; exact (below_size (bel_)) : w.heap.size ≤ gb1231)); clear HB; have HB := n0_; have BK1231 := n1_; have GW1231 := n2_; have GE1231 := n3_; clear n0_ n1_ n2_ n3_; clear hb hbox hg) | ((with_reducible refine gate_dst (N := 3) rfl ?_); refine bx_ 3 (#[.int .i64 a1_0, .int .i64 a1_1, .slice A1_2 l1_2.length c1_2, .slice A1_3 l1_3.length c1_3, .int .i64 a1_4, .int .i64 a1_5]) 77 ?_; intro gb1232 hg w34 hbox hb; have n0_ := Aside0.mk (bb_ BK1231.out hb); have n1_ := Aside0.mk (below_step (bel_) hb); have n2_ := Aside0.mk (hbox); have n3_ := Aside0.mk ((by rw [hg]; exact (below_size (bel_)) : w.heap.size ≤ gb1232)); have n4_ := Aside0.mk ((by rw [hg]; exact (below_size (bel_)) : w.heap.size ≤ gb1232)); have n5_ := Aside0.mk ((by rw [hg]; exact Nat.ne_of_lt (blk_lt (g := gb1231) (o := .cells #[.int .i64 a0_0, .int .i64 a0_1, .slice A0_2 l0_2.length c0_2, .slice A0_3 l0_3.length c0_3, .int .i64 a0_4, .int .i64 a0_5] 77 (0, 0)) (bp_ BK1231.out)) : gb1231 ≠ gb1232)); have n6_ := Aside0.mk ((by rw [hg]; exact Nat.ne_of_gt (blk_lt (g := gb1231) (o := .cells #[.int .i64 a0_0, .int .i64 a0_1, .slice A0_2 l0_2.length c0_2, .slice A0_3 l0_3.length c0_3, .int .i64 a0_4, .int .i64 a0_5] 77 (0, 0)) (bp_ BK1231.out)) : gb1232 ≠ gb1231)); clear BK1231; clear HB; have BK1231 := n0_; have HB := n1_; have BK1232 := n2_; have GW1232 := n3_; have GE1232 := n4_; have NB1231_1232 := n5_; have NB1232_1231 := n6_; clear n0_ n1_ n2_ n3_ n4_ n5_ n6_; clear hb hbox hg; have hnb35 := NB1231_1232.out; have hnc35 := NB1232_1231.out; have hcz36_0 := cz_ BK1231.out 0 (.int .i64 a0_0); have hcz36_1 := cz_ BK1231.out 1 (.int .i64 a0_1); have hcz36_2 := cz_ BK1231.out 2 (.slice A0_2 l0_2.length c0_2); have hcz36_3 := cz_ BK1231.out 3 (.slice A0_3 l0_3.length c0_3); have hcz36_4 := cz_ BK1231.out 4 (.int .i64 a0_4); have hcz36_5 := cz_ BK1231.out 5 (.int .i64 a0_5); have hfz36_0 := blk_frozen BK1231.out 0; have hfz36_1 := blk_frozen BK1231.out 1; have hfz36_2 := blk_frozen BK1231.out 2; have hfz36_3 := blk_frozen BK1231.out 3; have hfz36_4 := blk_frozen BK1231.out 4; have hfz36_5 := blk_frozen BK1231.out 5; have hcz37_0 := cz_ BK1232.out 0 (.int .i64 a1_0); have hcz37_1 := cz_ BK1232.out 1 (.int .i64 a1_1); have hcz37_2 := cz_ BK1232.out 2 (.slice A1_2 l1_2.length c1_2); have hcz37_3 := cz_ BK1232.out 3 (.slice A1_3 l1_3.length c1_3); have hcz37_4 := cz_ BK1232.out 4 (.int .i64 a1_4); have hcz37_5 := cz_ BK1232.out 5 (.int .i64 a1_5); have hfz37_0 := blk_frozen BK1232.out 0; have hfz37_1 := blk_frozen BK1232.out 1; have hfz37_2 := blk_frozen BK1232.out 2; have hfz37_3 := blk_frozen BK1232.out 3; have hfz37_4 := blk_frozen BK1232.out 4; have hfz37_5 := blk_frozen BK1232.out 5) | ((with_reducible refine gate_callee (f := 51) rfl ?_); refine gl_ 19 Tryd.func51 #[.slice A0_2 l0_2.length c0_2, .slice A1_2 l1_2.length c1_2] ?_; (with_reducible refine (laws_eqRowS.calls k _ _ l0_2 _ _ l1_2 true _ ?side1 ?side2 ?side3 ?side4 A5.out).mono ?_); (case side1 => exact cp_ HR0_2.out); (case side2 => exact HC0_2.out); (case side3 => exact cx_ (Kd.C_below HR1_2.out HB.out)); (case side4 => exact HC1_2.out); rintro e w38 ⟨rfl, hb⟩; refine ⟨_, rfl, ?_⟩; replace HB := Aside0.mk (below_step (bel_) hb); replace BK1231 := Aside0.mk (bb_ BK1231.out hb); replace BK1232 := Aside0.mk (bb_ BK1232.out hb); (try clear hb); have hcz39_0 := cz_ BK1231.out 0 (.int .i64 a0_0); have hcz39_1 := cz_ BK1231.out 1 (.int .i64 a0_1); have hcz39_2 := cz_ BK1231.out 2 (.slice A0_2 l0_2.length c0_2); have hcz39_3 := cz_ BK1231.out 3 (.slice A0_3 l0_3.length c0_3); have hcz39_4 := cz_ BK1231.out 4 (.int .i64 a0_4); have hcz39_5 := cz_ BK1231.out 5 (.int .i64 a0_5); have hfz39_0 := blk_frozen BK1231.out 0; have hfz39_1 := blk_frozen BK1231.out 1; have hfz39_2 := blk_frozen BK1231.out 2; have hfz39_3 := blk_frozen BK1231.out 3; have hfz39_4 := blk_frozen BK1231.out 4; have hfz39_5 := blk_frozen BK1231.out 5; have hcz40_0 := cz_ BK1232.out 0 (.int .i64 a1_0); have hcz40_1 := cz_ BK1232.out 1 (.int .i64 a1_1); have hcz40_2 := cz_ BK1232.out 2 (.slice A1_2 l1_2.length c1_2); have hcz40_3 := cz_ BK1232.out 3 (.slice A1_3 l1_3.length c1_3); have hcz40_4 := cz_ BK1232.out 4 (.int .i64 a1_4); have hcz40_5 := cz_ BK1232.out 5 (.int .i64 a1_5); have hfz40_0 := blk_frozen BK1232.out 0; have hfz40_1 := blk_frozen BK1232.out 1; have hfz40_2 := blk_frozen BK1232.out 2; have hfz40_3 := blk_frozen BK1232.out 3; have hfz40_4 := blk_frozen BK1232.out 4; have hfz40_5 := blk_frozen BK1232.out 5) | ((with_reducible refine gate_callee (f := 52) rfl ?_); refine gl_ 25 Tryd.func52 #[.slice A0_3 l0_3.length c0_3, .slice A1_3 l1_3.length c1_3] ?_; (with_reducible refine (laws_eqEntryS.calls k _ _ l0_3 _ _ l1_3 true _ ?side1 ?side2 ?side3 ?side4 A7.out).mono ?_); (case side1 => exact cp_ HR0_3.out); (case side2 => exact HC0_3.out); (case side3 => exact cx_ (Kd.C_below HR1_3.out HB.out)); (case side4 => exact HC1_3.out); rintro e w41 ⟨rfl, hb⟩; refine ⟨_, rfl, ?_⟩; replace HB := Aside0.mk (below_step (bel_) hb); replace BK1231 := Aside0.mk (bb_ BK1231.out hb); replace BK1232 := Aside0.mk (bb_ BK1232.out hb); (try clear hb); have hcz42_0 := cz_ BK1231.out 0 (.int .i64 a0_0); have hcz42_1 := cz_ BK1231.out 1 (.int .i64 a0_1); have hcz42_2 := cz_ BK1231.out 2 (.slice A0_2 l0_2.length c0_2); have hcz42_3 := cz_ BK1231.out 3 (.slice A0_3 l0_3.length c0_3); have hcz42_4 := cz_ BK1231.out 4 (.int .i64 a0_4); have hcz42_5 := cz_ BK1231.out 5 (.int .i64 a0_5); have hfz42_0 := blk_frozen BK1231.out 0; have hfz42_1 := blk_frozen BK1231.out 1; have hfz42_2 := blk_frozen BK1231.out 2; have hfz42_3 := blk_frozen BK1231.out 3; have hfz42_4 := blk_frozen BK1231.out 4; have hfz42_5 := blk_frozen BK1231.out 5; have hcz43_0 := cz_ BK1232.out 0 (.int .i64 a1_0); have hcz43_1 := cz_ BK1232.out 1 (.int .i64 a1_1); have hcz43_2 := cz_ BK1232.out 2 (.slice A1_2 l1_2.length c1_2); have hcz43_3 := cz_ BK1232.out 3 (.slice A1_3 l1_3.length c1_3); have hcz43_4 := cz_ BK1232.out 4 (.int .i64 a1_4); have hcz43_5 := cz_ BK1232.out 5 (.int .i64 a1_5); have hfz43_0 := blk_frozen BK1232.out 0; have hfz43_1 := blk_frozen BK1232.out 1; have hfz43_2 := blk_frozen BK1232.out 2; have hfz43_3 := blk_frozen BK1232.out 3; have hfz43_4 := blk_frozen BK1232.out 4; have hfz43_5 := blk_frozen BK1232.out 5))
      go_ret
      exact ⟨fi_, bel_⟩
    ·replace c8 := Bool.eq_false_iff.mpr c8
     subst c8
     have H1 : (some false) = some r := by rw [if_neg (show ¬ (false = true) by decide)] at H; exact H
     clear H
     have H := H1
     clear H1
     obtain rfl := Option.some.inj H
     go_enter Tryd.func65, Tryd.ntmps65
     go_wp2_with (first | ((with_reducible refine gate_dst (N := 2) rfl ?_); refine bx_ 2 (#[.int .i64 a0_0, .int .i64 a0_1, .slice A0_2 l0_2.length c0_2, .slice A0_3 l0_3.length c0_3, .int .i64 a0_4, .int .i64 a0_5]) 77 ?_; intro gb1231 hg w44 hbox hb; have n0_ := Aside0.mk (below_step (bel_) hb); have n1_ := Aside0.mk (hbox); have n2_ := Aside0.mk ((by rw [hg]; exact (below_size (bel_)) : w.heap.size ≤ gb1231)); have n3_ := Aside0.mk ((by rw [hg]; exact (below_size (bel_)) : w.heap.size ≤ gb1231)); clear HB; have HB := n0_; have BK1231 := n1_; have GW1231 := n2_; have GE1231 := n3_; clear n0_ n1_ n2_ n3_; clear hb hbox hg) | ((with_reducible refine gate_dst (N := 3) rfl ?_); refine bx_ 3 (#[.int .i64 a1_0, .int .i64 a1_1, .slice A1_2 l1_2.length c1_2, .slice A1_3 l1_3.length c1_3, .int .i64 a1_4, .int .i64 a1_5]) 77 ?_; intro gb1232 hg w45 hbox hb; have n0_ := Aside0.mk (bb_ BK1231.out hb); have n1_ := Aside0.mk (below_step (bel_) hb); have n2_ := Aside0.mk (hbox); have n3_ := Aside0.mk ((by rw [hg]; exact (below_size (bel_)) : w.heap.size ≤ gb1232)); have n4_ := Aside0.mk ((by rw [hg]; exact (below_size (bel_)) : w.heap.size ≤ gb1232)); have n5_ := Aside0.mk ((by rw [hg]; exact Nat.ne_of_lt (blk_lt (g := gb1231) (o := .cells #[.int .i64 a0_0, .int .i64 a0_1, .slice A0_2 l0_2.length c0_2, .slice A0_3 l0_3.length c0_3, .int .i64 a0_4, .int .i64 a0_5] 77 (0, 0)) (bp_ BK1231.out)) : gb1231 ≠ gb1232)); have n6_ := Aside0.mk ((by rw [hg]; exact Nat.ne_of_gt (blk_lt (g := gb1231) (o := .cells #[.int .i64 a0_0, .int .i64 a0_1, .slice A0_2 l0_2.length c0_2, .slice A0_3 l0_3.length c0_3, .int .i64 a0_4, .int .i64 a0_5] 77 (0, 0)) (bp_ BK1231.out)) : gb1232 ≠ gb1231)); clear BK1231; clear HB; have BK1231 := n0_; have HB := n1_; have BK1232 := n2_; have GW1232 := n3_; have GE1232 := n4_; have NB1231_1232 := n5_; have NB1232_1231 := n6_; clear n0_ n1_ n2_ n3_ n4_ n5_ n6_; clear hb hbox hg; have hnb46 := NB1231_1232.out; have hnc46 := NB1232_1231.out; have hcz47_0 := cz_ BK1231.out 0 (.int .i64 a0_0); have hcz47_1 := cz_ BK1231.out 1 (.int .i64 a0_1); have hcz47_2 := cz_ BK1231.out 2 (.slice A0_2 l0_2.length c0_2); have hcz47_3 := cz_ BK1231.out 3 (.slice A0_3 l0_3.length c0_3); have hcz47_4 := cz_ BK1231.out 4 (.int .i64 a0_4); have hcz47_5 := cz_ BK1231.out 5 (.int .i64 a0_5); have hfz47_0 := blk_frozen BK1231.out 0; have hfz47_1 := blk_frozen BK1231.out 1; have hfz47_2 := blk_frozen BK1231.out 2; have hfz47_3 := blk_frozen BK1231.out 3; have hfz47_4 := blk_frozen BK1231.out 4; have hfz47_5 := blk_frozen BK1231.out 5; have hcz48_0 := cz_ BK1232.out 0 (.int .i64 a1_0); have hcz48_1 := cz_ BK1232.out 1 (.int .i64 a1_1); have hcz48_2 := cz_ BK1232.out 2 (.slice A1_2 l1_2.length c1_2); have hcz48_3 := cz_ BK1232.out 3 (.slice A1_3 l1_3.length c1_3); have hcz48_4 := cz_ BK1232.out 4 (.int .i64 a1_4); have hcz48_5 := cz_ BK1232.out 5 (.int .i64 a1_5); have hfz48_0 := blk_frozen BK1232.out 0; have hfz48_1 := blk_frozen BK1232.out 1; have hfz48_2 := blk_frozen BK1232.out 2; have hfz48_3 := blk_frozen BK1232.out 3; have hfz48_4 := blk_frozen BK1232.out 4; have hfz48_5 := blk_frozen BK1232.out 5) | ((with_reducible refine gate_callee (f := 51) rfl ?_); refine gl_ 19 Tryd.func51 #[.slice A0_2 l0_2.length c0_2, .slice A1_2 l1_2.length c1_2] ?_; (with_reducible refine (laws_eqRowS.calls k _ _ l0_2 _ _ l1_2 true _ ?side1 ?side2 ?side3 ?side4 A5.out).mono ?_); (case side1 => exact cp_ HR0_2.out); (case side2 => exact HC0_2.out); (case side3 => exact cx_ (Kd.C_below HR1_2.out HB.out)); (case side4 => exact HC1_2.out); rintro e w49 ⟨rfl, hb⟩; refine ⟨_, rfl, ?_⟩; replace HB := Aside0.mk (below_step (bel_) hb); replace BK1231 := Aside0.mk (bb_ BK1231.out hb); replace BK1232 := Aside0.mk (bb_ BK1232.out hb); (try clear hb); have hcz50_0 := cz_ BK1231.out 0 (.int .i64 a0_0); have hcz50_1 := cz_ BK1231.out 1 (.int .i64 a0_1); have hcz50_2 := cz_ BK1231.out 2 (.slice A0_2 l0_2.length c0_2); have hcz50_3 := cz_ BK1231.out 3 (.slice A0_3 l0_3.length c0_3); have hcz50_4 := cz_ BK1231.out 4 (.int .i64 a0_4); have hcz50_5 := cz_ BK1231.out 5 (.int .i64 a0_5); have hfz50_0 := blk_frozen BK1231.out 0; have hfz50_1 := blk_frozen BK1231.out 1; have hfz50_2 := blk_frozen BK1231.out 2; have hfz50_3 := blk_frozen BK1231.out 3; have hfz50_4 := blk_frozen BK1231.out 4; have hfz50_5 := blk_frozen BK1231.out 5; have hcz51_0 := cz_ BK1232.out 0 (.int .i64 a1_0); have hcz51_1 := cz_ BK1232.out 1 (.int .i64 a1_1); have hcz51_2 := cz_ BK1232.out 2 (.slice A1_2 l1_2.length c1_2); have hcz51_3 := cz_ BK1232.out 3 (.slice A1_3 l1_3.length c1_3); have hcz51_4 := cz_ BK1232.out 4 (.int .i64 a1_4); have hcz51_5 := cz_ BK1232.out 5 (.int .i64 a1_5); have hfz51_0 := blk_frozen BK1232.out 0; have hfz51_1 := blk_frozen BK1232.out 1; have hfz51_2 := blk_frozen BK1232.out 2; have hfz51_3 := blk_frozen BK1232.out 3; have hfz51_4 := blk_frozen BK1232.out 4; have hfz51_5 := blk_frozen BK1232.out 5) | ((with_reducible refine gate_callee (f := 52) rfl ?_); refine gl_ 25 Tryd.func52 #[.slice A0_3 l0_3.length c0_3, .slice A1_3 l1_3.length c1_3] ?_; (with_reducible refine (laws_eqEntryS.calls k _ _ l0_3 _ _ l1_3 false _ ?side1 ?side2 ?side3 ?side4 A7.out).mono ?_); (case side1 => exact cp_ HR0_3.out); (case side2 => exact HC0_3.out); (case side3 => exact cx_ (Kd.C_below HR1_3.out HB.out)); (case side4 => exact HC1_3.out); rintro e w52 ⟨rfl, hb⟩; refine ⟨_, rfl, ?_⟩; replace HB := Aside0.mk (below_step (bel_) hb); replace BK1231 := Aside0.mk (bb_ BK1231.out hb); replace BK1232 := Aside0.mk (bb_ BK1232.out hb); (try clear hb)))
     go_ret
     exact ⟨fi_, bel_⟩
   ·replace c6 := Bool.eq_false_iff.mpr c6
    subst c6
    have H1 : (some false) = some r := by rw [if_neg (show ¬ (false = true) by decide)] at H; exact H
    clear H
    have H := H1
    clear H1
    obtain rfl := Option.some.inj H
    go_enter Tryd.func65, Tryd.ntmps65
    go_wp2_with (first | ((with_reducible refine gate_dst (N := 2) rfl ?_); refine bx_ 2 (#[.int .i64 a0_0, .int .i64 a0_1, .slice A0_2 l0_2.length c0_2, .slice A0_3 l0_3.length c0_3, .int .i64 a0_4, .int .i64 a0_5]) 77 ?_; intro gb1231 hg w53 hbox hb; have n0_ := Aside0.mk (below_step (bel_) hb); have n1_ := Aside0.mk (hbox); have n2_ := Aside0.mk ((by rw [hg]; exact (below_size (bel_)) : w.heap.size ≤ gb1231)); have n3_ := Aside0.mk ((by rw [hg]; exact (below_size (bel_)) : w.heap.size ≤ gb1231)); clear HB; have HB := n0_; have BK1231 := n1_; have GW1231 := n2_; have GE1231 := n3_; clear n0_ n1_ n2_ n3_; clear hb hbox hg) | ((with_reducible refine gate_dst (N := 3) rfl ?_); refine bx_ 3 (#[.int .i64 a1_0, .int .i64 a1_1, .slice A1_2 l1_2.length c1_2, .slice A1_3 l1_3.length c1_3, .int .i64 a1_4, .int .i64 a1_5]) 77 ?_; intro gb1232 hg w54 hbox hb; have n0_ := Aside0.mk (bb_ BK1231.out hb); have n1_ := Aside0.mk (below_step (bel_) hb); have n2_ := Aside0.mk (hbox); have n3_ := Aside0.mk ((by rw [hg]; exact (below_size (bel_)) : w.heap.size ≤ gb1232)); have n4_ := Aside0.mk ((by rw [hg]; exact (below_size (bel_)) : w.heap.size ≤ gb1232)); have n5_ := Aside0.mk ((by rw [hg]; exact Nat.ne_of_lt (blk_lt (g := gb1231) (o := .cells #[.int .i64 a0_0, .int .i64 a0_1, .slice A0_2 l0_2.length c0_2, .slice A0_3 l0_3.length c0_3, .int .i64 a0_4, .int .i64 a0_5] 77 (0, 0)) (bp_ BK1231.out)) : gb1231 ≠ gb1232)); have n6_ := Aside0.mk ((by rw [hg]; exact Nat.ne_of_gt (blk_lt (g := gb1231) (o := .cells #[.int .i64 a0_0, .int .i64 a0_1, .slice A0_2 l0_2.length c0_2, .slice A0_3 l0_3.length c0_3, .int .i64 a0_4, .int .i64 a0_5] 77 (0, 0)) (bp_ BK1231.out)) : gb1232 ≠ gb1231)); clear BK1231; clear HB; have BK1231 := n0_; have HB := n1_; have BK1232 := n2_; have GW1232 := n3_; have GE1232 := n4_; have NB1231_1232 := n5_; have NB1232_1231 := n6_; clear n0_ n1_ n2_ n3_ n4_ n5_ n6_; clear hb hbox hg; have hnb55 := NB1231_1232.out; have hnc55 := NB1232_1231.out; have hcz56_0 := cz_ BK1231.out 0 (.int .i64 a0_0); have hcz56_1 := cz_ BK1231.out 1 (.int .i64 a0_1); have hcz56_2 := cz_ BK1231.out 2 (.slice A0_2 l0_2.length c0_2); have hcz56_3 := cz_ BK1231.out 3 (.slice A0_3 l0_3.length c0_3); have hcz56_4 := cz_ BK1231.out 4 (.int .i64 a0_4); have hcz56_5 := cz_ BK1231.out 5 (.int .i64 a0_5); have hfz56_0 := blk_frozen BK1231.out 0; have hfz56_1 := blk_frozen BK1231.out 1; have hfz56_2 := blk_frozen BK1231.out 2; have hfz56_3 := blk_frozen BK1231.out 3; have hfz56_4 := blk_frozen BK1231.out 4; have hfz56_5 := blk_frozen BK1231.out 5; have hcz57_0 := cz_ BK1232.out 0 (.int .i64 a1_0); have hcz57_1 := cz_ BK1232.out 1 (.int .i64 a1_1); have hcz57_2 := cz_ BK1232.out 2 (.slice A1_2 l1_2.length c1_2); have hcz57_3 := cz_ BK1232.out 3 (.slice A1_3 l1_3.length c1_3); have hcz57_4 := cz_ BK1232.out 4 (.int .i64 a1_4); have hcz57_5 := cz_ BK1232.out 5 (.int .i64 a1_5); have hfz57_0 := blk_frozen BK1232.out 0; have hfz57_1 := blk_frozen BK1232.out 1; have hfz57_2 := blk_frozen BK1232.out 2; have hfz57_3 := blk_frozen BK1232.out 3; have hfz57_4 := blk_frozen BK1232.out 4; have hfz57_5 := blk_frozen BK1232.out 5) | ((with_reducible refine gate_callee (f := 51) rfl ?_); refine gl_ 19 Tryd.func51 #[.slice A0_2 l0_2.length c0_2, .slice A1_2 l1_2.length c1_2] ?_; (with_reducible refine (laws_eqRowS.calls k _ _ l0_2 _ _ l1_2 false _ ?side1 ?side2 ?side3 ?side4 A5.out).mono ?_); (case side1 => exact cp_ HR0_2.out); (case side2 => exact HC0_2.out); (case side3 => exact cx_ (Kd.C_below HR1_2.out HB.out)); (case side4 => exact HC1_2.out); rintro e w58 ⟨rfl, hb⟩; refine ⟨_, rfl, ?_⟩; replace HB := Aside0.mk (below_step (bel_) hb); replace BK1231 := Aside0.mk (bb_ BK1231.out hb); replace BK1232 := Aside0.mk (bb_ BK1232.out hb); (try clear hb)))
    go_ret
    exact ⟨fi_, bel_⟩
  ·rw [if_neg c4] at H
   have c4b0 : (a0_1 == a1_1) = false := beq_eq_false_iff_ne.mpr c4
   have c4b1 : (a0_1 != a1_1) = true := bne_iff_ne.mpr c4
   obtain rfl := Option.some.inj H
   go_enter Tryd.func65, Tryd.ntmps65
   go_wp2_with (first | ((with_reducible refine gate_dst (N := 2) rfl ?_); refine bx_ 2 (#[.int .i64 a0_0, .int .i64 a0_1, .slice A0_2 l0_2.length c0_2, .slice A0_3 l0_3.length c0_3, .int .i64 a0_4, .int .i64 a0_5]) 77 ?_; intro gb1231 hg w59 hbox hb; have n0_ := Aside0.mk (below_step (bel_) hb); have n1_ := Aside0.mk (hbox); have n2_ := Aside0.mk ((by rw [hg]; exact (below_size (bel_)) : w.heap.size ≤ gb1231)); have n3_ := Aside0.mk ((by rw [hg]; exact (below_size (bel_)) : w.heap.size ≤ gb1231)); clear HB; have HB := n0_; have BK1231 := n1_; have GW1231 := n2_; have GE1231 := n3_; clear n0_ n1_ n2_ n3_; clear hb hbox hg) | ((with_reducible refine gate_dst (N := 3) rfl ?_); refine bx_ 3 (#[.int .i64 a1_0, .int .i64 a1_1, .slice A1_2 l1_2.length c1_2, .slice A1_3 l1_3.length c1_3, .int .i64 a1_4, .int .i64 a1_5]) 77 ?_; intro gb1232 hg w60 hbox hb; have n0_ := Aside0.mk (bb_ BK1231.out hb); have n1_ := Aside0.mk (below_step (bel_) hb); have n2_ := Aside0.mk (hbox); have n3_ := Aside0.mk ((by rw [hg]; exact (below_size (bel_)) : w.heap.size ≤ gb1232)); have n4_ := Aside0.mk ((by rw [hg]; exact (below_size (bel_)) : w.heap.size ≤ gb1232)); have n5_ := Aside0.mk ((by rw [hg]; exact Nat.ne_of_lt (blk_lt (g := gb1231) (o := .cells #[.int .i64 a0_0, .int .i64 a0_1, .slice A0_2 l0_2.length c0_2, .slice A0_3 l0_3.length c0_3, .int .i64 a0_4, .int .i64 a0_5] 77 (0, 0)) (bp_ BK1231.out)) : gb1231 ≠ gb1232)); have n6_ := Aside0.mk ((by rw [hg]; exact Nat.ne_of_gt (blk_lt (g := gb1231) (o := .cells #[.int .i64 a0_0, .int .i64 a0_1, .slice A0_2 l0_2.length c0_2, .slice A0_3 l0_3.length c0_3, .int .i64 a0_4, .int .i64 a0_5] 77 (0, 0)) (bp_ BK1231.out)) : gb1232 ≠ gb1231)); clear BK1231; clear HB; have BK1231 := n0_; have HB := n1_; have BK1232 := n2_; have GW1232 := n3_; have GE1232 := n4_; have NB1231_1232 := n5_; have NB1232_1231 := n6_; clear n0_ n1_ n2_ n3_ n4_ n5_ n6_; clear hb hbox hg; have hnb61 := NB1231_1232.out; have hnc61 := NB1232_1231.out; have hcz62_0 := cz_ BK1231.out 0 (.int .i64 a0_0); have hcz62_1 := cz_ BK1231.out 1 (.int .i64 a0_1); have hcz62_2 := cz_ BK1231.out 2 (.slice A0_2 l0_2.length c0_2); have hcz62_3 := cz_ BK1231.out 3 (.slice A0_3 l0_3.length c0_3); have hcz62_4 := cz_ BK1231.out 4 (.int .i64 a0_4); have hcz62_5 := cz_ BK1231.out 5 (.int .i64 a0_5); have hfz62_0 := blk_frozen BK1231.out 0; have hfz62_1 := blk_frozen BK1231.out 1; have hfz62_2 := blk_frozen BK1231.out 2; have hfz62_3 := blk_frozen BK1231.out 3; have hfz62_4 := blk_frozen BK1231.out 4; have hfz62_5 := blk_frozen BK1231.out 5; have hcz63_0 := cz_ BK1232.out 0 (.int .i64 a1_0); have hcz63_1 := cz_ BK1232.out 1 (.int .i64 a1_1); have hcz63_2 := cz_ BK1232.out 2 (.slice A1_2 l1_2.length c1_2); have hcz63_3 := cz_ BK1232.out 3 (.slice A1_3 l1_3.length c1_3); have hcz63_4 := cz_ BK1232.out 4 (.int .i64 a1_4); have hcz63_5 := cz_ BK1232.out 5 (.int .i64 a1_5); have hfz63_0 := blk_frozen BK1232.out 0; have hfz63_1 := blk_frozen BK1232.out 1; have hfz63_2 := blk_frozen BK1232.out 2; have hfz63_3 := blk_frozen BK1232.out 3; have hfz63_4 := blk_frozen BK1232.out 4; have hfz63_5 := blk_frozen BK1232.out 5))
   go_ret
   exact ⟨fi_, bel_⟩
 ·rw [if_neg c3] at H
  have c3b0 : (a0_0 == a1_0) = false := beq_eq_false_iff_ne.mpr c3
  have c3b1 : (a0_0 != a1_0) = true := bne_iff_ne.mpr c3
  obtain rfl := Option.some.inj H
  go_enter Tryd.func65, Tryd.ntmps65
  go_wp2_with (first | ((with_reducible refine gate_dst (N := 2) rfl ?_); refine bx_ 2 (#[.int .i64 a0_0, .int .i64 a0_1, .slice A0_2 l0_2.length c0_2, .slice A0_3 l0_3.length c0_3, .int .i64 a0_4, .int .i64 a0_5]) 77 ?_; intro gb1231 hg w64 hbox hb; have n0_ := Aside0.mk (below_step (bel_) hb); have n1_ := Aside0.mk (hbox); have n2_ := Aside0.mk ((by rw [hg]; exact (below_size (bel_)) : w.heap.size ≤ gb1231)); have n3_ := Aside0.mk ((by rw [hg]; exact (below_size (bel_)) : w.heap.size ≤ gb1231)); clear HB; have HB := n0_; have BK1231 := n1_; have GW1231 := n2_; have GE1231 := n3_; clear n0_ n1_ n2_ n3_; clear hb hbox hg) | ((with_reducible refine gate_dst (N := 3) rfl ?_); refine bx_ 3 (#[.int .i64 a1_0, .int .i64 a1_1, .slice A1_2 l1_2.length c1_2, .slice A1_3 l1_3.length c1_3, .int .i64 a1_4, .int .i64 a1_5]) 77 ?_; intro gb1232 hg w65 hbox hb; have n0_ := Aside0.mk (bb_ BK1231.out hb); have n1_ := Aside0.mk (below_step (bel_) hb); have n2_ := Aside0.mk (hbox); have n3_ := Aside0.mk ((by rw [hg]; exact (below_size (bel_)) : w.heap.size ≤ gb1232)); have n4_ := Aside0.mk ((by rw [hg]; exact (below_size (bel_)) : w.heap.size ≤ gb1232)); have n5_ := Aside0.mk ((by rw [hg]; exact Nat.ne_of_lt (blk_lt (g := gb1231) (o := .cells #[.int .i64 a0_0, .int .i64 a0_1, .slice A0_2 l0_2.length c0_2, .slice A0_3 l0_3.length c0_3, .int .i64 a0_4, .int .i64 a0_5] 77 (0, 0)) (bp_ BK1231.out)) : gb1231 ≠ gb1232)); have n6_ := Aside0.mk ((by rw [hg]; exact Nat.ne_of_gt (blk_lt (g := gb1231) (o := .cells #[.int .i64 a0_0, .int .i64 a0_1, .slice A0_2 l0_2.length c0_2, .slice A0_3 l0_3.length c0_3, .int .i64 a0_4, .int .i64 a0_5] 77 (0, 0)) (bp_ BK1231.out)) : gb1232 ≠ gb1231)); clear BK1231; clear HB; have BK1231 := n0_; have HB := n1_; have BK1232 := n2_; have GW1232 := n3_; have GE1232 := n4_; have NB1231_1232 := n5_; have NB1232_1231 := n6_; clear n0_ n1_ n2_ n3_ n4_ n5_ n6_; clear hb hbox hg; have hnb66 := NB1231_1232.out; have hnc66 := NB1232_1231.out; have hcz67_0 := cz_ BK1231.out 0 (.int .i64 a0_0); have hcz67_1 := cz_ BK1231.out 1 (.int .i64 a0_1); have hcz67_2 := cz_ BK1231.out 2 (.slice A0_2 l0_2.length c0_2); have hcz67_3 := cz_ BK1231.out 3 (.slice A0_3 l0_3.length c0_3); have hcz67_4 := cz_ BK1231.out 4 (.int .i64 a0_4); have hcz67_5 := cz_ BK1231.out 5 (.int .i64 a0_5); have hfz67_0 := blk_frozen BK1231.out 0; have hfz67_1 := blk_frozen BK1231.out 1; have hfz67_2 := blk_frozen BK1231.out 2; have hfz67_3 := blk_frozen BK1231.out 3; have hfz67_4 := blk_frozen BK1231.out 4; have hfz67_5 := blk_frozen BK1231.out 5; have hcz68_0 := cz_ BK1232.out 0 (.int .i64 a1_0); have hcz68_1 := cz_ BK1232.out 1 (.int .i64 a1_1); have hcz68_2 := cz_ BK1232.out 2 (.slice A1_2 l1_2.length c1_2); have hcz68_3 := cz_ BK1232.out 3 (.slice A1_3 l1_3.length c1_3); have hcz68_4 := cz_ BK1232.out 4 (.int .i64 a1_4); have hcz68_5 := cz_ BK1232.out 5 (.int .i64 a1_5); have hfz68_0 := blk_frozen BK1232.out 0; have hfz68_1 := blk_frozen BK1232.out 1; have hfz68_2 := blk_frozen BK1232.out 2; have hfz68_3 := blk_frozen BK1232.out 3; have hfz68_4 := blk_frozen BK1232.out 4; have hfz68_5 := blk_frozen BK1232.out 5))
  go_ret
  exact ⟨fi_, bel_⟩

def laws_FnExactClientOk.f (k : Nat) (a0_0 : Int) (a0_1 : Int) (l0_2 : List (S183)) (l0_3 : List (S36)) (a0_4 : Int) (a0_5 : Int) : Option (Bool) := (laws_szClient.f k a0_0 a0_1 l0_2 l0_3 a0_4 a0_5 1048576).bind fun t1236 => (if t1236 < 0 then (some true) else ((laws_toClient.f k a0_0 a0_1 l0_2 l0_3 a0_4 a0_5).bind fun bt1237 => ((spec_ClientOk.f k bt1237.1 bt1237.2.1 bt1237.2.2.1 bt1237.2.2.2.1 bt1237.2.2.2.2.1 bt1237.2.2.2.2.2).bind fun t1247 => ((laws_toClient.f k a0_0 a0_1 l0_2 l0_3 a0_4 a0_5).bind fun bt1248 => ((impl_ClientOk.f k bt1248.1 bt1248.2.1 bt1248.2.2.1 bt1248.2.2.2.1 bt1248.2.2.2.2.1 bt1248.2.2.2.2.2).bind fun t1259 => (if (t1259 != t1247) = true then (none) else ((laws_toClient.f k a0_0 a0_1 l0_2 l0_3 a0_4 a0_5).bind fun bt1260 => ((laws_eqClient.f k bt1248.1 bt1248.2.1 bt1248.2.2.1 bt1248.2.2.2.1 bt1248.2.2.2.2.1 bt1248.2.2.2.2.2 bt1260.1 bt1260.2.1 bt1260.2.2.1 bt1260.2.2.2.1 bt1260.2.2.2.2.1 bt1260.2.2.2.2.2).bind fun t1270 => (if t1270 = true then (some true) else (none))))))))))
theorem laws_FnExactClientOk.mono : ∀ a0 a1 a2 a3 a4 a5 k, LeO (laws_FnExactClientOk.f k a0 a1 a2 a3 a4 a5) (laws_FnExactClientOk.f (k + 1) a0 a1 a2 a3 a4 a5) := by
 intro a0 a1 a2 a3 a4 a5 k
 unfold laws_FnExactClientOk.f
 repeat' first
   | (with_reducible exact impl_ClientOk.mono _ _ _ _ _ _ _)
   | (with_reducible exact laws_eqClient.mono _ _ _ _ _ _ _ _ _ _ _ _ _)
   | (with_reducible exact laws_szClient.mono _ _ _ _ _ _ _ _)
   | (with_reducible exact laws_toClient.mono _ _ _ _ _ _ _)
   | (with_reducible exact spec_ClientOk.mono _ _ _ _ _ _ _)
   | (with_reducible exact LeO.refl _)
   | (with_reducible exact LeO.none _)
   | (with_reducible refine LeO.ite ?_ ?_)
   | (with_reducible refine LeO.bind ?_ (fun _ => ?_))
   | exact impl_ClientOk.mono _ _ _ _ _ _ _
   | exact laws_eqClient.mono _ _ _ _ _ _ _ _ _ _ _ _ _
   | exact laws_szClient.mono _ _ _ _ _ _ _ _
   | exact laws_toClient.mono _ _ _ _ _ _ _
   | exact spec_ClientOk.mono _ _ _ _ _ _ _
   | exact LeO.none _
   | refine LeO.ite ?_ ?_
   | refine LeO.bind ?_ (fun _ => ?_)
set_option maxHeartbeats 8000000 in
set_option maxRecDepth 100000 in
theorem laws_FnExactClientOk.calls (k : Nat) (a0_0 : Int) (a0_1 : Int) (A0_2 : Option Addr) (c0_2 : Nat) (l0_2 : List (S183)) (A0_3 : Option Addr) (c0_3 : Nat) (l0_3 : List (S36)) (a0_4 : Int) (a0_5 : Int) (r : Bool) (w : World) (hr0_2 : Kd.C k183 w A0_2 l0_2.length l0_2) (hc0_2 : l0_2.length ≤ c0_2) (hr0_3 : Kd.C k36 w A0_3 l0_3.length l0_3) (hc0_3 : l0_3.length ≤ c0_3) (h : laws_FnExactClientOk.f k a0_0 a0_1 l0_2 l0_3 a0_4 a0_5 = some r) (hG : Glob w) :
  Calls Tryd.prog 13 #[.agg #[.int .i64 a0_0, .int .i64 a0_1, .slice A0_2 l0_2.length c0_2, .slice A0_3 l0_3.length c0_3, .int .i64 a0_4, .int .i64 a0_5]] w fun e w' => e = .returned (.bool r) ∧ Below w.heap.size w w' := by
 have hu85 := Tryd.underlying85
 have hu77 := Tryd.underlying77
 have HR0_2 := Aside0.mk hr0_2
 have HC0_2 := Aside0.mk hc0_2
 clear hr0_2 hc0_2
 have HR0_3 := Aside0.mk hr0_3
 have HC0_3 := Aside0.mk hc0_3
 clear hr0_3 hc0_3
 have HB := Aside0.mk (Below.refl w.heap.size w)
 have HG := Aside0.mk hG
 clear hG
 have H : ((laws_szClient.f k a0_0 a0_1 l0_2 l0_3 a0_4 a0_5 1048576).bind fun t1236 => (if t1236 < 0 then (some true) else ((laws_toClient.f k a0_0 a0_1 l0_2 l0_3 a0_4 a0_5).bind fun bt1237 => ((spec_ClientOk.f k bt1237.1 bt1237.2.1 bt1237.2.2.1 bt1237.2.2.2.1 bt1237.2.2.2.2.1 bt1237.2.2.2.2.2).bind fun t1247 => ((laws_toClient.f k a0_0 a0_1 l0_2 l0_3 a0_4 a0_5).bind fun bt1248 => ((impl_ClientOk.f k bt1248.1 bt1248.2.1 bt1248.2.2.1 bt1248.2.2.2.1 bt1248.2.2.2.2.1 bt1248.2.2.2.2.2).bind fun t1259 => (if (t1259 != t1247) = true then (none) else ((laws_toClient.f k a0_0 a0_1 l0_2 l0_3 a0_4 a0_5).bind fun bt1260 => ((laws_eqClient.f k bt1248.1 bt1248.2.1 bt1248.2.2.1 bt1248.2.2.2.1 bt1248.2.2.2.2.1 bt1248.2.2.2.2.2 bt1260.1 bt1260.2.1 bt1260.2.2.1 bt1260.2.2.2.1 bt1260.2.2.2.2.1 bt1260.2.2.2.2.2).bind fun t1270 => (if t1270 = true then (some true) else (none))))))))))) = some r := h
 clear h
 replace H := Option.bind_eq_some_iff.mp H
 obtain ⟨t1236, A20, H⟩ := H
 replace H : (if t1236 < 0 then (some true) else ((laws_toClient.f k a0_0 a0_1 l0_2 l0_3 a0_4 a0_5).bind fun bt1237 => ((spec_ClientOk.f k bt1237.1 bt1237.2.1 bt1237.2.2.1 bt1237.2.2.2.1 bt1237.2.2.2.2.1 bt1237.2.2.2.2.2).bind fun t1247 => ((laws_toClient.f k a0_0 a0_1 l0_2 l0_3 a0_4 a0_5).bind fun bt1248 => ((impl_ClientOk.f k bt1248.1 bt1248.2.1 bt1248.2.2.1 bt1248.2.2.2.1 bt1248.2.2.2.2.1 bt1248.2.2.2.2.2).bind fun t1259 => (if (t1259 != t1247) = true then (none) else ((laws_toClient.f k a0_0 a0_1 l0_2 l0_3 a0_4 a0_5).bind fun bt1260 => ((laws_eqClient.f k bt1248.1 bt1248.2.1 bt1248.2.2.1 bt1248.2.2.2.1 bt1248.2.2.2.2.1 bt1248.2.2.2.2.2 bt1260.1 bt1260.2.1 bt1260.2.2.1 bt1260.2.2.2.1 bt1260.2.2.2.2.1 bt1260.2.2.2.2.2).bind fun t1270 => (if t1270 = true then (some true) else (none)))))))))) = some r := H
 have A2 := Aside0.mk A20
 clear A20
 by_cases c3 : t1236 < 0
 ·rw [if_pos c3] at H
  have c3b0 : decide (t1236 < 0) = true := decide_eq_true c3
  clear c3
  obtain rfl := Option.some.inj H
  go_enter Tryd.func13, Tryd.ntmps13
  go_wp2_with (first | ((with_reducible refine gate_dst (N := 1) rfl ?_); refine box_event ?hg (N := 1) ?hd (cs := #[.int .i64 a0_0, .int .i64 a0_1, .slice A0_2 l0_2.length c0_2, .slice A0_3 l0_3.length c0_3, .int .i64 a0_4, .int .i64 a0_5]) (t := 85) ?hr ?_; (case hd => rfl); (case hg => rfl); (case hr => first | (go_simp; done) | (go_simp; rfl)); intro gb1235 hg w4 hbox hb; have n0_ := Aside0.mk (below_step (by repeat (first | (with_reducible first | exact HB.out | apply below_alloc | apply pw_below_drewN | apply below_drew1) | exact HB.out)) hb); have n1_ := Aside0.mk (hbox); have n2_ := Aside0.mk ((by rw [hg]; exact (below_size (by repeat (first | (with_reducible first | exact HB.out | apply below_alloc | apply pw_below_drewN | apply below_drew1) | exact HB.out))) : w.heap.size ≤ gb1235)); have n3_ := Aside0.mk ((by rw [hg]; exact (below_size (by repeat (first | (with_reducible first | exact HB.out | apply below_alloc | apply pw_below_drewN | apply below_drew1) | exact HB.out))) : w.heap.size ≤ gb1235)); clear HB; have HB := n0_; have BK1235 := n1_; have GW1235 := n2_; have GE1235 := n3_; clear n0_ n1_ n2_ n3_; clear hb hbox hg; have hcz5_0 : w4.cell? ⟨gb1235, 0, none⟩ = some (.int .i64 a0_0) := (blk_cell BK1235.out 0).trans rfl; have hcz5_1 : w4.cell? ⟨gb1235, 1, none⟩ = some (.int .i64 a0_1) := (blk_cell BK1235.out 1).trans rfl; have hcz5_2 : w4.cell? ⟨gb1235, 2, none⟩ = some (.slice A0_2 l0_2.length c0_2) := (blk_cell BK1235.out 2).trans rfl; have hcz5_3 : w4.cell? ⟨gb1235, 3, none⟩ = some (.slice A0_3 l0_3.length c0_3) := (blk_cell BK1235.out 3).trans rfl; have hcz5_4 : w4.cell? ⟨gb1235, 4, none⟩ = some (.int .i64 a0_4) := (blk_cell BK1235.out 4).trans rfl; have hcz5_5 : w4.cell? ⟨gb1235, 5, none⟩ = some (.int .i64 a0_5) := (blk_cell BK1235.out 5).trans rfl; have hfz5_0 := blk_frozen BK1235.out 0; have hfz5_1 := blk_frozen BK1235.out 1; have hfz5_2 := blk_frozen BK1235.out 2; have hfz5_3 := blk_frozen BK1235.out 3; have hfz5_4 := blk_frozen BK1235.out 4; have hfz5_5 := blk_frozen BK1235.out 5) | ((with_reducible refine gate_callee (f := 62) rfl ?_); refine goesL_ (some 9) rfl rfl Tryd.func62 (by kernel_rfl) rfl #[.agg #[.int .i64 a0_0, .int .i64 a0_1, .slice A0_2 l0_2.length c0_2, .slice A0_3 l0_3.length c0_3, .int .i64 a0_4, .int .i64 a0_5], .int .i64 1048576] rfl (by (try simp only [List.map_toArray, List.map_cons, List.map_nil]); first | done | rfl | (simp only [List.length_drop, List.length_take]; rfl)) ?_; (with_reducible refine (laws_szClient.calls k a0_0 a0_1 _ _ l0_2 _ _ l0_3 a0_4 a0_5 1048576 t1236 _ ?side1 ?side2 ?side3 ?side4 A2.out).mono ?_); (case side1 => repeat (first | exact (Kd.C_below HR0_2.out HB.out) | (with_reducible refine Kd.C_alloc ?_ _) | (with_reducible refine Kd.C_drewN ?_ _) | (with_reducible refine Kd.C_drew ?_))); (case side2 => exact HC0_2.out); (case side3 => repeat (first | exact (Kd.C_below HR0_3.out HB.out) | (with_reducible refine Kd.C_alloc ?_ _) | (with_reducible refine Kd.C_drewN ?_ _) | (with_reducible refine Kd.C_drew ?_))); (case side4 => exact HC0_3.out); rintro e w6 ⟨rfl, hb⟩; refine ⟨_, rfl, ?_⟩; have n0_ := Aside0.mk (blk_below (g := gb1235) (o := .cells #[.int .i64 a0_0, .int .i64 a0_1, .slice A0_2 l0_2.length c0_2, .slice A0_3 l0_3.length c0_3, .int .i64 a0_4, .int .i64 a0_5] 85 (0, 0)) (by (with_reducible repeat (first | refine blk_drewN ?_ _ | refine blk_drew ?_ | refine blk_alloc ?_ _)); exact BK1235.out) hb); have n1_ := Aside0.mk (below_step (by repeat (first | (with_reducible first | exact HB.out | apply below_alloc | apply pw_below_drewN | apply below_drew1 | refine below_set ?_ GE1235.out) | exact HB.out)) hb); clear BK1235; clear HB; have BK1235 := n0_; have HB := n1_; clear n0_ n1_; (try clear hb); (try clear hb2); (try clear hk); (try clear hi)))
  go_ret
  exact ⟨by first | rfl | (simp [errW_none, errW_some] <;> rfl) | (simp [*, errW_none, errW_some] <;> rfl), by repeat (first | (with_reducible first | exact HB.out | apply below_alloc | apply pw_below_drewN | apply below_drew1 | refine below_set ?_ GE1235.out) | exact HB.out)⟩
 ·rw [if_neg c3] at H
  have c3b0 : decide (t1236 < 0) = false := decide_eq_false c3
  clear c3
  replace H := Option.bind_eq_some_iff.mp H
  obtain ⟨⟨t1237, t1238, t1239, t1242, t1245, t1246⟩, A70, H⟩ := H
  replace H : ((spec_ClientOk.f k t1237 t1238 t1239 t1242 t1245 t1246).bind fun t1247 => ((laws_toClient.f k a0_0 a0_1 l0_2 l0_3 a0_4 a0_5).bind fun bt1248 => ((impl_ClientOk.f k bt1248.1 bt1248.2.1 bt1248.2.2.1 bt1248.2.2.2.1 bt1248.2.2.2.2.1 bt1248.2.2.2.2.2).bind fun t1259 => (if (t1259 != t1247) = true then (none) else ((laws_toClient.f k a0_0 a0_1 l0_2 l0_3 a0_4 a0_5).bind fun bt1260 => ((laws_eqClient.f k bt1248.1 bt1248.2.1 bt1248.2.2.1 bt1248.2.2.2.1 bt1248.2.2.2.2.1 bt1248.2.2.2.2.2 bt1260.1 bt1260.2.1 bt1260.2.2.1 bt1260.2.2.2.1 bt1260.2.2.2.2.1 bt1260.2.2.2.2.2).bind fun t1270 => (if t1270 = true then (some true) else (none)))))))) = some r := H
  have A7 := Aside0.mk A70
  clear A70
  replace H := Option.bind_eq_some_iff.mp H
  obtain ⟨t1247, A80, H⟩ := H
  replace H : ((laws_toClient.f k a0_0 a0_1 l0_2 l0_3 a0_4 a0_5).bind fun bt1248 => ((impl_ClientOk.f k bt1248.1 bt1248.2.1 bt1248.2.2.1 bt1248.2.2.2.1 bt1248.2.2.2.2.1 bt1248.2.2.2.2.2).bind fun t1259 => (if (t1259 != t1247) = true then (none) else ((laws_toClient.f k a0_0 a0_1 l0_2 l0_3 a0_4 a0_5).bind fun bt1260 => ((laws_eqClient.f k bt1248.1 bt1248.2.1 bt1248.2.2.1 bt1248.2.2.2.1 bt1248.2.2.2.2.1 bt1248.2.2.2.2.2 bt1260.1 bt1260.2.1 bt1260.2.2.1 bt1260.2.2.2.1 bt1260.2.2.2.2.1 bt1260.2.2.2.2.2).bind fun t1270 => (if t1270 = true then (some true) else (none))))))) = some r := H
  have A8 := Aside0.mk A80
  clear A80
  replace H := Option.bind_eq_some_iff.mp H
  obtain ⟨⟨t1248, t1249, t1250, t1253, t1256, t1257⟩, A90, H⟩ := H
  replace H : ((impl_ClientOk.f k t1248 t1249 t1250 t1253 t1256 t1257).bind fun t1259 => (if (t1259 != t1247) = true then (none) else ((laws_toClient.f k a0_0 a0_1 l0_2 l0_3 a0_4 a0_5).bind fun bt1260 => ((laws_eqClient.f k t1248 t1249 t1250 t1253 t1256 t1257 bt1260.1 bt1260.2.1 bt1260.2.2.1 bt1260.2.2.2.1 bt1260.2.2.2.2.1 bt1260.2.2.2.2.2).bind fun t1270 => (if t1270 = true then (some true) else (none)))))) = some r := H
  have A9 := Aside0.mk A90
  clear A90
  replace H := Option.bind_eq_some_iff.mp H
  obtain ⟨t1259, A100, H⟩ := H
  replace H : (if (t1259 != t1247) = true then (none) else ((laws_toClient.f k a0_0 a0_1 l0_2 l0_3 a0_4 a0_5).bind fun bt1260 => ((laws_eqClient.f k t1248 t1249 t1250 t1253 t1256 t1257 bt1260.1 bt1260.2.1 bt1260.2.2.1 bt1260.2.2.2.1 bt1260.2.2.2.2.1 bt1260.2.2.2.2.2).bind fun t1270 => (if t1270 = true then (some true) else (none))))) = some r := H
  have A10 := Aside0.mk A100
  clear A100
  by_cases c11 : (t1259 != t1247) = true
  ·rw [if_pos c11] at H
   exact absurd H (by simp)
  ·rw [if_neg c11] at H
   have c11b0 : (t1259 != t1247) = false := by simpa using c11
   (try (have c11b1 : decide (t1259 = t1247) = true := by simpa using c11))
   (try (have c11b2 : (t1259 == t1247) = true := by simpa using c11))
   clear c11
   replace H := Option.bind_eq_some_iff.mp H
   obtain ⟨⟨t1260, t1261, t1262, t1265, t1268, t1269⟩, A120, H⟩ := H
   replace H : ((laws_eqClient.f k t1248 t1249 t1250 t1253 t1256 t1257 t1260 t1261 t1262 t1265 t1268 t1269).bind fun t1270 => (if t1270 = true then (some true) else (none))) = some r := H
   have A12 := Aside0.mk A120
   clear A120
   replace H := Option.bind_eq_some_iff.mp H
   obtain ⟨t1270, A130, H⟩ := H
   replace H : (if t1270 = true then (some true) else (none)) = some r := H
   have A13 := Aside0.mk A130
   clear A130
   by_cases c14 : t1270 = true
   ·subst c14
    have H1 : (some true) = some r := by rw [if_pos rfl] at H; exact H
    clear H
    have H := H1
    clear H1
    obtain rfl := Option.some.inj H
    go_enter Tryd.func13, Tryd.ntmps13
    try go_wp2_with (first | ((with_reducible refine gate_dst (N := 1) rfl ?_); refine box_event ?hg (N := 1) ?hd (cs := #[.int .i64 a0_0, .int .i64 a0_1, .slice A0_2 l0_2.length c0_2, .slice A0_3 l0_3.length c0_3, .int .i64 a0_4, .int .i64 a0_5]) (t := 85) ?hr ?_; (case hd => rfl); (case hg => rfl); (case hr => first | (go_simp; done) | (go_simp; rfl)); intro gb1235 hg w15 hbox hb; have n0_ := Aside0.mk (below_step (by repeat (first | (with_reducible first | exact HB.out | apply below_alloc | apply pw_below_drewN | apply below_drew1) | exact HB.out)) hb); have n1_ := Aside0.mk (hbox); have n2_ := Aside0.mk ((by rw [hg]; exact (below_size (by repeat (first | (with_reducible first | exact HB.out | apply below_alloc | apply pw_below_drewN | apply below_drew1) | exact HB.out))) : w.heap.size ≤ gb1235)); have n3_ := Aside0.mk ((by rw [hg]; exact (below_size (by repeat (first | (with_reducible first | exact HB.out | apply below_alloc | apply pw_below_drewN | apply below_drew1) | exact HB.out))) : w.heap.size ≤ gb1235)); clear HB; have HB := n0_; have BK1235 := n1_; have GW1235 := n2_; have GE1235 := n3_; clear n0_ n1_ n2_ n3_; clear hb hbox hg; have hcz16_0 : w15.cell? ⟨gb1235, 0, none⟩ = some (.int .i64 a0_0) := (blk_cell BK1235.out 0).trans rfl; have hcz16_1 : w15.cell? ⟨gb1235, 1, none⟩ = some (.int .i64 a0_1) := (blk_cell BK1235.out 1).trans rfl; have hcz16_2 : w15.cell? ⟨gb1235, 2, none⟩ = some (.slice A0_2 l0_2.length c0_2) := (blk_cell BK1235.out 2).trans rfl; have hcz16_3 : w15.cell? ⟨gb1235, 3, none⟩ = some (.slice A0_3 l0_3.length c0_3) := (blk_cell BK1235.out 3).trans rfl; have hcz16_4 : w15.cell? ⟨gb1235, 4, none⟩ = some (.int .i64 a0_4) := (blk_cell BK1235.out 4).trans rfl; have hcz16_5 : w15.cell? ⟨gb1235, 5, none⟩ = some (.int .i64 a0_5) := (blk_cell BK1235.out 5).trans rfl; have hfz16_0 := blk_frozen BK1235.out 0; have hfz16_1 := blk_frozen BK1235.out 1; have hfz16_2 := blk_frozen BK1235.out 2; have hfz16_3 := blk_frozen BK1235.out 3; have hfz16_4 := blk_frozen BK1235.out 4; have hfz16_5 := blk_frozen BK1235.out 5) | ((with_reducible refine gate_callee (f := 62) rfl ?_); refine goesL_ (some 9) rfl rfl Tryd.func62 (by kernel_rfl) rfl #[.agg #[.int .i64 a0_0, .int .i64 a0_1, .slice A0_2 l0_2.length c0_2, .slice A0_3 l0_3.length c0_3, .int .i64 a0_4, .int .i64 a0_5], .int .i64 1048576] rfl (by (try simp only [List.map_toArray, List.map_cons, List.map_nil]); first | done | rfl | (simp only [List.length_drop, List.length_take]; rfl)) ?_; (with_reducible refine (laws_szClient.calls k a0_0 a0_1 _ _ l0_2 _ _ l0_3 a0_4 a0_5 1048576 t1236 _ ?side1 ?side2 ?side3 ?side4 A2.out).mono ?_); (case side1 => repeat (first | exact (Kd.C_below HR0_2.out HB.out) | (with_reducible refine Kd.C_alloc ?_ _) | (with_reducible refine Kd.C_drewN ?_ _) | (with_reducible refine Kd.C_drew ?_))); (case side2 => exact HC0_2.out); (case side3 => repeat (first | exact (Kd.C_below HR0_3.out HB.out) | (with_reducible refine Kd.C_alloc ?_ _) | (with_reducible refine Kd.C_drewN ?_ _) | (with_reducible refine Kd.C_drew ?_))); (case side4 => exact HC0_3.out); rintro e w17 ⟨rfl, hb⟩; refine ⟨_, rfl, ?_⟩; have n0_ := Aside0.mk (blk_below (g := gb1235) (o := .cells #[.int .i64 a0_0, .int .i64 a0_1, .slice A0_2 l0_2.length c0_2, .slice A0_3 l0_3.length c0_3, .int .i64 a0_4, .int .i64 a0_5] 85 (0, 0)) (by (with_reducible repeat (first | refine blk_drewN ?_ _ | refine blk_drew ?_ | refine blk_alloc ?_ _)); exact BK1235.out) hb); have n1_ := Aside0.mk (below_step (by repeat (first | (with_reducible first | exact HB.out | apply below_alloc | apply pw_below_drewN | apply below_drew1 | refine below_set ?_ GE1235.out) | exact HB.out)) hb); clear BK1235; clear HB; have BK1235 := n0_; have HB := n1_; clear n0_ n1_; (try clear hb); (try clear hb2); (try clear hk); (try clear hi); have hcz18_0 : w17.cell? ⟨gb1235, 0, none⟩ = some (.int .i64 a0_0) := (blk_cell BK1235.out 0).trans rfl; have hcz18_1 : w17.cell? ⟨gb1235, 1, none⟩ = some (.int .i64 a0_1) := (blk_cell BK1235.out 1).trans rfl; have hcz18_2 : w17.cell? ⟨gb1235, 2, none⟩ = some (.slice A0_2 l0_2.length c0_2) := (blk_cell BK1235.out 2).trans rfl; have hcz18_3 : w17.cell? ⟨gb1235, 3, none⟩ = some (.slice A0_3 l0_3.length c0_3) := (blk_cell BK1235.out 3).trans rfl; have hcz18_4 : w17.cell? ⟨gb1235, 4, none⟩ = some (.int .i64 a0_4) := (blk_cell BK1235.out 4).trans rfl; have hcz18_5 : w17.cell? ⟨gb1235, 5, none⟩ = some (.int .i64 a0_5) := (blk_cell BK1235.out 5).trans rfl; have hfz18_0 := blk_frozen BK1235.out 0; have hfz18_1 := blk_frozen BK1235.out 1; have hfz18_2 := blk_frozen BK1235.out 2; have hfz18_3 := blk_frozen BK1235.out 3; have hfz18_4 := blk_frozen BK1235.out 4; have hfz18_5 := blk_frozen BK1235.out 5) | ((with_reducible refine gate_callee (f := 64) rfl ?_); refine goesL_ (some 13) rfl rfl Tryd.func64 (by kernel_rfl) rfl #[.agg #[.int .i64 a0_0, .int .i64 a0_1, .slice A0_2 l0_2.length c0_2, .slice A0_3 l0_3.length c0_3, .int .i64 a0_4, .int .i64 a0_5]] rfl (by (try simp only [List.map_toArray, List.map_cons, List.map_nil]); first | done | rfl | (simp only [List.length_drop, List.length_take]; rfl)) ?_; (with_reducible refine (laws_toClient.calls k a0_0 a0_1 _ _ l0_2 _ _ l0_3 a0_4 a0_5 t1237 t1238 t1239 t1242 t1245 t1246 _ ?side1 ?side2 ?side3 ?side4 A7.out).mono ?_); (case side1 => repeat (first | exact (Kd.C_below HR0_2.out HB.out) | (with_reducible refine Kd.C_alloc ?_ _) | (with_reducible refine Kd.C_drewN ?_ _) | (with_reducible refine Kd.C_drew ?_))); (case side2 => exact HC0_2.out); (case side3 => repeat (first | exact (Kd.C_below HR0_3.out HB.out) | (with_reducible refine Kd.C_alloc ?_ _) | (with_reducible refine Kd.C_drewN ?_ _) | (with_reducible refine Kd.C_drew ?_))); (case side4 => exact HC0_3.out); rintro e w19 ⟨v1240, v1243, rfl, ho0, ho1, hb⟩; refine ⟨_, rfl, ?_⟩; have n0_ := Aside0.mk (Kd.R_lower ho0 (below_size (by repeat (first | (with_reducible first | exact HB.out | apply below_alloc | apply pw_below_drewN | apply below_drew1 | refine below_set ?_ GE1235.out) | exact HB.out)))); have n1_ := Aside0.mk (Kd.R_lower ho1 (below_size (by repeat (first | (with_reducible first | exact HB.out | apply below_alloc | apply pw_below_drewN | apply below_drew1 | refine below_set ?_ GE1235.out) | exact HB.out)))); have n2_ := Aside0.mk (blk_below (g := gb1235) (o := .cells #[.int .i64 a0_0, .int .i64 a0_1, .slice A0_2 l0_2.length c0_2, .slice A0_3 l0_3.length c0_3, .int .i64 a0_4, .int .i64 a0_5] 85 (0, 0)) (by (with_reducible repeat (first | refine blk_drewN ?_ _ | refine blk_drew ?_ | refine blk_alloc ?_ _)); exact BK1235.out) hb); have n3_ := Aside0.mk (below_step (by repeat (first | (with_reducible first | exact HB.out | apply below_alloc | apply pw_below_drewN | apply below_drew1 | refine below_set ?_ GE1235.out) | exact HB.out)) hb); clear BK1235; clear HB; have HO1241 := n0_; have HO1244 := n1_; have BK1235 := n2_; have HB := n3_; clear n0_ n1_ n2_ n3_; (try clear hb); (try clear hb2); (try clear hk); (try clear hi); (try clear ho0); (try clear ho1); obtain ⟨Ao20, co20, eo20⟩ := Kd.R_slice HO1241.out; subst eo20; obtain ⟨Ao21, co21, eo21⟩ := Kd.R_slice HO1244.out; subst eo21) | ((with_reducible refine gate_callee (f := 63) rfl ?_); refine goesL_ (some 14) rfl rfl Tryd.func63 (by kernel_rfl) rfl #[.agg #[.int .i64 t1237, .int .i64 t1238, .slice Ao20 t1239.length co20, .slice Ao21 t1242.length co21, .int .i64 t1245, .int .i64 t1246]] rfl (by (try simp only [List.map_toArray, List.map_cons, List.map_nil]); first | done | rfl | (simp only [List.length_drop, List.length_take]; rfl)) ?_; (with_reducible refine (spec_ClientOk.calls k t1237 t1238 _ _ t1239 _ _ t1242 t1245 t1246 t1247 _ ?side1 ?side2 ?side3 ?side4 A8.out).mono ?_); (case side1 => repeat (first | exact (Kd.R_reads' HO1241.out).2.2 | (with_reducible refine Kd.C_alloc ?_ _) | (with_reducible refine Kd.C_drewN ?_ _) | (with_reducible refine Kd.C_drew ?_))); (case side2 => exact (Kd.R_reads' HO1241.out).2.1); (case side3 => repeat (first | exact (Kd.R_reads' HO1244.out).2.2 | (with_reducible refine Kd.C_alloc ?_ _) | (with_reducible refine Kd.C_drewN ?_ _) | (with_reducible refine Kd.C_drew ?_))); (case side4 => exact (Kd.R_reads' HO1244.out).2.1); rintro e w22 ⟨rfl, hb⟩; refine ⟨_, rfl, ?_⟩; have n0_ := Aside0.mk (Kd.R_below (by (with_reducible repeat (first | apply Kd.R_alloc | apply Kd.R_drewN | apply Kd.R_drew)); exact HO1241.out) hb); have n1_ := Aside0.mk (Kd.R_below (by (with_reducible repeat (first | apply Kd.R_alloc | apply Kd.R_drewN | apply Kd.R_drew)); exact HO1244.out) hb); have n2_ := Aside0.mk (blk_below (g := gb1235) (o := .cells #[.int .i64 a0_0, .int .i64 a0_1, .slice A0_2 l0_2.length c0_2, .slice A0_3 l0_3.length c0_3, .int .i64 a0_4, .int .i64 a0_5] 85 (0, 0)) (by (with_reducible repeat (first | refine blk_drewN ?_ _ | refine blk_drew ?_ | refine blk_alloc ?_ _)); exact BK1235.out) hb); have n3_ := Aside0.mk (below_step (by repeat (first | (with_reducible first | exact HB.out | apply below_alloc | apply pw_below_drewN | apply below_drew1 | refine below_set ?_ GE1235.out) | exact HB.out)) hb); clear HO1241; clear HO1244; clear BK1235; clear HB; have HO1241 := n0_; have HO1244 := n1_; have BK1235 := n2_; have HB := n3_; clear n0_ n1_ n2_ n3_; (try clear hb); (try clear hb2); (try clear hk); (try clear hi); have hcz23_0 : w22.cell? ⟨gb1235, 0, none⟩ = some (.int .i64 a0_0) := (blk_cell BK1235.out 0).trans rfl; have hcz23_1 : w22.cell? ⟨gb1235, 1, none⟩ = some (.int .i64 a0_1) := (blk_cell BK1235.out 1).trans rfl; have hcz23_2 : w22.cell? ⟨gb1235, 2, none⟩ = some (.slice A0_2 l0_2.length c0_2) := (blk_cell BK1235.out 2).trans rfl; have hcz23_3 : w22.cell? ⟨gb1235, 3, none⟩ = some (.slice A0_3 l0_3.length c0_3) := (blk_cell BK1235.out 3).trans rfl; have hcz23_4 : w22.cell? ⟨gb1235, 4, none⟩ = some (.int .i64 a0_4) := (blk_cell BK1235.out 4).trans rfl; have hcz23_5 : w22.cell? ⟨gb1235, 5, none⟩ = some (.int .i64 a0_5) := (blk_cell BK1235.out 5).trans rfl; have hfz23_0 := blk_frozen BK1235.out 0; have hfz23_1 := blk_frozen BK1235.out 1; have hfz23_2 := blk_frozen BK1235.out 2; have hfz23_3 := blk_frozen BK1235.out 3; have hfz23_4 := blk_frozen BK1235.out 4; have hfz23_5 := blk_frozen BK1235.out 5) | ((with_reducible refine gate_callee (f := 64) rfl ?_); refine goesL_ (some 16) rfl rfl Tryd.func64 (by kernel_rfl) rfl #[.agg #[.int .i64 a0_0, .int .i64 a0_1, .slice A0_2 l0_2.length c0_2, .slice A0_3 l0_3.length c0_3, .int .i64 a0_4, .int .i64 a0_5]] rfl (by (try simp only [List.map_toArray, List.map_cons, List.map_nil]); first | done | rfl | (simp only [List.length_drop, List.length_take]; rfl)) ?_; (with_reducible refine (laws_toClient.calls k a0_0 a0_1 _ _ l0_2 _ _ l0_3 a0_4 a0_5 t1248 t1249 t1250 t1253 t1256 t1257 _ ?side1 ?side2 ?side3 ?side4 A9.out).mono ?_); (case side1 => repeat (first | exact (Kd.C_below HR0_2.out HB.out) | (with_reducible refine Kd.C_alloc ?_ _) | (with_reducible refine Kd.C_drewN ?_ _) | (with_reducible refine Kd.C_drew ?_))); (case side2 => exact HC0_2.out); (case side3 => repeat (first | exact (Kd.C_below HR0_3.out HB.out) | (with_reducible refine Kd.C_alloc ?_ _) | (with_reducible refine Kd.C_drewN ?_ _) | (with_reducible refine Kd.C_drew ?_))); (case side4 => exact HC0_3.out); rintro e w24 ⟨v1251, v1254, rfl, ho0, ho1, hb⟩; refine ⟨_, rfl, ?_⟩; have n0_ := Aside0.mk (Kd.R_elder' (by (with_reducible repeat (first | apply Kd.R_alloc | apply Kd.R_drewN | apply Kd.R_drew)); exact HO1241.out) (Kd.R_base ho0) hb); have n1_ := Aside0.mk (Kd.R_elder' (by (with_reducible repeat (first | apply Kd.R_alloc | apply Kd.R_drewN | apply Kd.R_drew)); exact HO1244.out) (Kd.R_base ho1) hb); have n2_ := Aside0.mk (Kd.R_lower (Kd.R_new' ho0 (Kd.R_lt (by (with_reducible repeat (first | apply Kd.R_alloc | apply Kd.R_drewN | apply Kd.R_drew)); exact HO1241.out))) (below_size (by repeat (first | (with_reducible first | exact HB.out | apply below_alloc | apply pw_below_drewN | apply below_drew1 | refine below_set ?_ GE1235.out) | exact HB.out)))); have n3_ := Aside0.mk (Kd.R_lower (Kd.R_new' ho1 (Kd.R_lt (by (with_reducible repeat (first | apply Kd.R_alloc | apply Kd.R_drewN | apply Kd.R_drew)); exact HO1244.out))) (below_size (by repeat (first | (with_reducible first | exact HB.out | apply below_alloc | apply pw_below_drewN | apply below_drew1 | refine below_set ?_ GE1235.out) | exact HB.out)))); have n4_ := Aside0.mk (blk_below (g := gb1235) (o := .cells #[.int .i64 a0_0, .int .i64 a0_1, .slice A0_2 l0_2.length c0_2, .slice A0_3 l0_3.length c0_3, .int .i64 a0_4, .int .i64 a0_5] 85 (0, 0)) (by (with_reducible repeat (first | refine blk_drewN ?_ _ | refine blk_drew ?_ | refine blk_alloc ?_ _)); exact BK1235.out) hb); have n5_ := Aside0.mk (below_step (by repeat (first | (with_reducible first | exact HB.out | apply below_alloc | apply pw_below_drewN | apply below_drew1 | refine below_set ?_ GE1235.out) | exact HB.out)) hb); clear HO1241; clear HO1244; clear BK1235; clear HB; have HO1241 := n0_; have HO1244 := n1_; have HO1252 := n2_; have HO1255 := n3_; have BK1235 := n4_; have HB := n5_; clear n0_ n1_ n2_ n3_ n4_ n5_; (try clear hb); (try clear hb2); (try clear hk); (try clear hi); (try clear ho0); (try clear ho1)) | ((with_reducible refine gate_dst (N := 5) rfl ?_); refine box_event ?hg (N := 5) ?hd (cs := #[.int .i64 0, .int .i64 0, .slice none 0 0, .slice none 0 0, .int .i64 0, .int .i64 0]) (t := 77) ?hr ?_; (case hd => rfl); (case hg => rfl); (case hr => first | (go_simp; done) | (go_simp; rfl)); intro gb1258 hg w25 hbox hb; have n0_ := Aside0.mk (Kd.R_below (by (with_reducible repeat (first | apply Kd.R_alloc | apply Kd.R_drewN | apply Kd.R_drew)); exact HO1241.out) hb); have n1_ := Aside0.mk (Kd.R_below (by (with_reducible repeat (first | apply Kd.R_alloc | apply Kd.R_drewN | apply Kd.R_drew)); exact HO1244.out) hb); have n2_ := Aside0.mk (Kd.R_below (by (with_reducible repeat (first | apply Kd.R_alloc | apply Kd.R_drewN | apply Kd.R_drew)); exact HO1252.out) hb); have n3_ := Aside0.mk (Kd.R_below (by (with_reducible repeat (first | apply Kd.R_alloc | apply Kd.R_drewN | apply Kd.R_drew)); exact HO1255.out) hb); have n4_ := Aside0.mk (blk_below (g := gb1235) (o := .cells #[.int .i64 a0_0, .int .i64 a0_1, .slice A0_2 l0_2.length c0_2, .slice A0_3 l0_3.length c0_3, .int .i64 a0_4, .int .i64 a0_5] 85 (0, 0)) (by (with_reducible repeat (first | refine blk_drewN ?_ _ | refine blk_drew ?_ | refine blk_alloc ?_ _)); exact BK1235.out) hb); have n5_ := Aside0.mk (below_step (by repeat (first | (with_reducible first | exact HB.out | apply below_alloc | apply pw_below_drewN | apply below_drew1 | refine below_set ?_ GE1235.out) | exact HB.out)) hb); have n6_ := Aside0.mk (hbox); have n7_ := Aside0.mk ((by rw [hg]; exact (below_size (by repeat (first | (with_reducible first | exact HB.out | apply below_alloc | apply pw_below_drewN | apply below_drew1 | refine below_set ?_ GE1235.out) | exact HB.out))) : w.heap.size ≤ gb1258)); have n8_ := Aside0.mk ((by rw [hg]; exact (below_size (by repeat (first | (with_reducible first | exact HB.out | apply below_alloc | apply pw_below_drewN | apply below_drew1 | refine below_set ?_ GE1235.out) | exact HB.out))) : w.heap.size ≤ gb1258)); have n9_ := Aside0.mk ((by rw [hg]; exact Nat.ne_of_lt (blk_lt (g := gb1235) (o := .cells #[.int .i64 a0_0, .int .i64 a0_1, .slice A0_2 l0_2.length c0_2, .slice A0_3 l0_3.length c0_3, .int .i64 a0_4, .int .i64 a0_5] 85 (0, 0)) (by (with_reducible repeat (first | refine blk_drewN ?_ _ | refine blk_drew ?_ | refine blk_alloc ?_ _)); exact BK1235.out)) : gb1235 ≠ gb1258)); have n10_ := Aside0.mk ((by rw [hg]; exact Nat.ne_of_gt (blk_lt (g := gb1235) (o := .cells #[.int .i64 a0_0, .int .i64 a0_1, .slice A0_2 l0_2.length c0_2, .slice A0_3 l0_3.length c0_3, .int .i64 a0_4, .int .i64 a0_5] 85 (0, 0)) (by (with_reducible repeat (first | refine blk_drewN ?_ _ | refine blk_drew ?_ | refine blk_alloc ?_ _)); exact BK1235.out)) : gb1258 ≠ gb1235)); clear HO1241; clear HO1244; clear HO1252; clear HO1255; clear BK1235; clear HB; have HO1241 := n0_; have HO1244 := n1_; have HO1252 := n2_; have HO1255 := n3_; have BK1235 := n4_; have HB := n5_; have BK1258 := n6_; have GW1258 := n7_; have GE1258 := n8_; have NB1235_1258 := n9_; have NB1258_1235 := n10_; clear n0_ n1_ n2_ n3_ n4_ n5_ n6_ n7_ n8_ n9_ n10_; clear hb hbox hg; have hnb26 := NB1258_1235.out; have hnc26 := NB1235_1258.out; have hcz27_0 : w25.cell? ⟨gb1258, 0, none⟩ = some (.int .i64 0) := (blk_cell BK1258.out 0).trans rfl; have hcz27_1 : w25.cell? ⟨gb1258, 1, none⟩ = some (.int .i64 0) := (blk_cell BK1258.out 1).trans rfl; have hcz27_2 : w25.cell? ⟨gb1258, 2, none⟩ = some (.slice none 0 0) := (blk_cell BK1258.out 2).trans rfl; have hcz27_3 : w25.cell? ⟨gb1258, 3, none⟩ = some (.slice none 0 0) := (blk_cell BK1258.out 3).trans rfl; have hcz27_4 : w25.cell? ⟨gb1258, 4, none⟩ = some (.int .i64 0) := (blk_cell BK1258.out 4).trans rfl; have hcz27_5 : w25.cell? ⟨gb1258, 5, none⟩ = some (.int .i64 0) := (blk_cell BK1258.out 5).trans rfl; have hfz27_0 := blk_frozen BK1258.out 0; have hfz27_1 := blk_frozen BK1258.out 1; have hfz27_2 := blk_frozen BK1258.out 2; have hfz27_3 := blk_frozen BK1258.out 3; have hfz27_4 := blk_frozen BK1258.out 4; have hfz27_5 := blk_frozen BK1258.out 5; obtain ⟨Ao28, co28, eo28⟩ := Kd.R_slice HO1252.out; subst eo28; obtain ⟨Ao29, co29, eo29⟩ := Kd.R_slice HO1255.out; subst eo29) | ((with_reducible refine gate_callee (f := 60) rfl ?_); refine goesL_ (some 18) rfl rfl Tryd.func60 (by kernel_rfl) rfl #[.agg #[.int .i64 t1248, .int .i64 t1249, .slice Ao28 t1250.length co28, .slice Ao29 t1253.length co29, .int .i64 t1256, .int .i64 t1257]] rfl (by (try simp only [List.map_toArray, List.map_cons, List.map_nil]); first | done | rfl | (simp only [List.length_drop, List.length_take]; rfl)) ?_; (with_reducible refine (impl_ClientOk.calls k t1248 t1249 _ _ t1250 _ _ t1253 t1256 t1257 t1259 _ ?side1 ?side2 ?side3 ?side4 A10.out ?side5).mono ?_); (case side1 => refine (Kd.R_reads' (e := 69) (base := w.heap.size) (ok := fun k_ => (True ∧ some k_ ≠ (.slice Ao20 t1239.length co20 : Value).ownBlock)) (n := t1250.length) (c := co28) ?_).2.2; exact (by (with_reducible repeat (first | apply Kd.R_alloc | apply Kd.R_drewN | apply Kd.R_drew)); exact (Kd.R_mono (Kd.R_far (p := ⟨gb1258, 5, none⟩) (Kd.R_far (p := ⟨gb1258, 4, none⟩) (Kd.R_far (p := ⟨gb1258, 3, none⟩) (Kd.R_far (p := ⟨gb1258, 2, none⟩) (Kd.R_far (p := ⟨gb1258, 1, none⟩) (Kd.R_far (p := ⟨gb1258, 0, none⟩) (Kd.R_types HO1252.out BK1258.out (by decide)) (fun _ hk => hk.2) (.int .i64 t1248)) (fun _ hk => hk.2) (.int .i64 t1249)) (fun _ hk => hk.2) (.slice Ao28 t1250.length co28)) (fun _ hk => hk.2) (.slice Ao29 t1253.length co29)) (fun _ hk => hk.2) (.int .i64 t1256)) (fun _ hk => hk.2) (.int .i64 t1257)) (fun _ h_ => h_.1)))); (case side2 => exact (Kd.R_reads' HO1252.out).2.1); (case side3 => refine (Kd.R_reads' (e := 44) (base := w.heap.size) (ok := fun k_ => (True ∧ some k_ ≠ (.slice Ao21 t1242.length co21 : Value).ownBlock)) (n := t1253.length) (c := co29) ?_).2.2; exact (by (with_reducible repeat (first | apply Kd.R_alloc | apply Kd.R_drewN | apply Kd.R_drew)); exact (Kd.R_mono (Kd.R_far (p := ⟨gb1258, 5, none⟩) (Kd.R_far (p := ⟨gb1258, 4, none⟩) (Kd.R_far (p := ⟨gb1258, 3, none⟩) (Kd.R_far (p := ⟨gb1258, 2, none⟩) (Kd.R_far (p := ⟨gb1258, 1, none⟩) (Kd.R_far (p := ⟨gb1258, 0, none⟩) (Kd.R_types HO1255.out BK1258.out (by decide)) (fun _ hk => hk.2) (.int .i64 t1248)) (fun _ hk => hk.2) (.int .i64 t1249)) (fun _ hk => hk.2) (.slice Ao28 t1250.length co28)) (fun _ hk => hk.2) (.slice Ao29 t1253.length co29)) (fun _ hk => hk.2) (.int .i64 t1256)) (fun _ hk => hk.2) (.int .i64 t1257)) (fun _ h_ => h_.1)))); (case side4 => exact (Kd.R_reads' HO1255.out).2.1); (case side5 => exact Glob.below HG.out (by repeat (first | (with_reducible first | exact HB.out | apply below_alloc | apply pw_below_drewN | apply below_drew1 | refine below_set ?_ GE1235.out | refine below_set ?_ GE1258.out) | exact HB.out))); rintro e w30 ⟨rfl, hb⟩; refine ⟨_, rfl, ?_⟩; have n0_ := Aside0.mk (Kd.R_below (by (with_reducible repeat (first | apply Kd.R_alloc | apply Kd.R_drewN | apply Kd.R_drew)); exact (Kd.R_mono (Kd.R_far (p := ⟨gb1258, 5, none⟩) (Kd.R_far (p := ⟨gb1258, 4, none⟩) (Kd.R_far (p := ⟨gb1258, 3, none⟩) (Kd.R_far (p := ⟨gb1258, 2, none⟩) (Kd.R_far (p := ⟨gb1258, 1, none⟩) (Kd.R_far (p := ⟨gb1258, 0, none⟩) (Kd.R_types HO1241.out BK1258.out (by decide)) (fun _ hk => hk.2) (.int .i64 t1248)) (fun _ hk => hk.2) (.int .i64 t1249)) (fun _ hk => hk.2) (.slice Ao28 t1250.length co28)) (fun _ hk => hk.2) (.slice Ao29 t1253.length co29)) (fun _ hk => hk.2) (.int .i64 t1256)) (fun _ hk => hk.2) (.int .i64 t1257)) (fun _ h_ => h_.1))) hb); have n1_ := Aside0.mk (Kd.R_below (by (with_reducible repeat (first | apply Kd.R_alloc | apply Kd.R_drewN | apply Kd.R_drew)); exact (Kd.R_mono (Kd.R_far (p := ⟨gb1258, 5, none⟩) (Kd.R_far (p := ⟨gb1258, 4, none⟩) (Kd.R_far (p := ⟨gb1258, 3, none⟩) (Kd.R_far (p := ⟨gb1258, 2, none⟩) (Kd.R_far (p := ⟨gb1258, 1, none⟩) (Kd.R_far (p := ⟨gb1258, 0, none⟩) (Kd.R_types HO1244.out BK1258.out (by decide)) (fun _ hk => hk.2) (.int .i64 t1248)) (fun _ hk => hk.2) (.int .i64 t1249)) (fun _ hk => hk.2) (.slice Ao28 t1250.length co28)) (fun _ hk => hk.2) (.slice Ao29 t1253.length co29)) (fun _ hk => hk.2) (.int .i64 t1256)) (fun _ hk => hk.2) (.int .i64 t1257)) (fun _ h_ => h_.1))) hb); have n2_ := Aside0.mk (Kd.R_below (by (with_reducible repeat (first | apply Kd.R_alloc | apply Kd.R_drewN | apply Kd.R_drew)); exact (Kd.R_mono (Kd.R_far (p := ⟨gb1258, 5, none⟩) (Kd.R_far (p := ⟨gb1258, 4, none⟩) (Kd.R_far (p := ⟨gb1258, 3, none⟩) (Kd.R_far (p := ⟨gb1258, 2, none⟩) (Kd.R_far (p := ⟨gb1258, 1, none⟩) (Kd.R_far (p := ⟨gb1258, 0, none⟩) (Kd.R_types HO1252.out BK1258.out (by decide)) (fun _ hk => hk.2) (.int .i64 t1248)) (fun _ hk => hk.2) (.int .i64 t1249)) (fun _ hk => hk.2) (.slice Ao28 t1250.length co28)) (fun _ hk => hk.2) (.slice Ao29 t1253.length co29)) (fun _ hk => hk.2) (.int .i64 t1256)) (fun _ hk => hk.2) (.int .i64 t1257)) (fun _ h_ => h_.1))) hb); have n3_ := Aside0.mk (Kd.R_below (by (with_reducible repeat (first | apply Kd.R_alloc | apply Kd.R_drewN | apply Kd.R_drew)); exact (Kd.R_mono (Kd.R_far (p := ⟨gb1258, 5, none⟩) (Kd.R_far (p := ⟨gb1258, 4, none⟩) (Kd.R_far (p := ⟨gb1258, 3, none⟩) (Kd.R_far (p := ⟨gb1258, 2, none⟩) (Kd.R_far (p := ⟨gb1258, 1, none⟩) (Kd.R_far (p := ⟨gb1258, 0, none⟩) (Kd.R_types HO1255.out BK1258.out (by decide)) (fun _ hk => hk.2) (.int .i64 t1248)) (fun _ hk => hk.2) (.int .i64 t1249)) (fun _ hk => hk.2) (.slice Ao28 t1250.length co28)) (fun _ hk => hk.2) (.slice Ao29 t1253.length co29)) (fun _ hk => hk.2) (.int .i64 t1256)) (fun _ hk => hk.2) (.int .i64 t1257)) (fun _ h_ => h_.1))) hb); have n4_ := Aside0.mk (blk_below (g := gb1235) (o := .cells #[.int .i64 a0_0, .int .i64 a0_1, .slice A0_2 l0_2.length c0_2, .slice A0_3 l0_3.length c0_3, .int .i64 a0_4, .int .i64 a0_5] 85 (0, 0)) (by (with_reducible repeat (first | refine blk_drewN ?_ _ | refine blk_drew ?_ | refine blk_alloc ?_ _)); refine blk_far ?_ NB1235_1258.out _; (with_reducible repeat (first | refine blk_drewN ?_ _ | refine blk_drew ?_ | refine blk_alloc ?_ _)); refine blk_far ?_ NB1235_1258.out _; (with_reducible repeat (first | refine blk_drewN ?_ _ | refine blk_drew ?_ | refine blk_alloc ?_ _)); refine blk_far ?_ NB1235_1258.out _; (with_reducible repeat (first | refine blk_drewN ?_ _ | refine blk_drew ?_ | refine blk_alloc ?_ _)); refine blk_far ?_ NB1235_1258.out _; (with_reducible repeat (first | refine blk_drewN ?_ _ | refine blk_drew ?_ | refine blk_alloc ?_ _)); refine blk_far ?_ NB1235_1258.out _; (with_reducible repeat (first | refine blk_drewN ?_ _ | refine blk_drew ?_ | refine blk_alloc ?_ _)); refine blk_far ?_ NB1235_1258.out _; (with_reducible repeat (first | refine blk_drewN ?_ _ | refine blk_drew ?_ | refine blk_alloc ?_ _)); exact BK1235.out) hb); have n5_ := Aside0.mk (blk_below (g := gb1258) (o := .cells #[.int .i64 t1248, .int .i64 t1249, .slice Ao28 t1250.length co28, .slice Ao29 t1253.length co29, .int .i64 t1256, .int .i64 t1257] 77 (0, 0)) (by (with_reducible repeat (first | refine blk_drewN ?_ _ | refine blk_drew ?_ | refine blk_alloc ?_ _)); refine blk_put (cs := #[.int .i64 t1248, .int .i64 t1249, .slice Ao28 t1250.length co28, .slice Ao29 t1253.length co29, .int .i64 t1256, .int .i64 0]) ?_ 5 _ rfl; (with_reducible repeat (first | refine blk_drewN ?_ _ | refine blk_drew ?_ | refine blk_alloc ?_ _)); refine blk_put (cs := #[.int .i64 t1248, .int .i64 t1249, .slice Ao28 t1250.length co28, .slice Ao29 t1253.length co29, .int .i64 0, .int .i64 0]) ?_ 4 _ rfl; (with_reducible repeat (first | refine blk_drewN ?_ _ | refine blk_drew ?_ | refine blk_alloc ?_ _)); refine blk_put (cs := #[.int .i64 t1248, .int .i64 t1249, .slice Ao28 t1250.length co28, .slice none 0 0, .int .i64 0, .int .i64 0]) ?_ 3 _ rfl; (with_reducible repeat (first | refine blk_drewN ?_ _ | refine blk_drew ?_ | refine blk_alloc ?_ _)); refine blk_put (cs := #[.int .i64 t1248, .int .i64 t1249, .slice none 0 0, .slice none 0 0, .int .i64 0, .int .i64 0]) ?_ 2 _ rfl; (with_reducible repeat (first | refine blk_drewN ?_ _ | refine blk_drew ?_ | refine blk_alloc ?_ _)); refine blk_put (cs := #[.int .i64 t1248, .int .i64 0, .slice none 0 0, .slice none 0 0, .int .i64 0, .int .i64 0]) ?_ 1 _ rfl; (with_reducible repeat (first | refine blk_drewN ?_ _ | refine blk_drew ?_ | refine blk_alloc ?_ _)); refine blk_put (cs := #[.int .i64 0, .int .i64 0, .slice none 0 0, .slice none 0 0, .int .i64 0, .int .i64 0]) ?_ 0 _ rfl; (with_reducible repeat (first | refine blk_drewN ?_ _ | refine blk_drew ?_ | refine blk_alloc ?_ _)); exact BK1258.out) hb); have n6_ := Aside0.mk (below_step (by repeat (first | (with_reducible first | exact HB.out | apply below_alloc | apply pw_below_drewN | apply below_drew1 | refine below_set ?_ GE1235.out | refine below_set ?_ GE1258.out) | exact HB.out)) hb); clear HO1241; clear HO1244; clear HO1252; clear HO1255; clear BK1235; clear BK1258; clear HB; have HO1241 := n0_; have HO1244 := n1_; have HO1252 := n2_; have HO1255 := n3_; have BK1235 := n4_; have BK1258 := n5_; have HB := n6_; clear n0_ n1_ n2_ n3_ n4_ n5_ n6_; (try clear hb); (try clear hb2); (try clear hk); (try clear hi)))
    have n0_ := Aside0.mk (Kd.R_drew HO1241.out)
    have n1_ := Aside0.mk (Kd.R_drew HO1244.out)
    have n2_ := Aside0.mk (Kd.R_drew HO1252.out)
    have n3_ := Aside0.mk (Kd.R_drew HO1255.out)
    have n4_ := Aside0.mk (blk_drew BK1235.out)
    have n5_ := Aside0.mk (blk_drew BK1258.out)
    have n6_ := Aside0.mk (below_drew1 HB.out)
    clear HO1241
    clear HO1244
    clear HO1252
    clear HO1255
    clear BK1235
    clear BK1258
    clear HB
    have HO1241 := n0_
    have HO1244 := n1_
    have HO1252 := n2_
    have HO1255 := n3_
    have BK1235 := n4_
    have BK1258 := n5_
    have HB := n6_
    clear n0_ n1_ n2_ n3_ n4_ n5_ n6_
    refine start_ (n := 5) (S := fun w' => w'.cell? ⟨gb1258, 0, none⟩ = some (.int .i64 t1248) ∧ w'.cell? ⟨gb1258, 1, none⟩ = some (.int .i64 t1249) ∧ w'.cell? ⟨gb1258, 2, none⟩ = some (.slice Ao28 t1250.length co28) ∧ w'.cell? ⟨gb1258, 3, none⟩ = some (.slice Ao29 t1253.length co29) ∧ w'.cell? ⟨gb1258, 4, none⟩ = some (.int .i64 t1256) ∧ w'.cell? ⟨gb1258, 5, none⟩ = some (.int .i64 t1257) ∧ w'.cell? ⟨gb1235, 0, none⟩ = some (.int .i64 a0_0) ∧ w'.cell? ⟨gb1235, 1, none⟩ = some (.int .i64 a0_1) ∧ w'.cell? ⟨gb1235, 2, none⟩ = some (.slice A0_2 l0_2.length c0_2) ∧ w'.cell? ⟨gb1235, 3, none⟩ = some (.slice A0_3 l0_3.length c0_3) ∧ w'.cell? ⟨gb1235, 4, none⟩ = some (.int .i64 a0_4) ∧ w'.cell? ⟨gb1235, 5, none⟩ = some (.int .i64 a0_5)) (ds := []) #[false, false, false, false, false] (by kernel_rfl) rfl rfl ⟨(blk_cell BK1258.out 0).trans rfl, (blk_cell BK1258.out 1).trans rfl, (blk_cell BK1258.out 2).trans rfl, (blk_cell BK1258.out 3).trans rfl, (blk_cell BK1258.out 4).trans rfl, (blk_cell BK1258.out 5).trans rfl, (blk_cell BK1235.out 0).trans rfl, (blk_cell BK1235.out 1).trans rfl, (blk_cell BK1235.out 2).trans rfl, (blk_cell BK1235.out 3).trans rfl, (blk_cell BK1235.out 4).trans rfl, (blk_cell BK1235.out 5).trans rfl⟩ (fun hHeld => ?_)
    generalize w30.drew = w31 at HO1241 HO1244 HO1252 HO1255 BK1235 BK1258 HB hHeld ⊢
    refine take_ (i := 0) (N := some 22) (v := ?_) (a' := ?_) #[true, false, false, false, false] rfl rfl (by kernel_rfl) (fun _ _ _ h => h) (Or.inl ⟨by rfl, ?_⟩) hHeld ?_ ?_
    rotate_left
    ·rintro w' ⟨s0, s1, s2, s3, s4, s5, s6, s7, s8, s9, s10, s11⟩
     go_simp
     with_reducible rfl
    rotate_left
    ·simp only [Act.put, List.setIfInBounds_toArray, List.set_cons_zero, List.set_cons_succ, i64_w, i32_w]
     rfl
    refine take_ (i := 1) (N := some 23) (v := ?_) (a' := ?_) #[true, true, false, false, false] rfl rfl (by kernel_rfl) (fun _ _ _ h => h) (Or.inl ⟨by rfl, ?_⟩) hHeld ?_ ?_
    rotate_left
    ·rintro w' ⟨s0, s1, s2, s3, s4, s5, s6, s7, s8, s9, s10, s11⟩
     go_simp
     with_reducible rfl
    rotate_left
    ·simp only [Act.put, List.setIfInBounds_toArray, List.set_cons_zero, List.set_cons_succ, i64_w, i32_w]
     rfl
    refine one_ (i := 2) (N := some 24) #[true, true, true, false, false] rfl rfl (by kernel_rfl) (by decide) (fun K hK => ?_)
    refine goes_ Tryd.func64 (by kernel_rfl) rfl #[.agg #[.int .i64 a0_0, .int .i64 a0_1, .slice A0_2 l0_2.length c0_2, .slice A0_3 l0_3.length c0_3, .int .i64 a0_4, .int .i64 a0_5]] (by rfl) rfl rfl (by (try simp only [List.map_toArray, List.map_cons, List.map_nil]); first | done | rfl | (simp only [List.length_drop, List.length_take]; rfl)) ?_
    with_reducible refine (laws_toClient.calls k a0_0 a0_1 _ _ l0_2 _ _ l0_3 a0_4 a0_5 t1260 t1261 t1262 t1265 t1268 t1269 _ ?side1 ?side2 ?side3 ?side4 A12.out).mono ?_
    (case side1 => repeat (first | exact (Kd.C_below HR0_2.out HB.out) | (with_reducible refine Kd.C_alloc ?_ _) | (with_reducible refine Kd.C_drewN ?_ _) | (with_reducible refine Kd.C_drew ?_)))
    (case side2 => exact HC0_2.out)
    (case side3 => repeat (first | exact (Kd.C_below HR0_3.out HB.out) | (with_reducible refine Kd.C_alloc ?_ _) | (with_reducible refine Kd.C_drewN ?_ _) | (with_reducible refine Kd.C_drew ?_)))
    (case side4 => exact HC0_3.out)
    rintro e w32 ⟨v1263, v1266, rfl, ho0, ho1, hb⟩
    refine ⟨_, rfl, ?_⟩
    have n0_ := Aside0.mk (Kd.R_elder' (by (with_reducible repeat (first | apply Kd.R_alloc | apply Kd.R_drewN | apply Kd.R_drew)); exact HO1241.out) (Kd.R_base ho0) hb)
    have n1_ := Aside0.mk (Kd.R_elder' (by (with_reducible repeat (first | apply Kd.R_alloc | apply Kd.R_drewN | apply Kd.R_drew)); exact HO1244.out) (Kd.R_base ho1) hb)
    have n2_ := Aside0.mk (Kd.R_elder' (by (with_reducible repeat (first | apply Kd.R_alloc | apply Kd.R_drewN | apply Kd.R_drew)); exact HO1252.out) (Kd.R_base ho0) hb)
    have n3_ := Aside0.mk (Kd.R_elder' (by (with_reducible repeat (first | apply Kd.R_alloc | apply Kd.R_drewN | apply Kd.R_drew)); exact HO1255.out) (Kd.R_base ho1) hb)
    have n4_ := Aside0.mk (Kd.R_lower (Kd.R_new' (Kd.R_new' ho0 (Kd.R_lt (by (with_reducible repeat (first | apply Kd.R_alloc | apply Kd.R_drewN | apply Kd.R_drew)); exact HO1241.out))) (Kd.R_lt (by (with_reducible repeat (first | apply Kd.R_alloc | apply Kd.R_drewN | apply Kd.R_drew)); exact HO1252.out))) (below_size (by repeat (first | (with_reducible first | exact HB.out | apply below_alloc | apply pw_below_drewN | apply below_drew1 | refine below_set ?_ GE1235.out | refine below_set ?_ GE1258.out) | exact HB.out))))
    have n5_ := Aside0.mk (Kd.R_lower (Kd.R_new' (Kd.R_new' ho1 (Kd.R_lt (by (with_reducible repeat (first | apply Kd.R_alloc | apply Kd.R_drewN | apply Kd.R_drew)); exact HO1244.out))) (Kd.R_lt (by (with_reducible repeat (first | apply Kd.R_alloc | apply Kd.R_drewN | apply Kd.R_drew)); exact HO1255.out))) (below_size (by repeat (first | (with_reducible first | exact HB.out | apply below_alloc | apply pw_below_drewN | apply below_drew1 | refine below_set ?_ GE1235.out | refine below_set ?_ GE1258.out) | exact HB.out))))
    have n6_ := Aside0.mk (blk_below (g := gb1235) (o := .cells #[.int .i64 a0_0, .int .i64 a0_1, .slice A0_2 l0_2.length c0_2, .slice A0_3 l0_3.length c0_3, .int .i64 a0_4, .int .i64 a0_5] 85 (0, 0)) (by (with_reducible repeat (first | refine blk_drewN ?_ _ | refine blk_drew ?_ | refine blk_alloc ?_ _)); exact BK1235.out) hb)
    have n7_ := Aside0.mk (blk_below (g := gb1258) (o := .cells #[.int .i64 t1248, .int .i64 t1249, .slice Ao28 t1250.length co28, .slice Ao29 t1253.length co29, .int .i64 t1256, .int .i64 t1257] 77 (0, 0)) (by (with_reducible repeat (first | refine blk_drewN ?_ _ | refine blk_drew ?_ | refine blk_alloc ?_ _)); exact BK1258.out) hb)
    have n8_ := Aside0.mk (below_step (by repeat (first | (with_reducible first | exact HB.out | apply below_alloc | apply pw_below_drewN | apply below_drew1 | refine below_set ?_ GE1235.out | refine below_set ?_ GE1258.out) | exact HB.out)) hb)
    clear HO1241
    clear HO1244
    clear HO1252
    clear HO1255
    clear BK1235
    clear BK1258
    clear HB
    have HO1241 := n0_
    have HO1244 := n1_
    have HO1252 := n2_
    have HO1255 := n3_
    have HO1264 := n4_
    have HO1267 := n5_
    have BK1235 := n6_
    have BK1258 := n7_
    have HB := n8_
    clear n0_ n1_ n2_ n3_ n4_ n5_ n6_ n7_ n8_
    (try clear hb)
    (try clear hb2)
    (try clear hk)
    (try clear hi)
    (try clear ho0)
    (try clear ho1)
    obtain ⟨Ao33, co33, eo33⟩ := Kd.R_slice HO1264.out
    (first | subst eo33 | (injection eo33 with f1_ f2_ f3_; have f4_ := f1_.symm; have f5_ := f3_.symm; clear f1_ f2_ f3_; subst f4_; subst f5_))
    obtain ⟨Ao34, co34, eo34⟩ := Kd.R_slice HO1267.out
    (first | subst eo34 | (injection eo34 with f1_ f2_ f3_; have f4_ := f1_.symm; have f5_ := f3_.symm; clear f1_ f2_ f3_; subst f4_; subst f5_))
    refine hK.out _ _ ⟨(blk_cell BK1258.out 0).trans rfl, (blk_cell BK1258.out 1).trans rfl, (blk_cell BK1258.out 2).trans rfl, (blk_cell BK1258.out 3).trans rfl, (blk_cell BK1258.out 4).trans rfl, (blk_cell BK1258.out 5).trans rfl, (blk_cell BK1235.out 0).trans rfl, (blk_cell BK1235.out 1).trans rfl, (blk_cell BK1235.out 2).trans rfl, (blk_cell BK1235.out 3).trans rfl, (blk_cell BK1235.out 4).trans rfl, (blk_cell BK1235.out 5).trans rfl⟩ (fun hHeld => ?_)
    clear hK K
    refine norm_ (a' := ?_) ?_ ?_
    rotate_left
    ·show Act.put _ (some 24) _ = _
     simp only [Act.put, List.setIfInBounds_toArray, List.set_cons_zero, List.set_cons_succ, i64_w, i32_w]
     rfl
    refine one_ (i := 3) (N := some 25) #[true, true, true, true, false] rfl rfl (by kernel_rfl) (by decide) (fun K hK => ?_)
    refine goes_ Tryd.func65 (by kernel_rfl) rfl #[.agg #[.int .i64 t1248, .int .i64 t1249, .slice Ao28 t1250.length co28, .slice Ao29 t1253.length co29, .int .i64 t1256, .int .i64 t1257], .agg #[.int .i64 t1260, .int .i64 t1261, .slice Ao33 t1262.length co33, .slice Ao34 t1265.length co34, .int .i64 t1268, .int .i64 t1269]] (by rfl) rfl rfl (by (try simp only [List.map_toArray, List.map_cons, List.map_nil]); first | done | rfl | (simp only [List.length_drop, List.length_take]; rfl)) ?_
    with_reducible refine (laws_eqClient.calls k t1248 t1249 _ _ t1250 _ _ t1253 t1256 t1257 t1260 t1261 _ _ t1262 _ _ t1265 t1268 t1269 true _ ?side1 ?side2 ?side3 ?side4 ?side5 ?side6 ?side7 ?side8 A13.out).mono ?_
    (case side1 => repeat (first | exact (Kd.R_reads' HO1252.out).2.2 | (with_reducible refine Kd.C_alloc ?_ _) | (with_reducible refine Kd.C_drewN ?_ _) | (with_reducible refine Kd.C_drew ?_)))
    (case side2 => exact (Kd.R_reads' HO1252.out).2.1)
    (case side3 => repeat (first | exact (Kd.R_reads' HO1255.out).2.2 | (with_reducible refine Kd.C_alloc ?_ _) | (with_reducible refine Kd.C_drewN ?_ _) | (with_reducible refine Kd.C_drew ?_)))
    (case side4 => exact (Kd.R_reads' HO1255.out).2.1)
    (case side5 => repeat (first | exact (Kd.R_reads' HO1264.out).2.2 | (with_reducible refine Kd.C_alloc ?_ _) | (with_reducible refine Kd.C_drewN ?_ _) | (with_reducible refine Kd.C_drew ?_)))
    (case side6 => exact (Kd.R_reads' HO1264.out).2.1)
    (case side7 => repeat (first | exact (Kd.R_reads' HO1267.out).2.2 | (with_reducible refine Kd.C_alloc ?_ _) | (with_reducible refine Kd.C_drewN ?_ _) | (with_reducible refine Kd.C_drew ?_)))
    (case side8 => exact (Kd.R_reads' HO1267.out).2.1)
    rintro e w35 ⟨rfl, hb⟩
    refine ⟨_, rfl, ?_⟩
    have n0_ := Aside0.mk (Kd.R_below (by (with_reducible repeat (first | apply Kd.R_alloc | apply Kd.R_drewN | apply Kd.R_drew)); exact HO1241.out) hb)
    have n1_ := Aside0.mk (Kd.R_below (by (with_reducible repeat (first | apply Kd.R_alloc | apply Kd.R_drewN | apply Kd.R_drew)); exact HO1244.out) hb)
    have n2_ := Aside0.mk (Kd.R_below (by (with_reducible repeat (first | apply Kd.R_alloc | apply Kd.R_drewN | apply Kd.R_drew)); exact HO1252.out) hb)
    have n3_ := Aside0.mk (Kd.R_below (by (with_reducible repeat (first | apply Kd.R_alloc | apply Kd.R_drewN | apply Kd.R_drew)); exact HO1255.out) hb)
    have n4_ := Aside0.mk (Kd.R_below (by (with_reducible repeat (first | apply Kd.R_alloc | apply Kd.R_drewN | apply Kd.R_drew)); exact HO1264.out) hb)
    have n5_ := Aside0.mk (Kd.R_below (by (with_reducible repeat (first | apply Kd.R_alloc | apply Kd.R_drewN | apply Kd.R_drew)); exact HO1267.out) hb)
    have n6_ := Aside0.mk (blk_below (g := gb1235) (o := .cells #[.int .i64 a0_0, .int .i64 a0_1, .slice A0_2 l0_2.length c0_2, .slice A0_3 l0_3.length c0_3, .int .i64 a0_4, .int .i64 a0_5] 85 (0, 0)) (by (with_reducible repeat (first | refine blk_drewN ?_ _ | refine blk_drew ?_ | refine blk_alloc ?_ _)); exact BK1235.out) hb)
    have n7_ := Aside0.mk (blk_below (g := gb1258) (o := .cells #[.int .i64 t1248, .int .i64 t1249, .slice Ao28 t1250.length co28, .slice Ao29 t1253.length co29, .int .i64 t1256, .int .i64 t1257] 77 (0, 0)) (by (with_reducible repeat (first | refine blk_drewN ?_ _ | refine blk_drew ?_ | refine blk_alloc ?_ _)); exact BK1258.out) hb)
    have n8_ := Aside0.mk (below_step (by repeat (first | (with_reducible first | exact HB.out | apply below_alloc | apply pw_below_drewN | apply below_drew1 | refine below_set ?_ GE1235.out | refine below_set ?_ GE1258.out) | exact HB.out)) hb)
    clear HO1241
    clear HO1244
    clear HO1252
    clear HO1255
    clear HO1264
    clear HO1267
    clear BK1235
    clear BK1258
    clear HB
    have HO1241 := n0_
    have HO1244 := n1_
    have HO1252 := n2_
    have HO1255 := n3_
    have HO1264 := n4_
    have HO1267 := n5_
    have BK1235 := n6_
    have BK1258 := n7_
    have HB := n8_
    clear n0_ n1_ n2_ n3_ n4_ n5_ n6_ n7_ n8_
    (try clear hb)
    (try clear hb2)
    (try clear hk)
    (try clear hi)
    refine hK.out _ _ ⟨(blk_cell BK1258.out 0).trans rfl, (blk_cell BK1258.out 1).trans rfl, (blk_cell BK1258.out 2).trans rfl, (blk_cell BK1258.out 3).trans rfl, (blk_cell BK1258.out 4).trans rfl, (blk_cell BK1258.out 5).trans rfl, (blk_cell BK1235.out 0).trans rfl, (blk_cell BK1235.out 1).trans rfl, (blk_cell BK1235.out 2).trans rfl, (blk_cell BK1235.out 3).trans rfl, (blk_cell BK1235.out 4).trans rfl, (blk_cell BK1235.out 5).trans rfl⟩ (fun hHeld => ?_)
    clear hK K
    refine norm_ (a' := ?_) ?_ ?_
    rotate_left
    ·show Act.put _ (some 25) _ = _
     simp only [Act.put, List.setIfInBounds_toArray, List.set_cons_zero, List.set_cons_succ, i64_w, i32_w]
     rfl
    refine pure_ (i := 4) (N := some 26) (v := ?_) (a' := ?_) #[true, true, true, true, true] rfl rfl (by kernel_rfl) (fun _ _ _ h => h) (Or.inl ⟨by rfl, ?_⟩) ?_ ?_
    rotate_left
    ·intro w'
     go_simp
     with_reducible rfl
    rotate_left
    ·simp only [Act.put, List.setIfInBounds_toArray, List.set_cons_zero, List.set_cons_succ, i64_w, i32_w]
     rfl
    refine done_ (by kernel_rfl) ?_
    try go_wp2
    go_ret
    exact ⟨by first | rfl | (simp [errW_none, errW_some] <;> rfl) | (simp [*, errW_none, errW_some] <;> rfl), by repeat (first | (with_reducible first | exact HB.out | apply below_alloc | apply pw_below_drewN | apply below_drew1 | refine below_set ?_ GE1235.out | refine below_set ?_ GE1258.out) | exact HB.out)⟩
   ·replace c14 := Bool.eq_false_iff.mpr c14
    subst c14
    have H1 : (none) = some r := by rw [if_neg (show ¬ (false = true) by decide)] at H; exact H
    clear H
    have H := H1
    clear H1
    exact absurd H (by simp)

end Go.Proofs.YtdpklbomhdpimaaDoor.P
namespace Go.Proofs.YtdpklbomhdpimaaDoor.PL
open Go.RowKit Go.Proofs.YtdpklbomhdpimaaDoor.P Go.Proofs.YtdpklbomhdpimaaDoorW.PrintWords Go.Proofs.YtdpklbomhdpimaaDoorW.PrintLast
def wfE (e : S44) : Prop := I64 e.f0 ∧ I64 e.f1 ∧ I64 e.f2.f0 ∧ I64 e.f2.f1 ∧ I64 e.f2.f2 ∧ I64 e.f2.f3 ∧ e.f2.f4.size ≤ 9223372036854775807
def entB (e : S44) : Bool :=
 decide (1 ≤ e.f0) && decide (e.f0 ≤ 3) && (decide (1 ≤ e.f1) && decide (e.f1 ≤ 40)) && opB e.f2.f0 e.f2.f1 e.f2.f2 e.f2.f3 e.f2.f4 && (decide (e.f2.f0 ≠ 1) || decide (ownI e.f2.f1 - 1 = e.f0))
theorem who_made (i : Int) (h : madeB i = true) : ownI i - 1 = wrap64 (Int.tdiv i 10) := by
 obtain ⟨h0, h1⟩ := made_small i h
 obtain ⟨n, rfl⟩ : ∃ n : Nat, i = n := ⟨i.toNat, by omega⟩
 rw [tdiv_wrap _ ⟨by omega, by omega⟩]
 exact small_who n (by omega) h
theorem ent_f (e : S44) (h : wfE e) : Ev (fun n => impl_EntryOk.f n e.f0 e.f1 e.f2.f0 e.f2.f1 e.f2.f2 e.f2.f3 e.f2.f4) (entB e) := by
 obtain ⟨h0, h1, h2, h3, h4, h5, h6⟩ := h
 unfold impl_EntryOk.f impl_whoOk.f entB
 by_cases a1 : e.f0 ≥ 1
 ·simp only [a1, if_true, Option.bind_some, ge_iff_le, decide_true, Bool.true_and]
  cases a2 : decide (e.f0 ≤ 3) with
  | false => simp only [Bool.false_eq_true, if_false, Bool.false_and]; exact evnow _
  | true =>
   simp only [if_true, Bool.true_and]
   by_cases a3 : e.f1 < 1
   ·have : decide (1 ≤ e.f1) = false := decide_eq_false (by omega)
    simp only [a3, if_true, this, Bool.false_and]; exact evnow _
   ·have e3 : decide (1 ≤ e.f1) = true := decide_eq_true (by omega)
    by_cases a4 : e.f1 > 40
    ·have : decide (e.f1 ≤ 40) = false := decide_eq_false (by omega)
     simp only [a3, if_false, a4, if_true, this, Bool.and_false, Bool.false_and]; exact evnow _
    ·have e4 : decide (e.f1 ≤ 40) = true := decide_eq_true (by omega)
     simp only [a3, if_false, a4, e3, e4, Bool.true_and]
     refine Ev.bind (opOk_f _ _ _ _ _ h6) ?_
     cases ho : opB e.f2.f0 e.f2.f1 e.f2.f2 e.f2.f3 e.f2.f4 with
     | false => simp only [Bool.false_eq_true, if_false, Bool.false_and]; exact evnow _
     | true =>
      simp only [if_true, Bool.true_and]
      have hm := opB_made _ _ _ _ _ ho
      unfold impl_RowWho.f
      have hn : ownI e.f2.f1 ≠ 0 := by
       intro hz
       unfold madeB at hm
       rw [hz] at hm
       simp at hm
      rw [if_neg hn]
      simp only [Option.bind_some]
      by_cases a5 : e.f2.f0 = 1
      ·simp only [a5, if_true, ne_eq, not_true, decide_false, Bool.false_or]
       have : (ownI e.f2.f1 - 1 == e.f0) = decide (ownI e.f2.f1 - 1 = e.f0) := by by_cases hq : ownI e.f2.f1 - 1 = e.f0 <;> simp [hq]
       rw [this]; exact evnow _
      ·simp only [a5, if_false, ne_eq, not_false_eq_true, decide_true, Bool.true_or]; exact evnow _
 ·have : decide (1 ≤ e.f0) = false := decide_eq_false (by omega)
  simp only [a1, if_false, Option.bind_some, Bool.false_eq_true, this, Bool.false_and]; exact evnow _
theorem sent_f (e : S44) (h : wfE e) : Ev (fun n => spec_EntryOk.f n e.f0 e.f1 e.f2.f0 e.f2.f1 e.f2.f2 e.f2.f3 e.f2.f4) (entB e) := by
 obtain ⟨h0, h1, h2, h3, h4, h5, h6⟩ := h
 unfold spec_EntryOk.f entB
 rw [in_f, in_f]
 simp only [Option.bind_some]
 cases (decide (1 ≤ e.f0) && decide (e.f0 ≤ 3)) with
 | false => simp only [Bool.false_eq_true, if_false, Bool.false_and]; exact evnow _
 | true =>
  cases (decide (1 ≤ e.f1) && decide (e.f1 ≤ 40)) with
  | false => simp only [Bool.false_eq_true, if_true, if_false, Bool.true_and, Bool.false_and]; exact evnow _
  | true =>
   simp only [if_true, Bool.true_and]
   refine Ev.bind (sop_f _ _ _ _ _ h3 h4 h5 h6) ?_
   cases ho : opB e.f2.f0 e.f2.f1 e.f2.f2 e.f2.f3 e.f2.f4 with
   | false => simp only [Bool.false_eq_true, if_false, Bool.false_and]; exact evnow _
   | true =>
    simp only [if_true, Bool.true_and]
    have hm := who_made _ (opB_made _ _ _ _ _ ho)
    by_cases a5 : e.f2.f0 = 1
    ·simp only [a5, if_true, ne_eq, not_true, decide_false, Bool.false_or]
     have : (wrap64 (Int.tdiv e.f2.f1 10) == e.f0) = decide (ownI e.f2.f1 - 1 = e.f0) := by rw [hm]; by_cases hq : wrap64 (Int.tdiv e.f2.f1 10) = e.f0 <;> simp [hq]
     rw [this]; exact evnow _
    ·simp only [a5, if_false, ne_eq, not_false_eq_true, decide_true, Bool.true_or]; exact evnow _
def wfL (l : List S44) : Prop := ∀ e ∈ l, wfE e
theorem rdE_get (l : List S44) (i : Nat) (h : i < l.length) : rd_T44 l i = l[i] := by
 unfold rd_T44
 rw [List.getD_eq_getElem?_getD, show ((i : Int)).toNat = i from rfl, List.getElem?_eq_getElem h]
 rfl
end Go.Proofs.YtdpklbomhdpimaaDoor.PL
namespace Go.Proofs.YtdpklbomhdpimaaDoor.P
open Go.RowKit Go.Shelf Go.Proofs.YtdpklbomhdpimaaDoorW.PrintWords Go.Proofs.YtdpklbomhdpimaaDoorW.PrintLast Go.Proofs.YtdpklbomhdpimaaDoorW.PrintMore Go.Proofs.YtdpklbomhdpimaaDoor.FP
attribute [local go_sem] Oper.semAt_some

def NList (A : Nat → Option Nat) (n0 : Nat) (W : World) : Option Addr → List Nat → Prop
 | p, [] => p = none
 | p, x :: rest => ∃ b q, A x = some b ∧ p = some ⟨b, 0, none⟩ ∧ b < n0 ∧ W.cell? ⟨b, 4, none⟩ = some (.pointer q) ∧ NList A n0 W q rest
theorem NList.below {A : Nat → Option Nat} {n0 : Nat} {V W : World} (h : Below n0 V W) : ∀ {p : Option Addr} {xs : List Nat}, NList A n0 V p xs → NList A n0 W p xs
 | _, [], hl => hl
 | _, _ :: _, ⟨b, q, h1, h2, h3, h4, h5⟩ => ⟨b, q, h1, h2, h3, (h.cell (p := ⟨b, 4, none⟩) h3).trans h4, NList.below h h5⟩
theorem NList.len {A : Nat → Option Nat} {n0 : Nat} {W : World} : ∀ {xs ys : List Nat} {p : Option Addr}, NList A n0 W p xs → NList A n0 W p ys → xs.length = ys.length
 | [], [], _, _, _ => rfl
 | [], _ :: _, _, h, ⟨b, q, _, h2, _⟩ => by rw [show _ = none from h] at h2; cases h2
 | _ :: _, [], _, ⟨b, q, _, h2, _⟩, h => by rw [show _ = none from h] at h2; cases h2
 | _ :: _, _ :: _, _, ⟨b, q, h1, h2, h3, h4, h5⟩, ⟨c, r, g1, g2, g3, g4, g5⟩ => by
  rw [h2] at g2
  obtain rfl : b = c := congrArg Addr.block (Option.some.inj g2)
  rw [h4] at g4
  obtain rfl : q = r := by injection g4 with e; injection e
  rw [List.length_cons, List.length_cons, NList.len h5 g5]
open Classical in
noncomputable def nleft (A : Nat → Option Nat) (n0 : Nat) (W : World) (v : Value) : Nat :=
 if h : ∃ r : Option Addr × List Nat, v = .pointer r.1 ∧ NList A n0 W r.1 r.2 then (Classical.choose h).2.length else 0
theorem nleft_eq {A : Nat → Option Nat} {n0 : Nat} {W : World} {q : Option Addr} {xs : List Nat} (h : NList A n0 W q xs) : nleft A n0 W (.pointer q) = xs.length := by
 have hex : ∃ r : Option Addr × List Nat, Value.pointer q = .pointer r.1 ∧ NList A n0 W r.1 r.2 := ⟨(q, xs), rfl, h⟩
 unfold nleft
 rw [dif_pos hex]
 obtain ⟨e, hl⟩ := Classical.choose_spec hex
 have e' : q = (Classical.choose hex).1 := by simpa using e
 rw [← e'] at hl
 exact NList.len hl h
theorem nlist_of {w : World} {n0 F : Nat} {A : Nat → Option Nat} {h : Nat → Nd} (m : Mem w n0 F A h) {up : Nat} : ∀ {G : Fo}, Rep h up G → (∀ x ∈ G.ids, A x ≠ none) → NList A w.heap.size w (pa (A G.hd)) G.tops
 | .nil, _, _ => by show pa (A 0) = none; rw [m.z]; rfl
 | .nd i t k n, ⟨h1, h2, h3, h4⟩, hA => by
  obtain ⟨b, hb⟩ := Option.ne_none_iff_exists'.1 (hA i (by simp [Fo.ids]))
  refine ⟨b, pa (A n.hd), hb, by show pa (A i) = _; rw [hb]; rfl, m.lt hb, ?_, nlist_of m h4 fun x hx => hA x (by simp [Fo.ids, hx])⟩
  rw [m.c4 hb, h2]
theorem kids_in (F : Fence) (n : Nat) (hf : F.fn 156) (hro : F.round = none) (p0 : Option Addr) (w : World) :
  CallsIn F n Tryd.prog 156 #[.pointer p0] w fun e w' => e = .returned (.func (.func 157) #[] #[.pointer (some ⟨w.heap.size, 0, none⟩)]) ∧ w' = w.alloc (.cells #[.pointer p0] 162) := by
 refine callsIn_of_wp Tryd.func156 rfl hf ?_ hro
 simp only [Tryd.ntmps156, List.size_toArray, List.length_cons, List.length_nil, Nat.reduceAdd, Nat.reduceSub, Array.replicate_succ, Array.replicate_zero, List.push_toArray, List.append_toArray, List.nil_append, List.cons_append]
 gi_wp2
 go_ret
 exact ⟨rfl, rfl⟩
structure KA (Q : Nat → Prop) where
 val : Nat
 ok : Q val
set_option maxRecDepth 100000 in
set_option maxHeartbeats 1000000 in
theorem kids1_in (F : Fence) (n : Nat) (hf : F.fn 157) (hro : F.round = none) (hn : 1 ≤ n) (l Bn n0 b : Nat) (Q : Nat → Prop) (A : Nat → Option Nat) (p0 : Option Addr) (xs : List (KA Q)) (J Jx : List (KA Q) → World → Prop)
  (hY : ∀ pre x W, J pre W → pre.length < xs.length → YieldAt F (n - 1) Tryd.prog l #[.pointer (pa (A x.val))] W fun e W' =>
   (e = .returned (.bool true) ∧ J (pre ++ [x]) W' ∧ Below n0 W W') ∨ (e = .returned (.bool false) ∧ Jx (pre ++ [x]) W'))
  (W : World) (hBn : W.cell? ⟨Bn, 0, none⟩ = some (.pointer (some ⟨b, 0, none⟩))) (hb3 : W.cell? ⟨b, 3, none⟩ = some (.pointer p0)) (hL : NList A n0 W p0 (xs.map KA.val)) (h0 : J [] W) :
  CallsIn F n Tryd.prog 157 #[.func (.yield l) #[] #[], .pointer (some ⟨Bn, 0, none⟩)] W fun e W' => (∃ v, e = .returned v) ∧
   ((∃ ys, ys = xs ∧ J ys W') ∨ (∃ pre, pre <+: xs ∧ Jx pre W')) := by
 refine callsIn_of_wp Tryd.func157 rfl hf ?_ hro
 simp only [Tryd.ntmps157, List.size_toArray, List.length_cons, List.length_nil, Nat.reduceAdd, Nat.reduceSub, Array.replicate_succ, Array.replicate_zero, List.push_toArray, List.append_toArray, List.nil_append, List.cons_append]
 gi_wp2
 gi_loopw [3] (fun p wr => ∃ (pre rest : List (KA Q)) (q : Option Addr), p = .pointer q ∧ xs = pre ++ rest ∧ NList A n0 wr q (rest.map KA.val) ∧ J pre wr)
  (fun p wr => nleft A n0 wr p)
 case atStart =>
  exact ⟨[], xs, p0, rfl, rfl, hL, h0⟩
 case round =>
  obtain ⟨pre, rest, q, rfl, hx, hl, hJs⟩ := hrel
  cases rest with
  | nil =>
   obtain rfl : q = none := hl
   gi_wp2
   go_end0
   exact ⟨⟨_, rfl⟩, .inl ⟨pre, by simp [hx], hJs⟩⟩
  | cons x rest =>
   have hl' := hl
   obtain ⟨c, q', hA, rfl, hc, hq, hr⟩ := hl
   obtain ⟨fn, tmps, assign, body, hy, hR⟩ := hY pre x wr hJs (by rw [hx]; simp)
   rw [hA, pa_some] at hy
   have HA := Aside0.mk hA
   clear hA
   gi_wp2
   refine hR.mono ?_
   rintro e W3 (⟨rfl, hJ3, hk3⟩ | ⟨rfl, hJx3⟩)
   ·have hq3 : W3.cell? ⟨c, 4, none⟩ = some (.pointer q') := (hk3.cell (p := ⟨c, 4, none⟩) hc).trans hq
    gi_wp2
    go_roundw
    case rel => exact ⟨pre ++ [x], rest, q', rfl, by simp [hx], hr.below hk3, hJ3⟩
    case measure => rw [nleft_eq (hr.below hk3), nleft_eq hl']; simp
   ·gi_wp2
    refine bodyPost_ret (results_none rfl _ _ _) rfl ?_
    exact ⟨⟨_, rfl⟩, .inr ⟨pre ++ [x], ⟨rest, by simp [hx]⟩, hJx3⟩⟩
theorem kids_stops (F : Fence) (n : Nat) (hf : F.fn 157) (hro : F.round = none) (hn : 1 ≤ n) (Bn n0 b : Nat) (Q : Nat → Prop) (A : Nat → Option Nat) (p0 : Option Addr) (xs : List (KA Q)) (w : World) (hBn : Bn < w.heap.size) (hn0 : n0 ≤ w.heap.size) (hb : b < w.heap.size)
  (hc : w.cell? ⟨Bn, 0, none⟩ = some (.pointer (some ⟨b, 0, none⟩))) (hb3 : w.cell? ⟨b, 3, none⟩ = some (.pointer p0)) (hL : NList A n0 w p0 (xs.map KA.val)) :
  SeqStopsK F n Tryd.prog 157 #[.pointer (some ⟨Bn, 0, none⟩)] (fun x : KA Q => #[.pointer (pa (A x.val))]) (Below n0) (fun ys => ys = xs) (fun pre => pre <+: xs) xs.length w := fun l J Jx W hW _ _ hY h0 =>
 kids1_in F n hf hro hn l Bn n0 b Q A p0 xs J Jx hY W ((hW.cell (p := ⟨Bn, 0, none⟩) hBn).trans hc) ((hW.cell (p := ⟨b, 3, none⟩) hb).trans hb3) (hL.below (hW.mono hn0)) h0
theorem attach_val {Q : Nat → Prop} : ∀ {l : List Nat} (h : ∀ x ∈ l, Q x), ∃ xs : List (KA Q), xs.map KA.val = l
 | [], _ => ⟨[], rfl⟩
 | x :: l, h => by
  obtain ⟨xs, hx⟩ := attach_val (l := l) fun y hy => h y (List.mem_cons_of_mem _ hy)
  exact ⟨⟨x, h x List.mem_cons_self⟩ :: xs, by rw [List.map_cons, hx]⟩
def pv (i : Nat) : Nat → List Nat → Nat
 | p, [] => p
 | p, y :: r => if y = i then p else pv i y r
theorem cell_of_box_f {W : World} {B : Nat} {v : Value} {t : TypeId} (h : W.heap[B]? = some (.cells #[v] t (0, 0))) : W.cell? ⟨B, 0, none⟩ = some v ∧ W.frozen? ⟨B, 0, none⟩ = false := by
 constructor <;> simp [World.cell?, World.frozen?, h]
theorem cell_new_f (W : World) (v : Value) (t : TypeId) : (W.alloc (.cells #[v] t)).cell? ⟨W.heap.size, 0, none⟩ = some v ∧ (W.alloc (.cells #[v] t)).frozen? ⟨W.heap.size, 0, none⟩ = false :=
 cell_of_box_f (World.alloc_heap_new W _)
end Go.Proofs.YtdpklbomhdpimaaDoor.P
namespace Go.Proofs.YtdpklbomhdpimaaDoor.FP
open Go.Proofs.YtdpklbomhdpimaaDoor.P
def under (u x : Nat) (F : Fo) : Prop := u ∈ F.ids ∧ (x = u ∨ x ∈ (sub u F).ids)
instance (u x : Nat) (F : Fo) : Decidable (under u x F) := by unfold under; exact inferInstance
def dep (x : Nat) (d : Nat) : Fo → Nat
 | .nil => d
 | .nd j _ k n => if j = x then d else if x ∈ k.ids then dep x (d + 1) k else dep x d n
end Go.Proofs.YtdpklbomhdpimaaDoor.FP
namespace Go.Proofs.YtdpklbomhdpimaaDoor.PL
open Go.RowKit Go.Proofs.YtdpklbomhdpimaaDoor.P Go.Proofs.YtdpklbomhdpimaaDoorW.PrintWords Go.Proofs.YtdpklbomhdpimaaDoorW.PrintLast
theorem wrap_id (x : Int) (h0 : -9223372036854775808 ≤ x) (h1 : x ≤ 9223372036854775807) : wrap64 x = x := by unfold wrap64; omega
theorem rdR_get (t : List S69) (i : Nat) (h : i < t.length) : rd_T69 t i = t[i] := by
 unfold rd_T69
 rw [List.getD_eq_getElem?_getD, show ((i : Int)).toNat = i from rfl, List.getElem?_eq_getElem h]
 rfl
end Go.Proofs.YtdpklbomhdpimaaDoor.PL
namespace Go.Proofs.YtdpklbomhdpimaaDoor.PL
open Go.RowKit Go.Proofs.YtdpklbomhdpimaaDoor.P Go.Proofs.YtdpklbomhdpimaaDoorW.PrintWords Go.Proofs.YtdpklbomhdpimaaDoorW.PrintLast Go.Proofs.YtdpklbomhdpimaaDoor.FP
def wfR (r : S69) : Prop := I64 r.f0 ∧ r.f2.size ≤ 9223372036854775807
theorem treeGo_congr : ∀ (l : List S69) (s s' : List Int) (roots d : Int), (∀ x, x ∈ s ↔ x ∈ s') → treeGo s roots d l = treeGo s' roots d l
 | [], _, _, _, _, _ => rfl
 | r :: rest, s, s', roots, d, h => by
  have hc : ∀ x, x ∈ r.f0 :: s ↔ x ∈ r.f0 :: s' := fun x => by simp only [List.mem_cons, h x]
  have hd : decide (r.f0 ∉ s) = decide (r.f0 ∉ s') := by simp only [h r.f0]
  unfold treeGo
  rw [hd, treeGo_congr rest _ _ (roots + 1) r.f1 hc, treeGo_congr rest _ _ roots r.f1 hc]
theorem rowB_deep {r : S69} (h : rowB r = true) : 0 ≤ r.f1 ∧ r.f1 ≤ 18 := by
 obtain ⟨_, _, d0, d18⟩ := rowB_id h
 exact ⟨d0, d18⟩
theorem st_l1 (t : List S69) (hl : t.length ≤ 1000000000) (roots : Int) (i : Nat) (hi : i < t.length) (b : Bool) (hnext : Ev (fun k => spec_TreeOk.l0 k t roots ((i : Int) + 1)) b) : ∀ (n j : Nat), j + n = i → Ev (fun k => spec_TreeOk.l1 k t roots i j) (decide (t[i].f0 ∉ ((t.take i).drop j).map (·.f0)) && b)
 | 0, j, h => by
  have hji : j = i := by omega
  subst hji
  rw [List.drop_eq_nil_of_le (by rw [List.length_take]; omega)]
  refine Ev.step (fun k => by simp only [spec_TreeOk.l1]; rfl) ?_
  refine ev_neg (by omega) ?_
  rw [wrapS j (by omega) (by omega)]
  simpa using hnext
 | n + 1, j, h => by
  have hj : j < (t.take i).length := by rw [List.length_take]; omega
  have hjt : j < t.length := by omega
  rw [List.drop_eq_getElem_cons hj, List.map_cons, List.getElem_take]
  refine Ev.step (fun k => by simp only [spec_TreeOk.l1]; rfl) ?_
  refine ev_pos (by omega) (ev_pos (by omega) (ev_pos (by omega) (ev_pos (by omega) (ev_pos (by omega) ?_))))
  rw [rdR_get t j hjt, rdR_get t i hi, wrapS j (by omega) (by omega)]
  by_cases hq : t[j].f0 = t[i].f0
  ·refine ev_pos hq ?_
   rw [decide_eq_false (by simp [hq]), Bool.false_and]
   exact evnow _
  ·refine ev_neg hq ?_
   have ih := st_l1 t hl roots i hi b hnext n (j + 1) (by omega)
   have e : decide (t[i].f0 ∉ t[j].f0 :: ((t.take i).drop (j + 1)).map (·.f0)) = decide (t[i].f0 ∉ ((t.take i).drop (j + 1)).map (·.f0)) := by
    rw [decide_eq_decide, List.mem_cons, not_or]
    exact ⟨fun q => q.2, fun q => ⟨fun e => hq e.symm, q⟩⟩
   rw [e]
   exact ih
theorem st_l0 (t : List S69) (hl : t.length ≤ 1000000000) (hw : ∀ r ∈ t, wfR r) : ∀ (n i : Nat) (roots : Int) (h : i + n = t.length) (h1 : 0 < i) (h2 : i ≤ t.length), 0 ≤ roots → roots ≤ i → rowB (t[i - 1]'(by omega)) = true →
  Ev (fun k => spec_TreeOk.l0 k t roots i) (treeGo ((t.take i).map (·.f0)) roots (t[i - 1]'(by omega)).f1 (t.drop i) && ((t[0]'(by omega)).f0 == 1))
 | 0, i, roots, h, h1, h2, r0, r1, hp => by
  rw [List.drop_eq_nil_of_le (by omega)]
  refine Ev.step (fun k => by simp only [spec_TreeOk.l0]; rfl) ?_
  refine ev_neg (by omega) ?_
  unfold treeGo
  by_cases hr : roots = 3
  ·refine ev_pos hr (ev_pos (by omega) ?_)
   rw [decide_eq_true hr, Bool.true_and, show rd_T69 t 0 = t[0]'(by omega) from rdR_get t 0 (by omega)]
   exact evnow _
  ·refine ev_neg hr ?_
   rw [decide_eq_false hr, Bool.false_and]
   exact evnow _
 | n + 1, i, roots, h, h1, h2, r0, r1, hp => by
  have hi : i < t.length := by omega
  have hi1 : i - 1 < t.length := by omega
  obtain ⟨w0, w1⟩ := hw t[i] (List.getElem_mem hi)
  obtain ⟨d0, d18⟩ := rowB_deep hp
  rw [List.drop_eq_getElem_cons hi]
  refine Ev.step (fun k => by simp only [spec_TreeOk.l0]; rfl) ?_
  refine ev_pos (by omega) (ev_pos (by omega) ?_)
  rw [rdR_get t i hi]
  refine Ev.bind (srow_f t[i] w0 w1) ?_
  unfold treeGo
  cases hrow : rowB t[i] with
  | false =>
   simp only [Bool.false_eq_true, if_false, Bool.false_and]
   refine Ev.step (fun k => by simp only [spec_TreeOk.j1]; rfl) ?_
   exact ev_pos trivial (evnow _)
  | true =>
   simp only [if_true, Bool.true_and]
   have hw1 : wrap64 ((i : Int) - 1) = ((i - 1 : Nat) : Int) := by rw [wrap_id _ (by omega) (by omega)]; omega
   rw [hw1]
   refine ev_pos (by omega) (ev_pos (by omega) (ev_pos (by omega) ?_))
   rw [rdR_get t (i - 1) hi1, wrap_id (t[i - 1].f1 + 1) (by omega) (by omega)]
   refine Ev.step (fun k => by simp only [spec_TreeOk.j1]; rfl) ?_
   by_cases hd : t[i].f1 > t[i - 1].f1 + 1
   ·refine ev_pos (by simpa using hd) ?_
    rw [decide_eq_false (show ¬ t[i].f1 ≤ t[i - 1].f1 + 1 by omega), Bool.false_and, Bool.and_false, Bool.false_and]
    exact evnow _
   ·refine ev_neg (by simpa using hd) (ev_pos (by omega) (ev_pos (by omega) ?_))
    rw [decide_eq_true (show t[i].f1 ≤ t[i - 1].f1 + 1 by omega), Bool.true_and, rdR_get t i hi, root_f]
    simp only [Option.bind_some]
    have hseen : ∀ x, x ∈ (t.take (i + 1)).map (·.f0) ↔ x ∈ t[i].f0 :: (t.take i).map (·.f0) := fun x => by
     rw [List.take_succ_eq_append_getElem hi, List.map_append, List.mem_append, List.mem_cons]
     simp [or_comm]
    have hstep : ∀ (roots' : Int), 0 ≤ roots' → roots' ≤ (i + 1 : Nat) → Ev (fun k => spec_TreeOk.j2 k t roots' i) (decide (t[i].f0 ∉ (t.take i).map (·.f0)) && (treeGo (t[i].f0 :: (t.take i).map (·.f0)) roots' t[i].f1 (t.drop (i + 1)) && ((t[0]'(by omega)).f0 == 1))) := fun roots' q0 q1 => by
     refine Ev.step (fun k => by simp only [spec_TreeOk.j2]; rfl) ?_
     have ih := st_l0 t hl hw n (i + 1) roots' (by omega) (by omega) (by omega) q0 q1 hrow
     have ih2 : Ev (fun k => spec_TreeOk.l0 k t roots' ((i : Int) + 1)) (treeGo (t[i].f0 :: (t.take i).map (·.f0)) roots' t[i].f1 (t.drop (i + 1)) && ((t[0]'(by omega)).f0 == 1)) := by
      rw [← treeGo_congr (t.drop (i + 1)) _ _ roots' t[i].f1 hseen]
      exact ih
     have := st_l1 t hl roots' i hi _ ih2 i 0 (by omega)
     rw [List.drop_zero] at this
     exact this
    cases hroot : rootB t[i].f0 with
    | true =>
     simp only [if_true]
     have hw2 : wrap64 (roots + 1) = roots + 1 := wrap_id _ (by omega) (by omega)
     rw [hw2]
     by_cases he : t[i].f0 = roots + 1
     ·refine ev_pos he ?_
      rw [decide_eq_true he, Bool.true_and, Bool.and_assoc]
      exact hstep (roots + 1) (by omega) (by omega)
     ·refine ev_neg he ?_
      rw [decide_eq_false he, Bool.false_and, Bool.and_false, Bool.false_and]
      exact evnow _
    | false =>
     simp only [Bool.false_eq_true, if_false]
     rw [Bool.and_assoc]
     exact hstep roots r0 (by omega)
theorem stree_f (t : List S69) (hl : t.length ≤ 1000000000) (hw : ∀ r ∈ t, wfR r) : Ev (fun k => spec_TreeOk.f k t) (treeB t) := by
 unfold spec_TreeOk.f treeB
 cases t with
 | nil =>
  refine Ev.step (fun k => by simp only [spec_TreeOk.l0]; rfl) ?_
  exact ev_neg (by simp) (ev_neg (by decide) (evnow _))
 | cons r rest =>
  obtain ⟨w0, w1⟩ := hw r List.mem_cons_self
  have hr0 : rd_T69 (r :: rest) 0 = r := rdR_get (r :: rest) 0 (by simp)
  refine Ev.step (fun k => by simp only [spec_TreeOk.l0]; rfl) ?_
  refine ev_pos (by simp) (ev_pos (by omega) ?_)
  rw [hr0]
  refine Ev.bind (srow_f r w0 w1) ?_
  unfold treeGo
  cases hrow : rowB r with
  | false =>
   simp only [Bool.false_eq_true, if_false, Bool.false_and]
   refine Ev.step (fun k => by simp only [spec_TreeOk.j1]; rfl) ?_
   exact ev_pos trivial (evnow _)
  | true =>
   simp only [if_true, Bool.true_and]
   refine ev_neg (by omega) ?_
   refine Ev.step (fun k => by simp only [spec_TreeOk.j1]; rfl) ?_
   refine ev_neg (by decide) (ev_pos (by omega) (ev_pos (by simp) ?_))
   rw [hr0, root_f]
   simp only [Option.bind_some]
   have hstep : ∀ (roots' : Int), 0 ≤ roots' → roots' ≤ 1 → Ev (fun k => spec_TreeOk.j2 k (r :: rest) roots' 0) (treeGo [r.f0] roots' r.f1 rest && (r.f0 == 1)) := fun roots' q0 q1 => by
    refine Ev.step (fun k => by simp only [spec_TreeOk.j2]; rfl) ?_
    have ih := st_l0 (r :: rest) hl hw rest.length 1 roots' (by simp; omega) (by omega) (by simp) q0 (by omega) hrow
    have := st_l1 (r :: rest) hl roots' 0 (by simp) _ ih 0 0 rfl
    simpa using this
   have hdp := rowB_deep hrow
   cases hroot : rootB r.f0 with
   | true =>
    simp only [if_true]
    have hd : r.f1 = 0 := by
     unfold rowB at hrow
     rw [if_pos hroot] at hrow
     simp only [Bool.and_eq_true, decide_eq_true_eq] at hrow
     exact hrow.1
    rw [decide_eq_true (show r.f1 ≤ -1 + 1 by omega), Bool.true_and, show wrap64 (0 + 1) = 1 from wrap_id (0 + 1) (by omega) (by omega)]
    by_cases he : r.f0 = 1
    ·refine ev_pos he ?_
     have := hstep 1 (by omega) (by omega)
     have e1 : (r.f0 == 1) = true := beq_iff_eq.2 he
     rw [e1, Bool.and_true] at this
     simpa [he] using this
    ·refine ev_neg he ?_
     rw [decide_eq_false (show ¬ r.f0 = 0 + 1 by omega), Bool.false_and, Bool.and_false]
     exact evnow _
   | false =>
    simp only [Bool.false_eq_true, if_false]
    have hd : 1 ≤ r.f1 := by
     unfold rowB at hrow
     rw [if_neg (by rw [hroot]; decide)] at hrow
     simp only [Bool.and_eq_true, decide_eq_true_eq] at hrow
     exact hrow.2.1
    have hne : (r.f0 == 1) = false := beq_eq_false_iff_ne.2 fun e => by rw [e] at hroot; exact absurd hroot (by decide)
    rw [decide_eq_false (show ¬ r.f1 ≤ -1 + 1 by omega), Bool.false_and, Bool.and_false]
    have := hstep 0 (by omega) (by omega)
    rwa [hne, Bool.and_false] at this
end Go.Proofs.YtdpklbomhdpimaaDoor.PL
namespace Go.Proofs.YtdpklbomhdpimaaDoor.PL
open Go.RowKit Go.Proofs.YtdpklbomhdpimaaDoor.P Go.Proofs.YtdpklbomhdpimaaDoorW.PrintWords Go.Proofs.YtdpklbomhdpimaaDoorW.PrintLast
def waitGo (who done made : Int) : Nat → List S44 → Bool
 | _, [] => true
 | i, e :: l => entB e && (decide (e.f0 = who) && (decide (e.f1 = done + i + 1) && ((decide (e.f2.f0 ≠ 1) || decide (e.f2.f1 ≤ 10 * who + made)) && waitGo who done made (i + 1) l)))
def cliB (who seen : Int) (b : List S69) (w : List S44) (done made : Int) : Bool :=
 (decide (1 ≤ who) && decide (who ≤ 3)) && ((decide (0 ≤ seen) && decide (seen ≤ 40)) && (treeB b && ((decide (0 ≤ done) && decide (done ≤ seen)) && (decide (done + w.length ≤ 40) && ((decide (0 ≤ made) && decide (made ≤ 6)) && waitGo who done made 0 w)))))
section
variable (who seen done made : Int) (b : List S69) (w : List S44)
theorem icli_j3 (h1 : 1 ≤ who ∧ who ≤ 3) (hm : 0 ≤ made ∧ made ≤ 6) (len : Int) (i : Nat) (hi : i ≤ 1000) (e : S44) (R : Bool) (h : Ev (fun k => impl_ClientOk.l0 k w len ((i + 1 : Nat) : Int) who seen b w done made) R) (f : Bool) :
  Ev (fun k => impl_ClientOk.j3 k w len i f who seen b w done made e.f0 e.f1 e.f2.f0 e.f2.f1 e.f2.f2 e.f2.f3 e.f2.f4) (!f && ((decide (e.f2.f0 ≠ 1) || decide (e.f2.f1 ≤ 10 * who + made)) && R)) := by
 refine Ev.step (fun k => by simp only [impl_ClientOk.j3]; rfl) ?_
 cases f with
 | true => exact ev_pos rfl (evnow _)
 | false =>
  have w1 : wrap64 (wrap64 (10 * who) + made) = 10 * who + made := by rw [wrap_id (10 * who) (by omega) (by omega), wrap_id _ (by omega) (by omega)]
  have w2 : wrap64 ((i : Int) + 1) = ((i + 1 : Nat) : Int) := wrap_id _ (by omega) (by omega)
  refine ev_neg (by decide) ?_
  rw [w1, w2]
  by_cases a : e.f2.f0 = 1
  ·refine ev_pos a ?_
   by_cases g : e.f2.f1 > 10 * who + made
   ·have z : (!false && ((decide (e.f2.f0 ≠ 1) || decide (e.f2.f1 ≤ 10 * who + made)) && R)) = false := by simp [a]; intro; omega
    rw [z]
    exact ev_pos g (evnow _)
   ·have z : (!false && ((decide (e.f2.f0 ≠ 1) || decide (e.f2.f1 ≤ 10 * who + made)) && R)) = R := by rw [decide_eq_true (show e.f2.f1 ≤ 10 * who + made by omega)]; simp
    rw [z]
    exact ev_neg g h
  ·have z : (!false && ((decide (e.f2.f0 ≠ 1) || decide (e.f2.f1 ≤ 10 * who + made)) && R)) = R := by simp [a]
   rw [z]
   exact ev_neg a h
theorem icli_l0 (hw : wfL w) (h1 : 1 ≤ who ∧ who ≤ 3) (hd : 0 ≤ done ∧ done ≤ 40) (hm : 0 ≤ made ∧ made ≤ 6) (hl : w.length ≤ 1000) : ∀ n i : Nat, i + n = w.length → Ev (fun k => impl_ClientOk.l0 k w (w.length : Int) i who seen b w done made) (waitGo who done made i (w.drop i))
 | 0, i, h => by
  rw [List.drop_eq_nil_of_le (by omega)]
  refine Ev.step (f := fun _ => some true) (fun k => ?_) (evnow _)
  simp only [impl_ClientOk.l0]; rw [if_neg (by omega)]
 | n + 1, i, h => by
  have hi : i < w.length := by omega
  rw [List.drop_eq_getElem_cons hi]
  have J := icli_j3 who seen done made b w h1 hm (w.length : Int) i (by omega) w[i] _ (icli_l0 hw h1 hd hm hl n (i + 1) (by omega))
  have ws : wrap64 (wrap64 (done + (i : Int)) + 1) = done + i + 1 := by rw [wrap_id (done + i) (by omega) (by omega), wrap_id _ (by omega) (by omega)]
  refine Ev.step (f := fun k => (impl_EntryOk.f k w[i].f0 w[i].f1 w[i].f2.f0 w[i].f2.f1 w[i].f2.f2 w[i].f2.f3 w[i].f2.f4).bind fun t => if t = true then (if w[i].f0 = who then impl_ClientOk.j3 k w (w.length : Int) i (w[i].f1 != done + i + 1) who seen b w done made w[i].f0 w[i].f1 w[i].f2.f0 w[i].f2.f1 w[i].f2.f2 w[i].f2.f3 w[i].f2.f4 else impl_ClientOk.j3 k w (w.length : Int) i true who seen b w done made w[i].f0 w[i].f1 w[i].f2.f0 w[i].f2.f1 w[i].f2.f2 w[i].f2.f3 w[i].f2.f4) else impl_ClientOk.j3 k w (w.length : Int) i true who seen b w done made w[i].f0 w[i].f1 w[i].f2.f0 w[i].f2.f1 w[i].f2.f2 w[i].f2.f3 w[i].f2.f4) (fun k => ?_) ?_
  ·simp only [impl_ClientOk.l0]
   rw [if_pos (by omega), if_pos (by omega), if_pos (by omega), rdE_get w i hi, ws]
  ·refine Ev.bind (ent_f _ (hw _ (List.getElem_mem hi))) ?_
   unfold waitGo
   cases entB w[i] with
   | false => exact ev_neg (by decide) (J true)
   | true =>
    refine ev_pos rfl ?_
    by_cases a : w[i].f0 = who
    ·refine ev_pos a ?_
     have q := J (w[i].f1 != done + i + 1)
     have z : (!(w[i].f1 != done + i + 1)) = decide (w[i].f1 = done + i + 1) := by by_cases hq : w[i].f1 = done + i + 1 <;> simp [hq]
     rw [z] at q
     rw [decide_eq_true a, Bool.true_and, Bool.true_and]
     exact q
    ·rw [decide_eq_false a]
     exact ev_neg a (J true)
theorem icli_f (hw : wfL w) (hl : w.length ≤ 1099511627776) : Ev (fun k => impl_ClientOk.f k who seen b w done made) (cliB who seen b w done made) := by
 have j0t : Ev (fun k => impl_ClientOk.j0 k true who seen b w done made) false := Ev.step (f := fun _ => some false) (fun k => by simp only [impl_ClientOk.j0]; rfl) (evnow _)
 have j1t : Ev (fun k => impl_ClientOk.j1 k true who seen b w done made) false := Ev.step (f := fun _ => some false) (fun k => by simp only [impl_ClientOk.j1]; rfl) (evnow _)
 unfold impl_ClientOk.f impl_whoOk.f cliB
 by_cases a1 : who ≥ 1
 ·rw [if_pos a1]
  simp only [Option.bind_some]
  rw [decide_eq_true (show 1 ≤ who from a1), Bool.true_and]
  by_cases a2 : who ≤ 3
  ·rw [decide_eq_true a2, Bool.true_and]
   refine ev_pos rfl ?_
   by_cases a3 : seen < 0
   ·rw [decide_eq_false (show ¬ 0 ≤ seen by omega)]
    exact ev_pos a3 j0t
   ·rw [decide_eq_true (show 0 ≤ seen by omega), Bool.true_and]
    refine ev_neg a3 ?_
    by_cases a4 : seen > 40
    ·rw [decide_eq_false (show ¬ seen ≤ 40 by omega)]
     exact ev_pos a4 j0t
    ·rw [decide_eq_true (show seen ≤ 40 by omega), Bool.true_and]
     refine ev_neg a4 ?_
     unfold impl_TreeOk.f
     simp only [Option.bind_some]
     cases treeB b with
     | false => exact j0t
     | true =>
      rw [Bool.true_and]
      refine Ev.step (fun k => by simp only [impl_ClientOk.j0]; rfl) ?_
      refine ev_neg (by decide) ?_
      by_cases a5 : done < 0
      ·rw [decide_eq_false (show ¬ 0 ≤ done by omega)]
       exact ev_pos a5 j1t
      ·rw [decide_eq_true (show 0 ≤ done by omega), Bool.true_and]
       refine ev_neg a5 ?_
       by_cases a6 : done > seen
       ·rw [decide_eq_false (show ¬ done ≤ seen by omega)]
        exact ev_pos a6 j1t
       ·rw [decide_eq_true (show done ≤ seen by omega), Bool.true_and]
        refine ev_neg a6 ?_
        rw [wrap_id (40 - done) (by omega) (by omega)]
        by_cases a7 : (w.length : Int) > 40 - done
        ·rw [decide_eq_false (show ¬ done + w.length ≤ 40 by omega)]
         exact ev_pos a7 j1t
        ·rw [decide_eq_true (show done + w.length ≤ 40 by omega), Bool.true_and]
         refine ev_neg a7 ?_
         by_cases a8 : made < 0
         ·rw [decide_eq_false (show ¬ 0 ≤ made by omega)]
          exact ev_pos a8 j1t
         ·rw [decide_eq_true (show 0 ≤ made by omega), Bool.true_and]
          refine ev_neg a8 ?_
          by_cases a9 : made > 6
          ·rw [decide_eq_false (show ¬ made ≤ 6 by omega), decide_eq_true a9]
           exact j1t
          ·rw [decide_eq_true (show made ≤ 6 by omega), decide_eq_false a9, Bool.true_and]
           refine Ev.step (fun k => by simp only [impl_ClientOk.j1]; rfl) ?_
           exact ev_neg (by decide) (icli_l0 who seen done made b w hw ⟨by omega, by omega⟩ ⟨by omega, by omega⟩ ⟨by omega, by omega⟩ (by omega) w.length 0 (by omega))
  ·rw [decide_eq_false a2]
   exact ev_neg (by decide) j0t
 ·rw [if_neg a1]
  simp only [Option.bind_some]
  rw [decide_eq_false (show ¬ 1 ≤ who by omega)]
  exact ev_neg (by decide) j0t
theorem scli_l0 (hw : wfL w) (h1 : 1 ≤ who ∧ who ≤ 3) (hd : 0 ≤ done ∧ done ≤ 40) (hm : 0 ≤ made ∧ made ≤ 6) (hl : w.length ≤ 1000) : ∀ n i : Nat, i + n = w.length → Ev (fun k => spec_ClientOk.l0 k i who seen b w done made) (waitGo who done made i (w.drop i))
 | 0, i, h => by
  rw [List.drop_eq_nil_of_le (by omega)]
  refine Ev.step (f := fun _ => some true) (fun k => ?_) (evnow _)
  simp only [spec_ClientOk.l0]; rw [if_neg (by omega)]
 | n + 1, i, h => by
  have hi : i < w.length := by omega
  have ih := scli_l0 hw h1 hd hm hl n (i + 1) (by omega)
  rw [List.drop_eq_getElem_cons hi]
  have ws : wrap64 (wrap64 (done + (i : Int)) + 1) = done + i + 1 := by rw [wrap_id (done + i) (by omega) (by omega), wrap_id _ (by omega) (by omega)]
  have w1 : wrap64 (wrap64 (10 * who) + made) = 10 * who + made := by rw [wrap_id (10 * who) (by omega) (by omega), wrap_id _ (by omega) (by omega)]
  have w2 : wrap64 ((i : Int) + 1) = ((i + 1 : Nat) : Int) := wrap_id _ (by omega) (by omega)
  refine Ev.step (f := fun k => (spec_EntryOk.f k w[i].f0 w[i].f1 w[i].f2.f0 w[i].f2.f1 w[i].f2.f2 w[i].f2.f3 w[i].f2.f4).bind fun t => if t = true then (if w[i].f0 = who then (if w[i].f1 = done + i + 1 then (if w[i].f2.f0 = 1 then (if w[i].f2.f1 > 10 * who + made then some false else spec_ClientOk.l0 k ((i + 1 : Nat) : Int) who seen b w done made) else spec_ClientOk.l0 k ((i + 1 : Nat) : Int) who seen b w done made) else some false) else some false) else some false) (fun k => ?_) ?_
  ·simp only [spec_ClientOk.l0]
   rw [if_pos (by omega), if_pos (by omega), rdE_get w i hi, ws, w1, w2]
  ·refine Ev.bind (sent_f _ (hw _ (List.getElem_mem hi))) ?_
   unfold waitGo
   cases entB w[i] with
   | false => exact ev_neg (by decide) (evnow _)
   | true =>
    refine ev_pos rfl ?_
    rw [Bool.true_and]
    by_cases a : w[i].f0 = who
    ·rw [decide_eq_true a, Bool.true_and]
     refine ev_pos a ?_
     by_cases c : w[i].f1 = done + i + 1
     ·rw [decide_eq_true c, Bool.true_and]
      refine ev_pos c ?_
      by_cases g : w[i].f2.f0 = 1
      ·refine ev_pos g ?_
       rw [decide_eq_false (show ¬ w[i].f2.f0 ≠ 1 from fun z => z g), Bool.false_or]
       by_cases o : w[i].f2.f1 > 10 * who + made
       ·rw [decide_eq_false (show ¬ w[i].f2.f1 ≤ 10 * who + made by omega)]
        exact ev_pos o (evnow _)
       ·rw [decide_eq_true (show w[i].f2.f1 ≤ 10 * who + made by omega), Bool.true_and]
        exact ev_neg o ih
      ·rw [decide_eq_true (show w[i].f2.f0 ≠ 1 from g), Bool.true_or, Bool.true_and]
       exact ev_neg g ih
     ·rw [decide_eq_false c]
      exact ev_neg c (evnow _)
    ·rw [decide_eq_false a]
     exact ev_neg a (evnow _)
theorem scli_f (hw : wfL w) (hl : w.length ≤ 1099511627776) (hb : b.length ≤ 1000000000) (hr : ∀ r ∈ b, wfR r) (hs : I64 seen) (hd : I64 done) : Ev (fun k => spec_ClientOk.f k who seen b w done made) (cliB who seen b w done made) := by
 have j0t : Ev (fun k => spec_ClientOk.j0 k true who seen b w done made) false := Ev.step (f := fun _ => some false) (fun k => by simp only [spec_ClientOk.j0]; rfl) (evnow _)
 unfold spec_ClientOk.f cliB
 simp only [in_f, Option.bind_some]
 cases a1 : (decide (1 ≤ who) && decide (who ≤ 3)) with
 | false => exact ev_neg (by decide) j0t
 | true =>
  rw [Bool.true_and]
  refine ev_pos rfl ?_
  cases a2 : (decide (0 ≤ seen) && decide (seen ≤ 40)) with
  | false => exact ev_neg (by decide) j0t
  | true =>
   rw [Bool.true_and]
   refine ev_pos rfl (Ev.bind (stree_f b hb hr) ?_)
   cases treeB b with
   | false => exact ev_neg (by decide) j0t
   | true =>
    rw [Bool.true_and]
    refine ev_pos rfl ?_
    cases a3 : (decide (0 ≤ done) && decide (done ≤ seen)) with
    | false => exact ev_neg (by decide) j0t
    | true =>
     rw [Bool.true_and]
     refine ev_pos rfl ?_
     simp only [Bool.and_eq_true, decide_eq_true_eq] at a1 a2 a3
     rw [wrap_id (done + (w.length : Int)) (by omega) (by omega)]
     by_cases a4 : done + (w.length : Int) > 40
     ·rw [decide_eq_false (show ¬ done + w.length ≤ 40 by omega)]
      exact ev_pos a4 j0t
     ·rw [decide_eq_true (show done + w.length ≤ 40 by omega), Bool.true_and]
      refine ev_neg a4 ?_
      cases a5 : (decide (0 ≤ made) && decide (made ≤ 6)) with
      | false => exact j0t
      | true =>
       rw [Bool.true_and]
       simp only [Bool.and_eq_true, decide_eq_true_eq] at a5
       refine Ev.step (fun k => by simp only [spec_ClientOk.j0]; rfl) ?_
       exact ev_neg (by decide) (scli_l0 who seen done made b w hw a1 ⟨by omega, by omega⟩ a5 (by omega) w.length 0 (by omega))
end
end Go.Proofs.YtdpklbomhdpimaaDoor.PL
namespace Go.Proofs.YtdpklbomhdpimaaDoor.PL
open Go.RowKit Go.Proofs.YtdpklbomhdpimaaDoor.P Go.Proofs.YtdpklbomhdpimaaDoorW.PrintWords Go.Proofs.YtdpklbomhdpimaaDoorW.PrintLast
theorem take_set_next {α : Type} (x : List α) (i : Int) (v : α) (h0 : 0 ≤ i) (h : i < x.length) : (x.set i.toNat v).take (i + 1).toNat = x.take i.toNat ++ [v] := by
 have e : (i + 1).toNat = i.toNat + 1 := by omega
 have hl : i.toNat < (x.set i.toNat v).length := by rw [List.length_set]; omega
 rw [e, List.take_succ_eq_append_getElem hl, List.getElem_set_self]
 congr 1
 rw [List.take_set_of_le (Nat.le_refl _)]
theorem eqOp_refl (a b c d : Int) (e : ByteArray) : laws_eqOp.f a b c d e a b c d e = some true := by simp [laws_eqOp.f]
theorem eqEntry_refl (x y a b c d : Int) (e : ByteArray) : laws_eqEntry.f x y a b c d e x y a b c d e = some true := by simp [laws_eqEntry.f, eqOp_refl]
theorem eqE_ev (d : Nat) : ∀ (x : List S44) (i : Int), 0 ≤ i → (x.length : Int) - i = d → x.length ≤ 1099511627776 → Ev (fun k => laws_eqEntryS.l0 k x x i) true := by
 induction d with
 | zero =>
  intro x i h0 hd hl
  refine Ev.step (f := fun _ => some true) (fun k => ?_) (evnow _)
  simp only [laws_eqEntryS.l0]; rw [if_neg (by omega)]
 | succ d ih =>
  intro x i h0 hd hl
  have hi : i < (x.length : Int) := by omega
  refine Ev.step (fun k => ?_) (ih x (i + 1) (by omega) (by omega) hl)
  simp only [laws_eqEntryS.l0, if_pos hi, if_pos h0, eqEntry_refl, Option.bind_some, if_true, wrapS i h0 (by omega)]
theorem eqE (x : List S44) (hl : x.length ≤ 1099511627776) : Ev (fun k => laws_eqEntryS.f k x x) true :=
 Ev.congr (fun k => by simp only [laws_eqEntryS.f, if_true]) (eqE_ev x.length x 0 (by omega) (by omega) hl)
def conv (e : S36) : S44 := ⟨e.f0, e.f1, ⟨e.f2.f0, e.f2.f1, e.f2.f2, e.f2.f3, e.f2.f4⟩⟩
def wfX (e : S36) : Prop := I64 e.f0 ∧ I64 e.f1 ∧ I64 e.f2.f0 ∧ I64 e.f2.f1 ∧ I64 e.f2.f2 ∧ I64 e.f2.f3 ∧ e.f2.f4.size ≤ 9223372036854775807
theorem rdX_get (l : List S36) (i : Nat) (h : i < l.length) : rd_T36 l i = l[i] := by
 unfold rd_T36
 rw [List.getD_eq_getElem?_getD, show ((i : Int)).toNat = i from rfl, List.getElem?_eq_getElem h]
 rfl
theorem wf_conv {l : List S36} (h : ∀ e ∈ l, wfX e) : wfL (l.map conv) := by
 intro e he
 obtain ⟨x, hx, rfl⟩ := List.mem_map.1 he
 exact h x hx
theorem sz_l0 (l : List S36) (hw : ∀ e ∈ l, wfX e) (hl : l.length ≤ 1099511627776) : ∀ (n : Nat) (i : Nat) (b : Int), i + n = l.length → 0 ≤ b → b ≤ 1048576 → ∃ r : Int, Ev (fun k => laws_szEntryS.l0 k l b i) r
 | 0, i, b, h, h0, h1 => ⟨b, Ev.step (f := fun _ => some b) (fun k => by simp only [laws_szEntryS.l0]; rw [if_neg (by omega)]) (evnow _)⟩
 | n + 1, i, b, h, h0, h1 => by
  have hi : i < l.length := by omega
  obtain ⟨_, _, _, _, _, _, hs⟩ := hw _ (List.getElem_mem hi)
  have hww : wrap64 (b - (l[i].f2.f4.size : Int)) = b - l[i].f2.f4.size := by unfold wrap64; omega
  by_cases hb : b - (l[i].f2.f4.size : Int) < 0
  ·refine ⟨-1, Ev.step (f := fun _ => some (-1)) (fun k => ?_) (evnow _)⟩
   simp only [laws_szEntryS.l0]
   rw [if_pos (by omega), if_pos (by omega), rdX_get l i hi]
   simp only [laws_szEntry.f, laws_szOp.f, hww]
   rw [if_pos hb]
   rfl
  ·obtain ⟨r, hr⟩ := sz_l0 l hw hl n (i + 1) (b - l[i].f2.f4.size) (by omega) (by omega) (by omega)
   refine ⟨r, Ev.step (fun k => ?_) hr⟩
   simp only [laws_szEntryS.l0]
   rw [if_pos (by omega), if_pos (by omega), rdX_get l i hi]
   simp only [laws_szEntry.f, laws_szOp.f, hww]
   rw [if_neg hb]
   simp only [Option.bind_some]
   rw [if_neg hb]
   simp only [Option.bind_some]
   rw [if_neg hb, wrapS i (by omega) (by omega)]
   rfl
theorem szE_g (l : List S36) (b : Int) (hw : ∀ e ∈ l, wfX e) (hl : l.length ≤ 9223372036854775807) (h0 : 0 ≤ b) (h1 : b ≤ 1048576) : ∃ r : Int, Ev (fun k => laws_szEntryS.f k l b) r ∧ (¬ r < 0 → l.length ≤ 1048576) := by
 unfold laws_szEntryS.f
 have hww : wrap64 (b - (l.length : Int)) = b - l.length := by unfold wrap64; omega
 rw [hww]
 by_cases hb : b - (l.length : Int) < 0
 ·exact ⟨-1, ev_pos hb (evnow _), fun h => absurd (by decide) h⟩
 ·obtain ⟨r, hr⟩ := sz_l0 l hw (by omega) l.length 0 (b - l.length) (by omega) (by omega) (by omega)
  exact ⟨r, ev_neg hb hr, fun _ => by omega⟩
theorem to_l0 (l : List S36) (hl : l.length ≤ 1099511627776) : ∀ (n : Nat) (i : Nat) (x : List S44), i + n = l.length → x.length = l.length → x.take i = (l.take i).map conv → Ev (fun k => laws_toEntryS.l0 k l x i) (l.map conv)
 | 0, i, x, h, hx, ht => by
  refine Ev.step (f := fun _ => some x) (fun k => ?_) ?_
  ·simp only [laws_toEntryS.l0]; rw [if_neg (by omega)]
  ·rw [List.take_of_length_le (by omega), List.take_of_length_le (by omega)] at ht
   rw [ht]; exact evnow _
 | n + 1, i, x, h, hx, ht => by
  have hi : i < l.length := by omega
  refine Ev.step (fun k => ?_) (to_l0 l hl n (i + 1) (x.set i (conv l[i])) (by omega) (by rw [List.length_set]; exact hx) ?_)
  ·simp only [laws_toEntryS.l0]
   rw [if_pos (by omega), if_pos (by omega), rdX_get l i hi]
   simp only [laws_toEntry.f, laws_toOp.f, Option.bind_some]
   rw [if_pos (by omega), wrapS i (by omega) (by omega)]
   rfl
  ·have := take_set_next x (i : Int) (conv l[i]) (by omega) (by omega)
   simp only [Int.toNat_natCast] at this
   rw [show ((i : Int) + 1).toNat = i + 1 by omega] at this
   rw [this, ht, List.take_succ_eq_append_getElem hi, List.map_append]
   rfl
theorem toE_f (l : List S36) (hl : l.length ≤ 1048576) : Ev (fun k => laws_toEntryS.f k l) (l.map conv) := by
 unfold laws_toEntryS.f
 refine ev_pos (by omega) (ev_pos (by omega) ?_)
 exact to_l0 l (by omega) l.length 0 _ (by omega) (by simp) (by simp)
end Go.Proofs.YtdpklbomhdpimaaDoor.PL
namespace Go.Proofs.YtdpklbomhdpimaaDoor.P
open Go.RowKit Go.Proofs.YtdpklbomhdpimaaDoorW.PrintWords Go.Proofs.YtdpklbomhdpimaaDoorW.PrintLast Go.Proofs.YtdpklbomhdpimaaDoorW.PrintMore Go.Proofs.YtdpklbomhdpimaaDoor.PL Go.Proofs.YtdpklbomhdpimaaDoor.FP
theorem Mem.far {w : World} {n0 F : Nat} {A : Nat → Option Nat} {h : Nat → Nd} (m : Mem w n0 F A h) {p : Addr} (hF : F ≠ p.block) (hA : ∀ i, A i ≠ some p.block) (v : Value) : Mem (w.setCell p v) n0 F A h :=
 { m with tab := blk_far m.tab hF v, nod := fun i b e => blk_far (m.nod i b e) (fun e2 => hA i (e2 ▸ e)) v }
theorem as_hit {P : Program} {t xT : TypeId} {fs : Array Field} (hu : P.underlying t = some (.struct fs)) (v : Value) (w : World) : (Instr.typeAssert (.iface t v) xT t true).run P w = .ok (.tuple #[v, .bool true]) w := by
 simp [Instr.typeAssert, run_underlying hu]
theorem as_miss {P : Program} {t t' xT : TypeId} {fs : Array Field} {z : Value} (hu : P.underlying t' = some (.struct fs)) (hz : (P.info? t').map (·.zero) = some (some z)) (hne : t ≠ t') (v : Value) (w : World) : (Instr.typeAssert (.iface t v) xT t' true).run P w = .ok (.tuple #[z, .bool false]) w := by
 obtain ⟨j, hj, hz'⟩ := Option.map_eq_some_iff.1 hz
 simp [Instr.typeAssert, run_underlying hu, typeInfo, zeroValue, hj, hz', hne]
@[go_sem]
theorem as_mm (v : Value) (w : World) : (Instr.typeAssert (.iface 156 v) 118 156 true).run Tryd.prog w = .ok (.tuple #[v, .bool true]) w := as_hit Tryd.underlying156 v w
@[go_sem]
theorem as_tt (v : Value) (w : World) : (Instr.typeAssert (.iface 159 v) 118 159 true).run Tryd.prog w = .ok (.tuple #[v, .bool true]) w := as_hit Tryd.underlying159 v w
@[go_sem]
theorem as_vv (v : Value) (w : World) : (Instr.typeAssert (.iface 161 v) 118 161 true).run Tryd.prog w = .ok (.tuple #[v, .bool true]) w := as_hit Tryd.underlying161 v w
def zM : Value := .agg #[.int .i64 0, .int .i64 0, .int .i64 0, .string ByteArray.empty]
def zT : Value := .agg #[.int .i64 0, .string ByteArray.empty]
def zV : Value := .agg #[.int .i64 0, .int .i64 0, .int .i64 0]
@[go_sem]
theorem as_tm (v : Value) (w : World) : (Instr.typeAssert (.iface 159 v) 118 156 true).run Tryd.prog w = .ok (.tuple #[zM, .bool false]) w := as_miss Tryd.underlying156 (by kernel_rfl) (by decide) v w
@[go_sem]
theorem as_vm (v : Value) (w : World) : (Instr.typeAssert (.iface 161 v) 118 156 true).run Tryd.prog w = .ok (.tuple #[zM, .bool false]) w := as_miss Tryd.underlying156 (by kernel_rfl) (by decide) v w
@[go_sem]
theorem as_mt (v : Value) (w : World) : (Instr.typeAssert (.iface 156 v) 118 159 true).run Tryd.prog w = .ok (.tuple #[zT, .bool false]) w := as_miss Tryd.underlying159 (by kernel_rfl) (by decide) v w
@[go_sem]
theorem as_vt (v : Value) (w : World) : (Instr.typeAssert (.iface 161 v) 118 159 true).run Tryd.prog w = .ok (.tuple #[zT, .bool false]) w := as_miss Tryd.underlying159 (by kernel_rfl) (by decide) v w
@[go_sem]
theorem as_mv (v : Value) (w : World) : (Instr.typeAssert (.iface 156 v) 118 161 true).run Tryd.prog w = .ok (.tuple #[zV, .bool false]) w := as_miss Tryd.underlying161 (by kernel_rfl) (by decide) v w
@[go_sem]
theorem as_tv (v : Value) (w : World) : (Instr.typeAssert (.iface 159 v) 118 161 true).run Tryd.prog w = .ok (.tuple #[zV, .bool false]) w := as_miss Tryd.underlying161 (by kernel_rfl) (by decide) v w
end Go.Proofs.YtdpklbomhdpimaaDoor.P
