/- Joined by a program (wip/shake.py): the declarations that 'YtdpklbomhdpimaaDoorCardFnLogCut' reaches. -/
import Derived.Test.YtdpklbomhdpimaaDoorZLb3
set_option linter.unusedVariables false
set_option linter.unusedSimpArgs false
set_option linter.unusedSectionVars false
namespace Go.Proofs.YtdpklbomhdpimaaDoor.P
open Go.RowKit Go.Proofs.YtdpklbomhdpimaaDoorW.PrintWords Go.Proofs.YtdpklbomhdpimaaDoorW.PrintLast
def impl_EntryOk.f (k : Nat) (a0_0 : Int) (a0_1 : Int) (a0_2 : Int) (a0_3 : Int) (a0_4 : Int) (a0_5 : Int) (a0_6 : ByteArray) : Option (Bool) := (impl_whoOk.f a0_0).bind fun t405 => (if t405 = true then (if a0_1 < 1 then (some false) else (if a0_1 > 40 then (some false) else ((impl_OpOk.f k a0_2 a0_3 a0_4 a0_5 a0_6).bind fun t406 => (if t406 = true then ((impl_RowWho.f a0_3).bind fun bt407 => (if a0_2 = 1 then (some (bt407.1 == a0_0)) else (some true))) else (some false))))) else (some false))
theorem impl_EntryOk.mono : ∀ a0 a1 a2 a3 a4 a5 a6 k, LeO (impl_EntryOk.f k a0 a1 a2 a3 a4 a5 a6) (impl_EntryOk.f (k + 1) a0 a1 a2 a3 a4 a5 a6) := by
 intro a0 a1 a2 a3 a4 a5 a6 k
 unfold impl_EntryOk.f
 repeat' first
   | (with_reducible exact impl_OpOk.mono _ _ _ _ _ _)
   | (with_reducible exact LeO.refl _)
   | (with_reducible exact LeO.none _)
   | (with_reducible refine LeO.ite ?_ ?_)
   | (with_reducible refine LeO.bind ?_ (fun _ => ?_))
set_option maxHeartbeats 8000000 in
set_option maxRecDepth 100000 in
theorem impl_EntryOk.calls (k : Nat) (a0_0 : Int) (a0_1 : Int) (a0_2 : Int) (a0_3 : Int) (a0_4 : Int) (a0_5 : Int) (a0_6 : ByteArray) (r : Bool) (w : World) (h : impl_EntryOk.f k a0_0 a0_1 a0_2 a0_3 a0_4 a0_5 a0_6 = some r) (hG : Glob w) :
  Calls Tryd.prog 78 #[.agg #[.int .i64 a0_0, .int .i64 a0_1, .int .i64 a0_2, .int .i64 a0_3, .int .i64 a0_4, .int .i64 a0_5, .string a0_6]] w fun e w' => e = .returned (.bool r) ∧ Below w.heap.size w w' := by
 have hu44 := Tryd.underlying44
 have hu42 := Tryd.underlying42
 have HB := Aside0.mk (Below.refl w.heap.size w)
 have HG := Aside0.mk hG
 clear hG
 unfold impl_EntryOk.f at h
 have H := h
 clear h
 replace H := Option.bind_eq_some_iff.mp H
 obtain ⟨t405, A20, H⟩ := H
 try dsimp only at H
 have A2 := Aside0.mk A20
 clear A20
 by_cases c3 : t405 = true
 ·subst c3
  have H1 : (if a0_1 < 1 then (some false) else (if a0_1 > 40 then (some false) else ((impl_OpOk.f k a0_2 a0_3 a0_4 a0_5 a0_6).bind fun t406 => (if t406 = true then ((impl_RowWho.f a0_3).bind fun bt407 => (if a0_2 = 1 then (some (bt407.1 == a0_0)) else (some true))) else (some false))))) = some r := by rw [if_pos rfl] at H; exact H
  clear H
  have H := H1
  clear H1
  by_cases c4 : a0_1 < 1
  ·rw [if_pos c4] at H
   have c4b0 : decide (a0_1 < 1) = true := decide_eq_true c4
   clear c4
   obtain rfl := Option.some.inj H
   go_enter Tryd.func78, Tryd.ntmps78
   go_wp2_with (first | ((with_reducible refine gate_dst (N := 1) rfl ?_); refine bx_ 1 (#[.int .i64 a0_0, .int .i64 a0_1, .int .i64 a0_2, .int .i64 a0_3, .int .i64 a0_4, .int .i64 a0_5, .string a0_6]) 44 ?_; intro gb404 hg w5 hbox hb; have n0_ := Aside0.mk (below_step (bel_) hb); have n1_ := Aside0.mk (hbox); have n2_ := Aside0.mk ((by rw [hg]; exact (below_size (bel_)) : w.heap.size ≤ gb404)); have n3_ := Aside0.mk ((by rw [hg]; exact (below_size (bel_)) : w.heap.size ≤ gb404)); clear HB; have HB := n0_; have BK404 := n1_; have GW404 := n2_; have GE404 := n3_; clear n0_ n1_ n2_ n3_; clear hb hbox hg; obtain ⟨hcz6_0, hcz6_1, hcz6_2, hcz6_3, hcz6_4, hcz6_5, hcz6_6, hfz6_0, hfz6_1, hfz6_2, hfz6_3, hfz6_4, hfz6_5, hfz6_6⟩ := op7_ BK404.out) | ((with_reducible refine gate_callee (f := 104) rfl ?_); refine gl_ 7 Tryd.func104 #[.int .i64 a0_0] ?_; (with_reducible refine (impl_whoOk.calls a0_0 true _ A2.out).mono ?_); rintro e w' ⟨rfl, ⟨nd, rfl⟩⟩; refine ⟨_, rfl, ?_⟩))
   go_ret
   exact ⟨fi_, bel_⟩
  ·rw [if_neg c4] at H
   have c4b0 : decide (a0_1 < 1) = false := decide_eq_false c4
   clear c4
   by_cases c7 : a0_1 > 40
   ·rw [if_pos c7] at H
    have c7b0 : decide (40 < a0_1) = true := decide_eq_true c7
    clear c7
    obtain rfl := Option.some.inj H
    go_enter Tryd.func78, Tryd.ntmps78
    go_wp2_with (first | ((with_reducible refine gate_dst (N := 1) rfl ?_); refine bx_ 1 (#[.int .i64 a0_0, .int .i64 a0_1, .int .i64 a0_2, .int .i64 a0_3, .int .i64 a0_4, .int .i64 a0_5, .string a0_6]) 44 ?_; intro gb404 hg w8 hbox hb; have n0_ := Aside0.mk (below_step (bel_) hb); have n1_ := Aside0.mk (hbox); have n2_ := Aside0.mk ((by rw [hg]; exact (below_size (bel_)) : w.heap.size ≤ gb404)); have n3_ := Aside0.mk ((by rw [hg]; exact (below_size (bel_)) : w.heap.size ≤ gb404)); clear HB; have HB := n0_; have BK404 := n1_; have GW404 := n2_; have GE404 := n3_; clear n0_ n1_ n2_ n3_; clear hb hbox hg; obtain ⟨hcz9_0, hcz9_1, hcz9_2, hcz9_3, hcz9_4, hcz9_5, hcz9_6, hfz9_0, hfz9_1, hfz9_2, hfz9_3, hfz9_4, hfz9_5, hfz9_6⟩ := op7_ BK404.out) | ((with_reducible refine gate_callee (f := 104) rfl ?_); refine gl_ 7 Tryd.func104 #[.int .i64 a0_0] ?_; (with_reducible refine (impl_whoOk.calls a0_0 true _ A2.out).mono ?_); rintro e w' ⟨rfl, ⟨nd, rfl⟩⟩; refine ⟨_, rfl, ?_⟩))
    go_ret
    exact ⟨fi_, bel_⟩
   ·rw [if_neg c7] at H
    have c7b0 : decide (40 < a0_1) = false := decide_eq_false c7
    clear c7
    replace H := Option.bind_eq_some_iff.mp H
    obtain ⟨t406, A100, H⟩ := H
    try dsimp only at H
    have A10 := Aside0.mk A100
    clear A100
    by_cases c11 : t406 = true
    ·subst c11
     have H1 : ((impl_RowWho.f a0_3).bind fun bt407 => (if a0_2 = 1 then (some (bt407.1 == a0_0)) else (some true))) = some r := by rw [if_pos rfl] at H; exact H
     clear H
     have H := H1
     clear H1
     replace H := Option.bind_eq_some_iff.mp H
     obtain ⟨⟨t407, t408⟩, A120, H⟩ := H
     try dsimp only at H
     have A12 := Aside0.mk A120
     clear A120
     by_cases c13 : a0_2 = 1
     ·rw [if_pos c13] at H
      have c13b0 : (a0_2 == 1) = true := beq_iff_eq.mpr c13
      have c13b1 : (a0_2 != 1) = false := bne_eq_false_iff_eq.mpr c13
      clear c13
      obtain rfl := Option.some.inj H
      go_enter Tryd.func78, Tryd.ntmps78
      go_wp2_with (first | ((with_reducible refine gate_dst (N := 1) rfl ?_); refine bx_ 1 (#[.int .i64 a0_0, .int .i64 a0_1, .int .i64 a0_2, .int .i64 a0_3, .int .i64 a0_4, .int .i64 a0_5, .string a0_6]) 44 ?_; intro gb404 hg w14 hbox hb; have n0_ := Aside0.mk (below_step (bel_) hb); have n1_ := Aside0.mk (hbox); have n2_ := Aside0.mk ((by rw [hg]; exact (below_size (bel_)) : w.heap.size ≤ gb404)); have n3_ := Aside0.mk ((by rw [hg]; exact (below_size (bel_)) : w.heap.size ≤ gb404)); clear HB; have HB := n0_; have BK404 := n1_; have GW404 := n2_; have GE404 := n3_; clear n0_ n1_ n2_ n3_; clear hb hbox hg; obtain ⟨hcz15_0, hcz15_1, hcz15_2, hcz15_3, hcz15_4, hcz15_5, hcz15_6, hfz15_0, hfz15_1, hfz15_2, hfz15_3, hfz15_4, hfz15_5, hfz15_6⟩ := op7_ BK404.out) | ((with_reducible refine gate_callee (f := 104) rfl ?_); refine gl_ 7 Tryd.func104 #[.int .i64 a0_0] ?_; (with_reducible refine (impl_whoOk.calls a0_0 true _ A2.out).mono ?_); rintro e w' ⟨rfl, ⟨nd, rfl⟩⟩; refine ⟨_, rfl, ?_⟩) | (go_at_call 116; (with_reducible refine (impl_OpOk.calls k a0_2 a0_3 a0_4 a0_5 a0_6 true _ A10.out ?side1).mono ?_); (case side1 => exact Glob.below HG.out (bel_)); rintro e w16 ⟨rfl, hb⟩; replace HB := Aside0.mk (below_step (bel_) hb); replace BK404 := Aside0.mk (bb_ BK404.out hb); (try clear hb); obtain ⟨hcz17_0, hcz17_1, hcz17_2, hcz17_3, hcz17_4, hcz17_5, hcz17_6, hfz17_0, hfz17_1, hfz17_2, hfz17_3, hfz17_4, hfz17_5, hfz17_6⟩ := op7_ BK404.out) | ((with_reducible refine gate_callee (f := 117) rfl ?_); refine gl_ 29 Tryd.func117 #[.int .i64 a0_3] ?_; (with_reducible refine (impl_RowWho.calls a0_3 t407 t408 _ A12.out ?side1).mono ?_); (case side1 => exact Glob.below HG.out (bel_)); rintro e w' ⟨rfl, ⟨nd, rfl⟩⟩; refine ⟨_, rfl, ?_⟩))
      go_ret
      exact ⟨fi_, bel_⟩
     ·rw [if_neg c13] at H
      have c13b0 : (a0_2 == 1) = false := beq_eq_false_iff_ne.mpr c13
      have c13b1 : (a0_2 != 1) = true := bne_iff_ne.mpr c13
      obtain rfl := Option.some.inj H
      go_enter Tryd.func78, Tryd.ntmps78
      go_wp2_with (first | ((with_reducible refine gate_dst (N := 1) rfl ?_); refine bx_ 1 (#[.int .i64 a0_0, .int .i64 a0_1, .int .i64 a0_2, .int .i64 a0_3, .int .i64 a0_4, .int .i64 a0_5, .string a0_6]) 44 ?_; intro gb404 hg w18 hbox hb; have n0_ := Aside0.mk (below_step (bel_) hb); have n1_ := Aside0.mk (hbox); have n2_ := Aside0.mk ((by rw [hg]; exact (below_size (bel_)) : w.heap.size ≤ gb404)); have n3_ := Aside0.mk ((by rw [hg]; exact (below_size (bel_)) : w.heap.size ≤ gb404)); clear HB; have HB := n0_; have BK404 := n1_; have GW404 := n2_; have GE404 := n3_; clear n0_ n1_ n2_ n3_; clear hb hbox hg; obtain ⟨hcz19_0, hcz19_1, hcz19_2, hcz19_3, hcz19_4, hcz19_5, hcz19_6, hfz19_0, hfz19_1, hfz19_2, hfz19_3, hfz19_4, hfz19_5, hfz19_6⟩ := op7_ BK404.out) | ((with_reducible refine gate_callee (f := 104) rfl ?_); refine gl_ 7 Tryd.func104 #[.int .i64 a0_0] ?_; (with_reducible refine (impl_whoOk.calls a0_0 true _ A2.out).mono ?_); rintro e w' ⟨rfl, ⟨nd, rfl⟩⟩; refine ⟨_, rfl, ?_⟩) | (go_at_call 116; (with_reducible refine (impl_OpOk.calls k a0_2 a0_3 a0_4 a0_5 a0_6 true _ A10.out ?side1).mono ?_); (case side1 => exact Glob.below HG.out (bel_)); rintro e w20 ⟨rfl, hb⟩; replace HB := Aside0.mk (below_step (bel_) hb); replace BK404 := Aside0.mk (bb_ BK404.out hb); (try clear hb); obtain ⟨hcz21_0, hcz21_1, hcz21_2, hcz21_3, hcz21_4, hcz21_5, hcz21_6, hfz21_0, hfz21_1, hfz21_2, hfz21_3, hfz21_4, hfz21_5, hfz21_6⟩ := op7_ BK404.out) | ((with_reducible refine gate_callee (f := 117) rfl ?_); refine gl_ 29 Tryd.func117 #[.int .i64 a0_3] ?_; (with_reducible refine (impl_RowWho.calls a0_3 t407 t408 _ A12.out ?side1).mono ?_); (case side1 => exact Glob.below HG.out (bel_)); rintro e w' ⟨rfl, ⟨nd, rfl⟩⟩; refine ⟨_, rfl, ?_⟩))
      go_ret
      exact ⟨fi_, bel_⟩
    ·replace c11 := Bool.eq_false_iff.mpr c11
     subst c11
     have H1 : (some false) = some r := by rw [if_neg (show ¬ (false = true) by decide)] at H; exact H
     clear H
     have H := H1
     clear H1
     obtain rfl := Option.some.inj H
     go_enter Tryd.func78, Tryd.ntmps78
     go_wp2_with (first | ((with_reducible refine gate_dst (N := 1) rfl ?_); refine bx_ 1 (#[.int .i64 a0_0, .int .i64 a0_1, .int .i64 a0_2, .int .i64 a0_3, .int .i64 a0_4, .int .i64 a0_5, .string a0_6]) 44 ?_; intro gb404 hg w22 hbox hb; have n0_ := Aside0.mk (below_step (bel_) hb); have n1_ := Aside0.mk (hbox); have n2_ := Aside0.mk ((by rw [hg]; exact (below_size (bel_)) : w.heap.size ≤ gb404)); have n3_ := Aside0.mk ((by rw [hg]; exact (below_size (bel_)) : w.heap.size ≤ gb404)); clear HB; have HB := n0_; have BK404 := n1_; have GW404 := n2_; have GE404 := n3_; clear n0_ n1_ n2_ n3_; clear hb hbox hg; obtain ⟨hcz23_0, hcz23_1, hcz23_2, hcz23_3, hcz23_4, hcz23_5, hcz23_6, hfz23_0, hfz23_1, hfz23_2, hfz23_3, hfz23_4, hfz23_5, hfz23_6⟩ := op7_ BK404.out) | ((with_reducible refine gate_callee (f := 104) rfl ?_); refine gl_ 7 Tryd.func104 #[.int .i64 a0_0] ?_; (with_reducible refine (impl_whoOk.calls a0_0 true _ A2.out).mono ?_); rintro e w' ⟨rfl, ⟨nd, rfl⟩⟩; refine ⟨_, rfl, ?_⟩) | (go_at_call 116; (with_reducible refine (impl_OpOk.calls k a0_2 a0_3 a0_4 a0_5 a0_6 false _ A10.out ?side1).mono ?_); (case side1 => exact Glob.below HG.out (bel_)); rintro e w24 ⟨rfl, hb⟩; replace HB := Aside0.mk (below_step (bel_) hb); replace BK404 := Aside0.mk (bb_ BK404.out hb); (try clear hb)))
     go_ret
     exact ⟨fi_, bel_⟩
 ·replace c3 := Bool.eq_false_iff.mpr c3
  subst c3
  have H1 : (some false) = some r := by rw [if_neg (show ¬ (false = true) by decide)] at H; exact H
  clear H
  have H := H1
  clear H1
  obtain rfl := Option.some.inj H
  go_enter Tryd.func78, Tryd.ntmps78
  go_wp2_with (first | ((with_reducible refine gate_dst (N := 1) rfl ?_); refine bx_ 1 (#[.int .i64 a0_0, .int .i64 a0_1, .int .i64 a0_2, .int .i64 a0_3, .int .i64 a0_4, .int .i64 a0_5, .string a0_6]) 44 ?_; intro gb404 hg w25 hbox hb; have n0_ := Aside0.mk (below_step (bel_) hb); have n1_ := Aside0.mk (hbox); have n2_ := Aside0.mk ((by rw [hg]; exact (below_size (bel_)) : w.heap.size ≤ gb404)); have n3_ := Aside0.mk ((by rw [hg]; exact (below_size (bel_)) : w.heap.size ≤ gb404)); clear HB; have HB := n0_; have BK404 := n1_; have GW404 := n2_; have GE404 := n3_; clear n0_ n1_ n2_ n3_; clear hb hbox hg; obtain ⟨hcz26_0, hcz26_1, hcz26_2, hcz26_3, hcz26_4, hcz26_5, hcz26_6, hfz26_0, hfz26_1, hfz26_2, hfz26_3, hfz26_4, hfz26_5, hfz26_6⟩ := op7_ BK404.out) | ((with_reducible refine gate_callee (f := 104) rfl ?_); refine gl_ 7 Tryd.func104 #[.int .i64 a0_0] ?_; (with_reducible refine (impl_whoOk.calls a0_0 false _ A2.out).mono ?_); rintro e w' ⟨rfl, ⟨nd, rfl⟩⟩; refine ⟨_, rfl, ?_⟩))
  go_ret
  exact ⟨fi_, bel_⟩


end Go.Proofs.YtdpklbomhdpimaaDoor.P
namespace Go.Proofs.YtdpklbomhdpimaaDoor.P
open Go.RowKit Go.Maps Go.Proofs.YtdpklbomhdpimaaDoorW.PrintWords Go.Proofs.YtdpklbomhdpimaaDoorW.PrintLast Go.Proofs.YtdpklbomhdpimaaDoorW.PrintMore
theorem wf_small (x : Int) (h : -1000000 ≤ x ∧ x ≤ 1000000) : (Lit.int .i64 x).wf = true := by
 have e : wrap64 x = x := by unfold wrap64; omega
 rw [← e]
 exact wrap64_wf _
theorem keyI : Keyed Tryd.prog 3 := int_keyed Tryd.underlying3
theorem zeroI (w : World) : (zeroValue 3).run Tryd.prog w = .ok (.int .i64 0) w := by kernel_rfl
def CntMap (w : World) (b : Nat) (c : Int → Int) (n : Nat) : Prop :=
 ∃ D : DataW Unit, w.ownsMap Tryd.prog 3 (plainElem Tryd.prog 3) b n D ∧ ∀ x, D.atKey (.int .i64 x) (.lit (.int .i64 0)) = .lit (.int .i64 (c x))
def upd (c : Int → Int) (x : Int) : Int → Int := fun y => if y = x then c x + 1 else c y
theorem CntMap.alloc {w : World} {b : Nat} {c : Int → Int} {n : Nat} (h : CntMap w b c n) (o : Obj) : CntMap (w.alloc o) b c n := by
 obtain ⟨D, h1, h2⟩ := h
 exact ⟨D, h1.alloc o, h2⟩
theorem CntMap.drew {w : World} {b : Nat} {c : Int → Int} {n : Nat} (h : CntMap w b c n) : CntMap w.drew b c n := by
 obtain ⟨D, h1, h2⟩ := h
 exact ⟨D, h1.drew, h2⟩
theorem CntMap.grown {w w' : World} {b : Nat} {c : Int → Int} {n : Nat} {row : Option Nat} (h : CntMap w b c n) (hg : w.grownBy w' row) (hne : some b ≠ row) : CntMap w' b c n := by
 obtain ⟨D, h1, h2⟩ := h
 exact ⟨D, h1.kept hg hne, h2⟩
theorem CntMap.below {w w' : World} {b : Nat} {c : Int → Int} {n : Nat} (h : CntMap w b c n) (hb : Below w.heap.size w w') : CntMap w' b c n := by
 obtain ⟨D, h1, h2⟩ := h
 refine ⟨D, ?_, h2⟩
 have hl := h1.lt
 obtain ⟨es, clock, e1, e2, e3, e4⟩ := h1
 exact ⟨es, clock, (hb.block b hl).trans e1, e2, e3, e4⟩
def AddPost (w : World) (b : Nat) (c : Int → Int) (x : Int) (n : Nat) (e : Ending) (w' : World) : Prop := e = .returned (.int .i64 (c x + 1)) ∧ CntMap w' b (upd c x) (n + 1) ∧ w.grownBy w' (some b)
set_option maxHeartbeats 1000000 in
set_option maxRecDepth 100000 in
theorem add_any (b : Nat) (c : Int → Int) (x : Int) (n : Nat) (w : World) (hx : 0 ≤ x ∧ x ≤ 4) (hc : 0 ≤ c x ∧ c x ≤ 1000) (hn : n ≤ 1000) (hM : CntMap w b c n) :
  Calls Tryd.prog 87 #[.map (some b), .int .i64 x] w (AddPost w b c x n) := by
 obtain ⟨D, hown, hat⟩ := hM
 have hkey : keyOf Tryd.prog 3 (.int .i64 x) = some (.int .i64 x) := keyOf_int_mk Tryd.underlying3 (wf_small x (by omega))
 have HAT := Aside0.mk (hat x)
 have HATS := Aside0.mk hat
 clear hat
 have hwf : (Lit.int .i64 (c x + 1)).wf = true := wf_small _ (by omega)
 have HC := Aside0.mk hc
 clear hc
 go_enter Tryd.func87, Tryd.ntmps87
 go_wp2_with (first
  | (at_lookup; refine wpList_lookup_own_int _ rfl (.tmp 5) (.tmp 6) 114 rfl 3 3 .i64 keyI Tryd.underlying114 Tryd.underlying3 (zeroI _) b n D rfl hown _ _ rfl hkey ?_; intro z hz hwz; have ez : z = c x := (by have := HAT.out.symm.trans hz; injection this with this; injection this with _ this; exact this.symm); subst ez; clear hz hwz; have hcb := HC.out)
  | (at_mapUpdate; refine wpList_mapUpdate_own _ rfl _ _ _ 114 rfl 3 3 keyI Tryd.underlying114 _ b n D rfl hown (by unfold maxLen; omega) _ _ _ rfl rfl hkey _ [] (plainElem_int Tryd.underlying3 hwf) ?_; intro w1 hown1 hgrow1; have HG1 := Aside0.mk hgrow1; clear hgrow1; have HAT1 := Aside0.mk (atKey_put_same hown.isMap (k := .int .i64 x) trivial (.lit (.int .i64 (c x + 1))) (.lit (.int .i64 0))))
  | (at_lookup; refine wpList_lookup_own_int _ rfl (.tmp 9) (.tmp 10) 114 rfl 3 3 .i64 keyI Tryd.underlying114 Tryd.underlying3 (zeroI _) b (n + 1) _ rfl hown1 _ _ rfl hkey ?_; intro z hz hwz; have ez : z = c x + 1 := (by have := HAT1.out.symm.trans hz; injection this with this; injection this with _ this; exact this.symm); subst ez; clear hz hwz))
 go_ret
 refine ⟨rfl, ⟨_, hown1, fun y => ?_⟩, HG1.out⟩
 unfold upd
 by_cases hy : y = x
 ·rw [if_pos hy, hy]
  exact HAT1.out
 ·rw [if_neg hy, atKey_put_other (by intro e; injection e with _ e; exact hy e), HATS.out]
def cntE (l : List S44) (who : Int) : Int := (l.countP fun e => e.f0 == who : Nat)
theorem cntE_snoc (l : List S44) (e : S44) : cntE (l ++ [e]) = upd (cntE l) e.f0 := by
 funext y
 unfold cntE upd
 rw [List.countP_append]
 by_cases h : y = e.f0
 ·subst h
  simp
 ·have h' : (e.f0 == y) = false := beq_eq_false_iff_ne.2 (fun q => h q.symm)
  rw [if_neg h]
  simp [h']
theorem cntE_le (l : List S44) (who : Int) : 0 ≤ cntE l who ∧ cntE l who ≤ l.length := by
 unfold cntE
 have := List.countP_le_length (p := fun e : S44 => e.f0 == who) (l := l)
 omega
def impl_LogOk.go (k : Nat) : List S44 → List S44 → Option Bool
 | _, [] => some true
 | pre, e :: rest => (impl_EntryOk.f k e.f0 e.f1 e.f2.f0 e.f2.f1 e.f2.f2 e.f2.f3 e.f2.f4).bind fun t =>
   if t = true then (if cntE pre e.f0 + 1 = e.f1 then impl_LogOk.go k (pre ++ [e]) rest else some false) else some false
def impl_LogOk.f (k : Nat) (l0 : List S44) : Option Bool := if (l0.length : Int) > 40 then some false else impl_LogOk.go k [] l0
theorem impl_LogOk.mono_go (k : Nat) : ∀ (rest pre : List S44), LeO (impl_LogOk.go k pre rest) (impl_LogOk.go (k + 1) pre rest)
 | [], _ => LeO.refl _
 | e :: rest, pre => by
  unfold impl_LogOk.go
  exact LeO.bind (impl_EntryOk.mono _ _ _ _ _ _ _ _) (fun _ => LeO.ite (LeO.ite (impl_LogOk.mono_go k rest _) (LeO.refl _)) (LeO.refl _))
theorem impl_LogOk.mono (l0 : List S44) (k : Nat) : LeO (impl_LogOk.f k l0) (impl_LogOk.f (k + 1) l0) := by
 unfold impl_LogOk.f
 exact LeO.ite (LeO.refl _) (impl_LogOk.mono_go k _ _)
theorem entry_who {k : Nat} {a0 a1 a2 a3 a4 a5 : Int} {a6 : ByteArray} (h : impl_EntryOk.f k a0 a1 a2 a3 a4 a5 a6 = some true) : 1 ≤ a0 ∧ a0 ≤ 3 := by
 unfold impl_EntryOk.f at h
 obtain ⟨t, ht, h⟩ := Option.bind_eq_some_iff.1 h
 cases t with
 | false => simp at h
 | true =>
  unfold impl_whoOk.f at ht
  by_cases h1 : a0 ≥ 1
  ·rw [if_pos h1] at ht
   exact ⟨h1, of_decide_eq_true (Option.some.inj ht)⟩
  ·rw [if_neg h1] at ht
   cases ht
def LogRel (k : Nat) (l0 : List S44) (r : Bool) (w : World) (i : Value) (wr : World) : Prop :=
 ∃ j : Int, 0 ≤ j ∧ j ≤ l0.length ∧ i = .int .i64 j ∧ impl_LogOk.go k (l0.take j.toNat) (l0.drop j.toNat) = some r ∧ CntMap wr w.heap.size (cntE (l0.take j.toNat)) j.toNat ∧ Below w.heap.size w wr
set_option maxHeartbeats 4000000 in
set_option maxRecDepth 100000 in
theorem impl_LogOk.calls (k : Nat) (A0 : Option Addr) (c0 : Nat) (l0 : List S44) (r : Bool) (w : World) (hr0 : Kd.C k44 w A0 l0.length l0) (hc0 : l0.length ≤ c0) (h : impl_LogOk.f k l0 = some r) (hG : Glob w) :
  Calls Tryd.prog 42 #[.slice A0 l0.length c0] w fun e w' => e = .returned (.bool r) ∧ Below w.heap.size w w' := by
 have HR0 := Aside0.mk hr0
 have HG := Aside0.mk hG
 clear hr0 hG
 unfold impl_LogOk.f at h
 have hmm := @run_makeMap Tryd.prog
 by_cases h40 : (l0.length : Int) > 40
 ·rw [if_pos h40] at h
  obtain rfl := Option.some.inj h
  clear h hmm
  have hd : decide (40 < l0.length) = true := decide_eq_true (by omega)
  go_enter Tryd.func42, Tryd.ntmps42
  go_wp2
  go_ret
  exact ⟨rfl, Below.refl _ _⟩
 ·rw [if_neg h40] at h
  have HH := Aside0.mk h
  clear h
  have hd : decide (40 < l0.length) = false := decide_eq_false (by omega)
  have hlen : l0.length ≤ 40 := by omega
  go_enter Tryd.func42, Tryd.ntmps42
  go_wp2
  have hM0 : CntMap (w.alloc (.map #[] 0)) w.heap.size (cntE []) 0 := ⟨.map [], World.ownsMap_made _ _ _ _, fun x => rfl⟩
  have HM0 := Aside0.mk hM0
  clear hM0
  go_loopw [12] (fun i wr => LogRel k l0 r w i wr) (fun i _ => l0.length - (intOf i).toNat)
  case atStart => exact ⟨0, Int.le_refl _, by omega, rfl, HH.out, HM0.out, below_box0 w _⟩
  case round =>
   obtain ⟨j, hj0, hj, rfl, hgo, hM, hB⟩ := hrel
   have HM := Aside0.mk hM
   have HB := Aside0.mk hB
   have HGO := Aside0.mk hgo
   clear hM hB hgo HH HM0
   by_cases hlt : j < l0.length
   ·have hd1 : decide (j < (l0.length : Int)) = true := decide_eq_true hlt
    obtain ⟨ad, e, hx0, hx1, hx2, hx3, hx4, hx5, hx6⟩ := at_T44 HR0.out j hj0 hlt
    cases e
    replace hx0 := (cb_ HB.out hx0 :)
    replace hx1 := (cb_ HB.out hx1 :)
    replace hx2 := (cb_ HB.out hx2 :)
    replace hx3 := (cb_ HB.out hx3 :)
    replace hx4 := (cb_ HB.out hx4 :)
    replace hx5 := (cb_ HB.out hx5 :)
    replace hx6 := (cb_ HB.out hx6 :)
    have hu := Tryd.underlying44
    have hxe : rd_T44 l0 j = l0[j.toNat]'(by omega) := by
     unfold rd_T44
     rw [List.getD_eq_getElem?_getD, List.getElem?_eq_getElem (by omega)]
     rfl
    have htd := List.drop_eq_getElem_cons (l := l0) (i := j.toNat) (by omega)
    have htk := List.take_succ_eq_append_getElem (l := l0) (i := j.toNat) (by omega)
    rw [← hxe] at htd htk
    have hgo := HGO.out
    rw [htd] at hgo
    clear HGO hxe
    generalize rd_T44 l0 j = x at hx0 hx1 hx2 hx3 hx4 hx5 hx6 htd htk hgo
    rw [show j.toNat + 1 = (j + 1).toNat by omega] at htd htk hgo
    unfold impl_LogOk.go at hgo
    have hjb : j ≤ 40 := by omega
    have p1 := eq_true hj0
    have q1 := eq_true hlt
    have hM1 := HM.out.alloc (.cells #[.int .i64 x.f0, .int .i64 x.f1, .int .i64 x.f2.f0, .int .i64 x.f2.f1, .int .i64 x.f2.f2, .int .i64 x.f2.f3, .string x.f2.f4] 44)
    have hcn := cntE_le (l0.take j.toNat) x.f0
    have hcl : (l0.take j.toNat).length ≤ 40 := by rw [List.length_take]; omega
    have hsn := cntE_snoc (l0.take j.toNat) x
    rw [← htk] at hsn
    rw [← htk] at hgo
    have HM1 := Aside0.mk hM1
    have HSN := Aside0.mk hsn
    have HGO := Aside0.mk hgo
    have HTD := Aside0.mk htd
    have HCN := Aside0.mk hcn
    have HCL := Aside0.mk hcl
    have HJN := Aside0.mk (show j.toNat ≤ 1000 ∧ 0 ≤ j ∧ j < l0.length from ⟨by omega, hj0, hlt⟩)
    have HB0 := HB
    have HL := Aside0.mk (show w.heap.size < wr.heap.size from by obtain ⟨D, h1, _⟩ := HM.out; exact h1.lt)
    have HB1 := Aside0.mk (below_alloc HB.out (.cells #[.int .i64 x.f0, .int .i64 x.f1, .int .i64 x.f2.f0, .int .i64 x.f2.f1, .int .i64 x.f2.f2, .int .i64 x.f2.f3, .string x.f2.f4] 44))
    clear hj0 hlt hM1 hcn hcl htd htk hsn hgo HM HB
    go_wp2
    have hwr : w.heap.size ≤ wr.heap.size ∧ w.heap.size < wr.heap.size := by
     obtain ⟨D, h1, _⟩ := HM1.out
     have h2 := HB0.out.size
     exact ⟨h2, HL.out⟩
    have HW := Aside0.mk hwr
    clear hwr
    obtain ⟨W1, hW1⟩ : ∃ W1, W1 = wr.alloc (.cells #[.int .i64 x.f0, .int .i64 x.f1, .int .i64 x.f2.f0, .int .i64 x.f2.f1, .int .i64 x.f2.f2, .int .i64 x.f2.f3, .string x.f2.f4] 44) := ⟨_, rfl⟩
    have hn0 : W1.heap[wr.heap.size]? = some (.cells #[.int .i64 x.f0, .int .i64 x.f1, .int .i64 x.f2.f0, .int .i64 x.f2.f1, .int .i64 x.f2.f2, .int .i64 x.f2.f3, .string x.f2.f4] 44 (0, 0)) := by rw [hW1]; simpa using heap_alloc_new wr _
    have HN0 := Aside0.mk hn0
    rw [← hW1] at HM1 HB1 ⊢
    clear hW1 hx0 hx1 hx2 hx3 hx4 hx5 hx6 hn0
    generalize wr.heap.size = g at HN0 HW ⊢
    have hc0 : W1.cell? ⟨g, 0, none⟩ = some (.int .i64 x.f0) := (blk_cell HN0.out 0).trans rfl
    have hc1 : W1.cell? ⟨g, 1, none⟩ = some (.int .i64 x.f1) := (blk_cell HN0.out 1).trans rfl
    have hc2 : W1.cell? ⟨g, 2, none⟩ = some (.int .i64 x.f2.f0) := (blk_cell HN0.out 2).trans rfl
    have hc3 : W1.cell? ⟨g, 3, none⟩ = some (.int .i64 x.f2.f1) := (blk_cell HN0.out 3).trans rfl
    have hc4 : W1.cell? ⟨g, 4, none⟩ = some (.int .i64 x.f2.f2) := (blk_cell HN0.out 4).trans rfl
    have hc5 : W1.cell? ⟨g, 5, none⟩ = some (.int .i64 x.f2.f3) := (blk_cell HN0.out 5).trans rfl
    have hc6 : W1.cell? ⟨g, 6, none⟩ = some (.string x.f2.f4) := (blk_cell HN0.out 6).trans rfl
    have hgo := HGO.out
    clear HGO
    obtain ⟨t, ht, hgo⟩ := Option.bind_eq_some_iff.1 hgo
    have HT := Aside0.mk ht
    clear ht
    have HBd := Aside0.mk (below_drew1 HB1.out)
    have HGd := Aside0.mk (HG.out.below HBd.out)
    have HMd := Aside0.mk HM1.out.drew
    have HNd := Aside0.mk (blk_drew HN0.out)
    have hwho := fun (e : t = true) => entry_who (k := k) (e ▸ HT.out)
    clear HB1 HM1 HN0
    cases t with
    | false =>
     simp only [Bool.false_eq_true, if_false, Option.some.injEq] at hgo
     subst hgo
     clear hwho
     refine start_ (n := 12) (S := fun w' => w'.cell? ⟨g, 0, none⟩ = some (.int .i64 x.f0) ∧ w'.cell? ⟨g, 1, none⟩ = some (.int .i64 x.f1) ∧ w'.cell? ⟨g, 2, none⟩ = some (.int .i64 x.f2.f0) ∧ w'.cell? ⟨g, 3, none⟩ = some (.int .i64 x.f2.f1) ∧ w'.cell? ⟨g, 4, none⟩ = some (.int .i64 x.f2.f2) ∧ w'.cell? ⟨g, 5, none⟩ = some (.int .i64 x.f2.f3) ∧ w'.cell? ⟨g, 6, none⟩ = some (.string x.f2.f4)) (ds := []) #[false, false, false, false, false, false, false, false, false, false, false, false] (by kernel_rfl) rfl rfl ⟨(blk_cell HNd.out 0).trans rfl, (blk_cell HNd.out 1).trans rfl, (blk_cell HNd.out 2).trans rfl, (blk_cell HNd.out 3).trans rfl, (blk_cell HNd.out 4).trans rfl, (blk_cell HNd.out 5).trans rfl, (blk_cell HNd.out 6).trans rfl⟩ (fun hHeld => ?_)
     refine take_ (i := 0) (N := some 16) (v := ?_) (a' := ?_) #[true, false, false, false, false, false, false, false, false, false, false, false] rfl rfl (by kernel_rfl) (fun _ _ _ h => h) (Or.inl ⟨by rfl, ?_⟩) hHeld ?_ ?_
     rotate_left
     ·rintro w' ⟨s0, s1, s2, s3, s4, s5, s6⟩
      go_simp
      with_reducible rfl
     rotate_left
     ·simp only [Act.put, List.setIfInBounds_toArray, List.set_cons_zero, List.set_cons_succ, i64_w, i32_w]
      rfl
     refine one_ (i := 1) (N := some 17) #[true, true, false, false, false, false, false, false, false, false, false, false] rfl rfl (by kernel_rfl) (by decide) (fun K hK => ?_)
     refine goes_ Tryd.func78 (by kernel_rfl) rfl #[.agg #[.int .i64 x.f0, .int .i64 x.f1, .int .i64 x.f2.f0, .int .i64 x.f2.f1, .int .i64 x.f2.f2, .int .i64 x.f2.f3, .string x.f2.f4]] (by rfl) rfl rfl (by (try simp only [List.map_toArray, List.map_cons, List.map_nil]); first | done | rfl) ?_
     with_reducible refine (impl_EntryOk.calls k x.f0 x.f1 x.f2.f0 x.f2.f1 x.f2.f2 x.f2.f3 x.f2.f4 false _ HT.out HGd.out).mono ?_
     rintro e w2 ⟨rfl, hb⟩
     refine ⟨_, rfl, ?_⟩
     have HB2 := Aside0.mk (below_step HBd.out hb)
     have HN2 := Aside0.mk (blk_below HNd.out hb)
     clear hb
     refine hK.out _ _ ⟨(blk_cell HN2.out 0).trans rfl, (blk_cell HN2.out 1).trans rfl, (blk_cell HN2.out 2).trans rfl, (blk_cell HN2.out 3).trans rfl, (blk_cell HN2.out 4).trans rfl, (blk_cell HN2.out 5).trans rfl, (blk_cell HN2.out 6).trans rfl⟩ (fun hHeld2 => ?_)
     clear hK K
     refine no_ 17 ?_
     refine pure_ (i := 2) (N := some 18) (v := ?_) (a' := ?_) #[true, true, true, false, false, false, false, false, false, false, false, false] rfl rfl (by kernel_rfl) (fun _ _ _ h => h) (Or.inl ⟨by rfl, ?_⟩) ?_ ?_
     rotate_left
     ·intro w'
      go_simp
      with_reducible rfl
     rotate_left
     ·simp only [Act.put, List.setIfInBounds_toArray, List.set_cons_zero, List.set_cons_succ, i64_w, i32_w]
      rfl
     refine pure_ (i := 3) (N := some 19) (v := ?_) (a' := ?_) #[true, true, true, true, false, false, false, false, false, false, false, false] rfl rfl (by kernel_rfl) (fun _ _ _ h => h) (Or.inl ⟨by rfl, ?_⟩) ?_ ?_
     rotate_left
     ·intro w'
      go_simp
      with_reducible rfl
     rotate_left
     ·simp only [Act.put, List.setIfInBounds_toArray, List.set_cons_zero, List.set_cons_succ, i64_w, i32_w]
      rfl
     refine pure_ (i := 4) (N := some 20) (v := undef) (a' := ?_) #[true, true, true, true, true, false, false, false, false, false, false, false] rfl rfl (by kernel_rfl) (fun _ _ _ h => h) (Or.inr ⟨by rfl, rfl⟩) ?_ ?_
     rotate_left
     ·simp only [Act.put, List.setIfInBounds_toArray, List.set_cons_zero, List.set_cons_succ, i64_w, i32_w]
      rfl
     refine pure_ (i := 5) (N := some 21) (v := undef) (a' := ?_) #[true, true, true, true, true, true, false, false, false, false, false, false] rfl rfl (by kernel_rfl) (fun _ _ _ h => h) (Or.inr ⟨by rfl, rfl⟩) ?_ ?_
     rotate_left
     ·simp only [Act.put, List.setIfInBounds_toArray, List.set_cons_zero, List.set_cons_succ, i64_w, i32_w]
      rfl
     refine pure_ (i := 6) (N := some 22) (v := undef) (a' := ?_) #[true, true, true, true, true, true, true, false, false, false, false, false] rfl rfl (by kernel_rfl) (fun _ _ _ h => h) (Or.inr ⟨by rfl, rfl⟩) ?_ ?_
     rotate_left
     ·simp only [Act.put, List.setIfInBounds_toArray, List.set_cons_zero, List.set_cons_succ, i64_w, i32_w]
      rfl
     refine pure_ (i := 7) (N := some 23) (v := undef) (a' := ?_) #[true, true, true, true, true, true, true, true, false, false, false, false] rfl rfl (by kernel_rfl) (fun _ _ _ h => h) (Or.inr ⟨by rfl, rfl⟩) ?_ ?_
     rotate_left
     ·simp only [Act.put, List.setIfInBounds_toArray, List.set_cons_zero, List.set_cons_succ, i64_w, i32_w]
      rfl
     refine pure_ (i := 8) (N := some 24) (v := undef) (a' := ?_) #[true, true, true, true, true, true, true, true, true, false, false, false] rfl rfl (by kernel_rfl) (fun _ _ _ h => h) (Or.inr ⟨by rfl, rfl⟩) ?_ ?_
     rotate_left
     ·simp only [Act.put, List.setIfInBounds_toArray, List.set_cons_zero, List.set_cons_succ, i64_w, i32_w]
      rfl
     refine pure_ (i := 9) (N := some 25) (v := undef) (a' := ?_) #[true, true, true, true, true, true, true, true, true, true, false, false] rfl rfl (by kernel_rfl) (fun _ _ _ h => h) (Or.inr ⟨by rfl, rfl⟩) ?_ ?_
     rotate_left
     ·simp only [Act.put, List.setIfInBounds_toArray, List.set_cons_zero, List.set_cons_succ, i64_w, i32_w]
      rfl
     refine pure_ (i := 10) (N := some 26) (v := undef) (a' := ?_) #[true, true, true, true, true, true, true, true, true, true, true, false] rfl rfl (by kernel_rfl) (fun _ _ _ h => h) (Or.inr ⟨by rfl, rfl⟩) ?_ ?_
     rotate_left
     ·simp only [Act.put, List.setIfInBounds_toArray, List.set_cons_zero, List.set_cons_succ, i64_w, i32_w]
      rfl
     refine pure_ (i := 11) (N := some 27) (v := ?_) (a' := ?_) #[true, true, true, true, true, true, true, true, true, true, true, true] rfl rfl (by kernel_rfl) (fun _ _ _ h => h) (Or.inl ⟨by rfl, ?_⟩) ?_ ?_
     rotate_left
     ·intro w'
      go_simp
      with_reducible rfl
     rotate_left
     ·simp only [Act.put, List.setIfInBounds_toArray, List.set_cons_zero, List.set_cons_succ, i64_w, i32_w]
      rfl
     refine done_ (by kernel_rfl) ?_
     go_wp2
     go_ret
     exact ⟨rfl, HB2.out⟩
    | true =>
     simp only [if_true] at hgo
     have hx13 := hwho rfl
     have HX := Aside0.mk (show 0 ≤ x.f0 ∧ x.f0 ≤ 4 from ⟨by omega, by omega⟩)
     have HC := Aside0.mk (show 0 ≤ cntE (l0.take j.toNat) x.f0 ∧ cntE (l0.take j.toNat) x.f0 ≤ 1000 from ⟨HCN.out.1, by have := HCN.out.2; have := HCL.out; omega⟩)
     clear hwho hx13
     have HGO := Aside0.mk hgo
     clear hgo
     generalize cntE (l0.take j.toNat) = c at HMd HSN HCN HGO HC
     by_cases hq : c x.f0 + 1 = x.f1
     ·have hgo := HGO.out
      rw [if_pos hq] at hgo
      clear HGO
      have HGO := Aside0.mk hgo
      clear hgo
      have b1 : (c x.f0 + 1 != x.f1) = false := bne_eq_false_iff_eq.2 hq
      clear hq
      go_region_with (first
       | (go_at_call 78; refine (impl_EntryOk.calls k _ _ _ _ _ _ _ true _ HT.out HGd.out).mono ?_; rintro e w2 ⟨rfl, hb⟩; have HB2 := Aside0.mk (below_step HBd.out hb); have HM2 := Aside0.mk (HMd.out.below hb); have HN2 := Aside0.mk (blk_below HNd.out hb); clear hb; have hd0 := (blk_cell HN2.out 0).trans rfl; have hd1 := (blk_cell HN2.out 1).trans rfl)
       | (go_at_call 87; refine (add_any _ _ _ _ _ HX.out HC.out HJN.out.1 HM2.out).mono ?_; rintro e w3 ⟨rfl, hM3, hg3⟩; have HM3 := Aside0.mk hM3; have HN3 := Aside0.mk ((hg3.block g (blk_lt HN2.out) (by intro e; cases e; have := HW.out; omega)).trans HN2.out); have HB3 := Aside0.mk (HB2.out.grown hg3 HB2.out.size (fun j hj => by cases hj; exact Nat.le_refl _)); clear hM3 hg3; have hf0 := (blk_cell HN3.out 0).trans rfl; have hf1 := (blk_cell HN3.out 1).trans rfl))
      all_goals go_wp2
      all_goals have hjj := HJN.out
      all_goals have hww : wrap64 (j + 1) = j + 1 := by unfold wrap64; omega
      all_goals refine ⟨⟨j + 1, by omega, by omega, by rw [hww], HGO.out, ?_, HB3.out⟩, ?_⟩
      all_goals first
       | (rw [hww]; show l0.length - (j + 1).toNat < l0.length - j.toNat; omega)
       | (rw [HSN.out, show (j + 1).toNat = j.toNat + 1 by omega]; exact HM3.out)
     ·have hgo := HGO.out
      rw [if_neg hq] at hgo
      obtain rfl := Option.some.inj hgo
      clear HGO hgo
      have b1 : (c x.f0 + 1 != x.f1) = true := bne_iff_ne.2 hq
      clear hq
      go_region_with (first
       | (go_at_call 78; refine (impl_EntryOk.calls k _ _ _ _ _ _ _ true _ HT.out HGd.out).mono ?_; rintro e w2 ⟨rfl, hb⟩; have HB2 := Aside0.mk (below_step HBd.out hb); have HM2 := Aside0.mk (HMd.out.below hb); have HN2 := Aside0.mk (blk_below HNd.out hb); clear hb; have hd0 := (blk_cell HN2.out 0).trans rfl; have hd1 := (blk_cell HN2.out 1).trans rfl)
       | (go_at_call 87; refine (add_any _ _ _ _ _ HX.out HC.out HJN.out.1 HM2.out).mono ?_; rintro e w3 ⟨rfl, hM3, hg3⟩; have HN3 := Aside0.mk ((hg3.block g (blk_lt HN2.out) (by intro e; cases e; have := HW.out; omega)).trans HN2.out); have HB3 := Aside0.mk (HB2.out.grown hg3 HB2.out.size (fun j hj => by cases hj; exact Nat.le_refl _)); clear hM3 hg3; have hf0 := (blk_cell HN3.out 0).trans rfl; have hf1 := (blk_cell HN3.out 1).trans rfl))
      all_goals go_wp2
      all_goals go_ret
      all_goals exact ⟨rfl, HB3.out⟩
   ·have hd1 : decide (j < (l0.length : Int)) = false := decide_eq_false hlt
    have hgo := HGO.out
    rw [List.drop_eq_nil_of_le (by omega)] at hgo
    unfold impl_LogOk.go at hgo
    obtain rfl := Option.some.inj hgo
    clear hgo HGO hlt
    go_wp2
    go_ret
    exact ⟨rfl, HB.out⟩
end Go.Proofs.YtdpklbomhdpimaaDoor.P
namespace Go.Proofs.YtdpklbomhdpimaaDoor.P
open Go.RowKit Go.Proofs.YtdpklbomhdpimaaDoorW.PrintWords Go.Proofs.YtdpklbomhdpimaaDoorW.PrintLast
def spec_l1Root.f (a0 : Int) : Option (Bool) := (spec_l6In.f a0 1 3).bind fun t411 => (some t411)
set_option maxHeartbeats 8000000 in
set_option maxRecDepth 100000 in
theorem spec_l1Root.calls (a0 : Int) (r : Bool) (w : World) (h : spec_l1Root.f a0 = some r) :
  Calls Tryd.prog 141 #[.int .i64 a0] w fun e w' => e = .returned (.bool r) ∧ Drawn0 w w' := by
 unfold spec_l1Root.f at h
 have H := h
 clear h
 replace H := Option.bind_eq_some_iff.mp H
 obtain ⟨t411, A20, H⟩ := H
 try dsimp only at H
 have A2 := Aside0.mk A20
 clear A20
 obtain rfl := Option.some.inj H
 go_enter Tryd.func141, Tryd.ntmps141
 go_wp2_with (first | ((with_reducible refine gate_callee (f := 75) rfl ?_); refine gl_ 4 Tryd.func75 #[.int .i64 a0, .int .i64 1, .int .i64 3] ?_; (with_reducible refine (spec_l6In.calls a0 1 3 t411 _ A2.out).mono ?_); rintro e w' ⟨rfl, ⟨nd, rfl⟩⟩; refine ⟨_, rfl, ?_⟩))
 go_ret
 exact ⟨si_, by repeat (first | exact Drawn0.refl _ | apply Drawn0.step)⟩

def spec_l3Id.f (a0 : Int) : Option (Bool) := (spec_l1Root.f a0).bind fun t412 => (if t412 = true then (some true) else ((spec_l1Made.f a0).bind fun t413 => (some t413)))
set_option maxHeartbeats 8000000 in
set_option maxRecDepth 100000 in
theorem spec_l3Id.calls (a0 : Int) (r : Bool) (w : World) (h : spec_l3Id.f a0 = some r) :
  Calls Tryd.prog 122 #[.int .i64 a0] w fun e w' => e = .returned (.bool r) ∧ Drawn0 w w' := by
 unfold spec_l3Id.f at h
 have H := h
 clear h
 replace H := Option.bind_eq_some_iff.mp H
 obtain ⟨t412, A20, H⟩ := H
 try dsimp only at H
 have A2 := Aside0.mk A20
 clear A20
 by_cases c3 : t412 = true
 ·subst c3
  have H1 : (some true) = some r := by rw [if_pos rfl] at H; exact H
  clear H
  have H := H1
  clear H1
  obtain rfl := Option.some.inj H
  go_enter Tryd.func122, Tryd.ntmps122
  go_wp2_with (first | ((with_reducible refine gate_callee (f := 141) rfl ?_); refine gl_ 4 Tryd.func141 #[.int .i64 a0] ?_; (with_reducible refine (spec_l1Root.calls a0 true _ A2.out).mono ?_); rintro e w' ⟨rfl, ⟨nd, rfl⟩⟩; refine ⟨_, rfl, ?_⟩))
  go_ret
  exact ⟨si_, by repeat (first | exact Drawn0.refl _ | apply Drawn0.step)⟩
 ·replace c3 := Bool.eq_false_iff.mpr c3
  subst c3
  have H1 : ((spec_l1Made.f a0).bind fun t413 => (some t413)) = some r := by rw [if_neg (show ¬ (false = true) by decide)] at H; exact H
  clear H
  have H := H1
  clear H1
  replace H := Option.bind_eq_some_iff.mp H
  obtain ⟨t413, A40, H⟩ := H
  try dsimp only at H
  have A4 := Aside0.mk A40
  clear A40
  obtain rfl := Option.some.inj H
  go_enter Tryd.func122, Tryd.ntmps122
  go_wp2_with (first | ((with_reducible refine gate_callee (f := 141) rfl ?_); refine gl_ 4 Tryd.func141 #[.int .i64 a0] ?_; (with_reducible refine (spec_l1Root.calls a0 false _ A2.out).mono ?_); rintro e w' ⟨rfl, ⟨nd, rfl⟩⟩; refine ⟨_, rfl, ?_⟩) | (go_at_call 120; (with_reducible refine (spec_l1Made.calls a0 t413 _ A4.out).mono ?_); rintro e w' ⟨rfl, ⟨nd, rfl⟩⟩))
  go_ret
  exact ⟨si_, by repeat (first | exact Drawn0.refl _ | apply Drawn0.step)⟩

def spec_OpOk.j0 : Nat → Bool → Int → Int → Int → Int → ByteArray → Option (Bool)
 | 0, _, _, _, _, _, _ => none
 | k + 1, x12, x415000, x415001, x415002, x415003, x415004 => if x12 = true then (some false) else (if x415000 = 1 then ((spec_l3Id.f x415002).bind fun t417 => (if t417 = true then (if x415003 = 0 then (some true) else ((spec_l1Made.f x415003).bind fun t418 => (some t418))) else (some false))) else (if x415000 = 2 then (if x415002 = 0 then (some (x415003 == 0)) else (some false)) else (if x415000 = 3 then ((spec_l3Id.f x415002).bind fun t419 => (if t419 = true then (if x415003 = 0 then (some (x415004.toList == ([] : List UInt8))) else ((spec_l1Made.f x415003).bind fun t420 => (if t420 = true then (some (x415004.toList == ([] : List UInt8))) else (some false)))) else (some false))) else (some false))))
def spec_OpOk.f (k : Nat) (a0_0 : Int) (a0_1 : Int) (a0_2 : Int) (a0_3 : Int) (a0_4 : ByteArray) : Option (Bool) := (spec_l1Made.f a0_1).bind fun t415 => (if t415 = true then ((spec_l1Text.f k a0_4).bind fun t416 => (spec_OpOk.j0 k (!t416) a0_0 a0_1 a0_2 a0_3 a0_4)) else (spec_OpOk.j0 k true a0_0 a0_1 a0_2 a0_3 a0_4))
theorem spec_OpOk.mono_l : ∀ k, (∀ y0 y1 y2 y3 y4 y5, LeO (spec_OpOk.j0 k y0 y1 y2 y3 y4 y5) (spec_OpOk.j0 (k + 1) y0 y1 y2 y3 y4 y5))
 | 0 => fun _ _ _ _ _ _ r h => by simp [spec_OpOk.j0] at h
 | k + 1 => by
  have ih0 := spec_OpOk.mono_l k
  ·intro y0 y1 y2 y3 y4 y5
   unfold spec_OpOk.j0
   repeat' first
   | (with_reducible exact ih0 _ _ _ _ _ _)
   | (with_reducible exact spec_l1Text.mono _ _)
   | (with_reducible exact LeO.refl _)
   | (with_reducible exact LeO.none _)
   | (with_reducible refine LeO.ite ?_ ?_)
   | (with_reducible refine LeO.bind ?_ (fun _ => ?_))
theorem spec_OpOk.mono : ∀ a0 a1 a2 a3 a4 k, LeO (spec_OpOk.f k a0 a1 a2 a3 a4) (spec_OpOk.f (k + 1) a0 a1 a2 a3 a4) := by
 intro a0 a1 a2 a3 a4 k
 have ih0 := spec_OpOk.mono_l k
 unfold spec_OpOk.f
 repeat' first
   | (with_reducible exact ih0 _ _ _ _ _ _)
   | (with_reducible exact spec_l1Text.mono _ _)
   | (with_reducible exact LeO.refl _)
   | (with_reducible exact LeO.none _)
   | (with_reducible refine LeO.ite ?_ ?_)
   | (with_reducible refine LeO.bind ?_ (fun _ => ?_))
set_option maxHeartbeats 8000000 in
set_option maxRecDepth 100000 in
theorem spec_OpOk.calls (k : Nat) (a0_0 : Int) (a0_1 : Int) (a0_2 : Int) (a0_3 : Int) (a0_4 : ByteArray) (r : Bool) (w : World) (h : spec_OpOk.f k a0_0 a0_1 a0_2 a0_3 a0_4 = some r) :
  Calls Tryd.prog 84 #[.agg #[.int .i64 a0_0, .int .i64 a0_1, .int .i64 a0_2, .int .i64 a0_3, .string a0_4]] w fun e w' => e = .returned (.bool r) ∧ Below w.heap.size w w' := by
 have hu42 := Tryd.underlying42
 have HB := Aside0.mk (Below.refl w.heap.size w)
 unfold spec_OpOk.f at h
 have H := h
 clear h
 have HC2 := Aside0.mk H
 clear H
 go_enter Tryd.func84, Tryd.ntmps84
 go_upto_region 1 with (first | ((with_reducible refine gate_dst (N := 1) rfl ?_); refine bx_ 1 (#[.int .i64 a0_0, .int .i64 a0_1, .int .i64 a0_2, .int .i64 a0_3, .string a0_4]) 42 ?_; intro gb414 hg w3 hbox hb; have n0_ := Aside0.mk (below_step (bel_) hb); have n1_ := Aside0.mk (hbox); have n2_ := Aside0.mk ((by rw [hg]; exact (below_size (bel_)) : w.heap.size ≤ gb414)); have n3_ := Aside0.mk ((by rw [hg]; exact (below_size (bel_)) : w.heap.size ≤ gb414)); clear HB; have HB := n0_; have BK414 := n1_; have GW414 := n2_; have GE414 := n3_; clear n0_ n1_ n2_ n3_; clear hb hbox hg))
 (try simp only [Act.put, List.setIfInBounds_toArray, List.set_cons_zero, List.set_cons_succ])
 go_cut [12] (fun v12 wc => ∃ (kq : Nat) (x12_1 : Bool), v12 = .bool x12_1 ∧ Aside0 (spec_OpOk.j0 kq x12_1 a0_0 a0_1 a0_2 a0_3 a0_4 = some r) ∧ Aside0 (kq ≤ k) ∧ Aside0 (wc.heap[gb414]? = some (.cells #[.int .i64 a0_0, .int .i64 a0_1, .int .i64 a0_2, .int .i64 a0_3, .string a0_4] 42 (0, 0))) ∧ Aside0 (Below w.heap.size w wc))
 case first =>
  have H := HC2.out
  clear HC2
  replace H := Option.bind_eq_some_iff.mp H
  obtain ⟨t415, A40, H⟩ := H
  try dsimp only at H
  have A4 := Aside0.mk A40
  clear A40
  by_cases c5 : t415 = true
  ·subst c5
   have H1 : ((spec_l1Text.f k a0_4).bind fun t416 => (spec_OpOk.j0 k (!t416) a0_0 a0_1 a0_2 a0_3 a0_4)) = some r := by rw [if_pos rfl] at H; exact H
   clear H
   have H := H1
   clear H1
   replace H := Option.bind_eq_some_iff.mp H
   obtain ⟨t416, A60, H⟩ := H
   try dsimp only at H
   have A6 := Aside0.mk A60
   clear A60
   have H' := Aside0.mk H
   clear H
   obtain ⟨hcz7_0, hcz7_1, hcz7_2, hcz7_3, hcz7_4, hfz7_0, hfz7_1, hfz7_2, hfz7_3, hfz7_4⟩ := op5_ BK414.out
   go_wp2_with (first | ((with_reducible refine gate_callee (f := 120) rfl ?_); refine gl_ 5 Tryd.func120 #[.int .i64 a0_1] ?_; (with_reducible refine (spec_l1Made.calls a0_1 true _ A4.out).mono ?_); rintro e w' ⟨rfl, ⟨nd, rfl⟩⟩; refine ⟨_, rfl, ?_⟩) | (go_at_call 121; (with_reducible refine (spec_l1Text.calls k a0_4 t416 _ A6.out).mono ?_); rintro e w' ⟨rfl, ⟨nd, rfl⟩⟩))
   go_meet
   case rel => exact ⟨_, (!t416), (si_), H', ⟨by first | omega | exact Nat.le_refl _⟩, ⟨by (with_reducible repeat (first | refine blk_drewN ?_ _ | refine blk_drew ?_ | refine blk_alloc ?_ _)); exact BK414.out⟩, ⟨bel_⟩⟩
  ·replace c5 := Bool.eq_false_iff.mpr c5
   subst c5
   have H1 : (spec_OpOk.j0 k true a0_0 a0_1 a0_2 a0_3 a0_4) = some r := by rw [if_neg (show ¬ (false = true) by decide)] at H; exact H
   clear H
   have H := H1
   clear H1
   have H' := Aside0.mk H
   clear H
   obtain ⟨hcz8_0, hcz8_1, hcz8_2, hcz8_3, hcz8_4, hfz8_0, hfz8_1, hfz8_2, hfz8_3, hfz8_4⟩ := op5_ BK414.out
   go_wp2_with (first | ((with_reducible refine gate_callee (f := 120) rfl ?_); refine gl_ 5 Tryd.func120 #[.int .i64 a0_1] ?_; (with_reducible refine (spec_l1Made.calls a0_1 false _ A4.out).mono ?_); rintro e w' ⟨rfl, ⟨nd, rfl⟩⟩; refine ⟨_, rfl, ?_⟩))
   go_meet
   case rel => exact ⟨_, (true), (si_), H', ⟨by first | omega | exact Nat.le_refl _⟩, ⟨by (with_reducible repeat (first | refine blk_drewN ?_ _ | refine blk_drew ?_ | refine blk_alloc ?_ _)); exact BK414.out⟩, ⟨bel_⟩⟩
 case rest =>
  clear HC2
  try clear c1
  try clear p2
  try clear c5
  try clear c8
  try clear hcz7_0 hcz7_1 hcz7_2 hcz7_3 hcz7_4 hfz7_0 hfz7_1 hfz7_2 hfz7_3 hfz7_4
  try clear hcz8_0 hcz8_1 hcz8_2 hcz8_3 hcz8_4 hfz8_0 hfz8_1 hfz8_2 hfz8_3 hfz8_4
  obtain ⟨kq, x12_1, rfl, HA, HJ1, BK414, HB⟩ := hcut
  cases kq with
  | zero => exact absurd HA.out (by simp [spec_OpOk.j0])
  | succ kj1 =>
   have H := HA.out
   clear HA
   simp only [spec_OpOk.j0] at H
   by_cases c9 : x12_1 = true
   ·subst c9
    have H1 : (some false) = some r := by rw [if_pos rfl] at H; exact H
    clear H
    have H := H1
    clear H1
    obtain rfl := Option.some.inj H
    go_wp2
    go_ret
    exact ⟨fi_, bel_⟩
   ·replace c9 := Bool.eq_false_iff.mpr c9
    subst c9
    have H1 : (if a0_0 = 1 then ((spec_l3Id.f a0_2).bind fun t417 => (if t417 = true then (if a0_3 = 0 then (some true) else ((spec_l1Made.f a0_3).bind fun t418 => (some t418))) else (some false))) else (if a0_0 = 2 then (if a0_2 = 0 then (some (a0_3 == 0)) else (some false)) else (if a0_0 = 3 then ((spec_l3Id.f a0_2).bind fun t419 => (if t419 = true then (if a0_3 = 0 then (some (a0_4.toList == ([] : List UInt8))) else ((spec_l1Made.f a0_3).bind fun t420 => (if t420 = true then (some (a0_4.toList == ([] : List UInt8))) else (some false)))) else (some false))) else (some false)))) = some r := by rw [if_neg (show ¬ (false = true) by decide)] at H; exact H
    clear H
    have H := H1
    clear H1
    by_cases c10 : a0_0 = 1
    ·rw [if_pos c10] at H
     have c10b0 : (a0_0 == 1) = true := beq_iff_eq.mpr c10
     have c10b1 : (a0_0 != 1) = false := bne_eq_false_iff_eq.mpr c10
     clear c10
     replace H := Option.bind_eq_some_iff.mp H
     obtain ⟨t417, A110, H⟩ := H
     try dsimp only at H
     have A11 := Aside0.mk A110
     clear A110
     by_cases c12 : t417 = true
     ·subst c12
      have H1 : (if a0_3 = 0 then (some true) else ((spec_l1Made.f a0_3).bind fun t418 => (some t418))) = some r := by rw [if_pos rfl] at H; exact H
      clear H
      have H := H1
      clear H1
      by_cases c13 : a0_3 = 0
      ·rw [if_pos c13] at H
       have c13b0 : (a0_3 == 0) = true := beq_iff_eq.mpr c13
       have c13b1 : (a0_3 != 0) = false := bne_eq_false_iff_eq.mpr c13
       clear c13
       obtain rfl := Option.some.inj H
       obtain ⟨hcz14_0, hcz14_1, hcz14_2, hcz14_3, hcz14_4, hfz14_0, hfz14_1, hfz14_2, hfz14_3, hfz14_4⟩ := op5_ BK414.out
       go_wp2_with (first | ((with_reducible refine gate_callee (f := 122) rfl ?_); refine gl_ 19 Tryd.func122 #[.int .i64 a0_2] ?_; (with_reducible refine (spec_l3Id.calls a0_2 true _ A11.out).mono ?_); rintro e w' ⟨rfl, ⟨nd, rfl⟩⟩; refine ⟨_, rfl, ?_⟩))
       go_ret
       exact ⟨fi_, bel_⟩
      ·rw [if_neg c13] at H
       have c13b0 : (a0_3 == 0) = false := beq_eq_false_iff_ne.mpr c13
       have c13b1 : (a0_3 != 0) = true := bne_iff_ne.mpr c13
       replace H := Option.bind_eq_some_iff.mp H
       obtain ⟨t418, A150, H⟩ := H
       try dsimp only at H
       have A15 := Aside0.mk A150
       clear A150
       obtain rfl := Option.some.inj H
       obtain ⟨hcz16_0, hcz16_1, hcz16_2, hcz16_3, hcz16_4, hfz16_0, hfz16_1, hfz16_2, hfz16_3, hfz16_4⟩ := op5_ BK414.out
       go_wp2_with (first | ((with_reducible refine gate_callee (f := 122) rfl ?_); refine gl_ 19 Tryd.func122 #[.int .i64 a0_2] ?_; (with_reducible refine (spec_l3Id.calls a0_2 true _ A11.out).mono ?_); rintro e w' ⟨rfl, ⟨nd, rfl⟩⟩; refine ⟨_, rfl, ?_⟩) | (go_at_call 120; (with_reducible refine (spec_l1Made.calls a0_3 t418 _ A15.out).mono ?_); rintro e w' ⟨rfl, ⟨nd, rfl⟩⟩))
       go_ret
       exact ⟨fi_, bel_⟩
     ·replace c12 := Bool.eq_false_iff.mpr c12
      subst c12
      have H1 : (some false) = some r := by rw [if_neg (show ¬ (false = true) by decide)] at H; exact H
      clear H
      have H := H1
      clear H1
      obtain rfl := Option.some.inj H
      obtain ⟨hcz17_0, hcz17_1, hcz17_2, hcz17_3, hcz17_4, hfz17_0, hfz17_1, hfz17_2, hfz17_3, hfz17_4⟩ := op5_ BK414.out
      go_wp2_with (first | ((with_reducible refine gate_callee (f := 122) rfl ?_); refine gl_ 19 Tryd.func122 #[.int .i64 a0_2] ?_; (with_reducible refine (spec_l3Id.calls a0_2 false _ A11.out).mono ?_); rintro e w' ⟨rfl, ⟨nd, rfl⟩⟩; refine ⟨_, rfl, ?_⟩))
      go_ret
      exact ⟨fi_, bel_⟩
    ·rw [if_neg c10] at H
     have c10b0 : (a0_0 == 1) = false := beq_eq_false_iff_ne.mpr c10
     have c10b1 : (a0_0 != 1) = true := bne_iff_ne.mpr c10
     by_cases c18 : a0_0 = 2
     ·rw [if_pos c18] at H
      have c18b0 : (a0_0 == 2) = true := beq_iff_eq.mpr c18
      have c18b1 : (a0_0 != 2) = false := bne_eq_false_iff_eq.mpr c18
      clear c18
      by_cases c19 : a0_2 = 0
      ·rw [if_pos c19] at H
       have c19b0 : (a0_2 == 0) = true := beq_iff_eq.mpr c19
       have c19b1 : (a0_2 != 0) = false := bne_eq_false_iff_eq.mpr c19
       clear c19
       obtain rfl := Option.some.inj H
       obtain ⟨hcz20_0, hcz20_1, hcz20_2, hcz20_3, hcz20_4, hfz20_0, hfz20_1, hfz20_2, hfz20_3, hfz20_4⟩ := op5_ BK414.out
       go_wp2
       go_ret
       exact ⟨fi_, bel_⟩
      ·rw [if_neg c19] at H
       have c19b0 : (a0_2 == 0) = false := beq_eq_false_iff_ne.mpr c19
       have c19b1 : (a0_2 != 0) = true := bne_iff_ne.mpr c19
       obtain rfl := Option.some.inj H
       obtain ⟨hcz21_0, hcz21_1, hcz21_2, hcz21_3, hcz21_4, hfz21_0, hfz21_1, hfz21_2, hfz21_3, hfz21_4⟩ := op5_ BK414.out
       go_wp2
       go_ret
       exact ⟨fi_, bel_⟩
     ·rw [if_neg c18] at H
      have c18b0 : (a0_0 == 2) = false := beq_eq_false_iff_ne.mpr c18
      have c18b1 : (a0_0 != 2) = true := bne_iff_ne.mpr c18
      by_cases c22 : a0_0 = 3
      ·rw [if_pos c22] at H
       have c22b0 : (a0_0 == 3) = true := beq_iff_eq.mpr c22
       have c22b1 : (a0_0 != 3) = false := bne_eq_false_iff_eq.mpr c22
       clear c22
       replace H := Option.bind_eq_some_iff.mp H
       obtain ⟨t419, A230, H⟩ := H
       try dsimp only at H
       have A23 := Aside0.mk A230
       clear A230
       by_cases c24 : t419 = true
       ·subst c24
        have H1 : (if a0_3 = 0 then (some (a0_4.toList == ([] : List UInt8))) else ((spec_l1Made.f a0_3).bind fun t420 => (if t420 = true then (some (a0_4.toList == ([] : List UInt8))) else (some false)))) = some r := by rw [if_pos rfl] at H; exact H
        clear H
        have H := H1
        clear H1
        by_cases c25 : a0_3 = 0
        ·rw [if_pos c25] at H
         have c25b0 : (a0_3 == 0) = true := beq_iff_eq.mpr c25
         have c25b1 : (a0_3 != 0) = false := bne_eq_false_iff_eq.mpr c25
         clear c25
         obtain rfl := Option.some.inj H
         obtain ⟨hcz26_0, hcz26_1, hcz26_2, hcz26_3, hcz26_4, hfz26_0, hfz26_1, hfz26_2, hfz26_3, hfz26_4⟩ := op5_ BK414.out
         go_wp2_with (first | ((with_reducible refine gate_callee (f := 122) rfl ?_); refine gl_ 44 Tryd.func122 #[.int .i64 a0_2] ?_; (with_reducible refine (spec_l3Id.calls a0_2 true _ A23.out).mono ?_); rintro e w' ⟨rfl, ⟨nd, rfl⟩⟩; refine ⟨_, rfl, ?_⟩))
         go_ret
         exact ⟨fi_, bel_⟩
        ·rw [if_neg c25] at H
         have c25b0 : (a0_3 == 0) = false := beq_eq_false_iff_ne.mpr c25
         have c25b1 : (a0_3 != 0) = true := bne_iff_ne.mpr c25
         replace H := Option.bind_eq_some_iff.mp H
         obtain ⟨t420, A270, H⟩ := H
         try dsimp only at H
         have A27 := Aside0.mk A270
         clear A270
         by_cases c28 : t420 = true
         ·subst c28
          have H1 : (some (a0_4.toList == ([] : List UInt8))) = some r := by rw [if_pos rfl] at H; exact H
          clear H
          have H := H1
          clear H1
          obtain rfl := Option.some.inj H
          obtain ⟨hcz29_0, hcz29_1, hcz29_2, hcz29_3, hcz29_4, hfz29_0, hfz29_1, hfz29_2, hfz29_3, hfz29_4⟩ := op5_ BK414.out
          go_wp2_with (first | ((with_reducible refine gate_callee (f := 122) rfl ?_); refine gl_ 44 Tryd.func122 #[.int .i64 a0_2] ?_; (with_reducible refine (spec_l3Id.calls a0_2 true _ A23.out).mono ?_); rintro e w' ⟨rfl, ⟨nd, rfl⟩⟩; refine ⟨_, rfl, ?_⟩) | (go_at_call 120; (with_reducible refine (spec_l1Made.calls a0_3 true _ A27.out).mono ?_); rintro e w' ⟨rfl, ⟨nd, rfl⟩⟩))
          go_ret
          exact ⟨fi_, bel_⟩
         ·replace c28 := Bool.eq_false_iff.mpr c28
          subst c28
          have H1 : (some false) = some r := by rw [if_neg (show ¬ (false = true) by decide)] at H; exact H
          clear H
          have H := H1
          clear H1
          obtain rfl := Option.some.inj H
          obtain ⟨hcz30_0, hcz30_1, hcz30_2, hcz30_3, hcz30_4, hfz30_0, hfz30_1, hfz30_2, hfz30_3, hfz30_4⟩ := op5_ BK414.out
          go_wp2_with (first | ((with_reducible refine gate_callee (f := 122) rfl ?_); refine gl_ 44 Tryd.func122 #[.int .i64 a0_2] ?_; (with_reducible refine (spec_l3Id.calls a0_2 true _ A23.out).mono ?_); rintro e w' ⟨rfl, ⟨nd, rfl⟩⟩; refine ⟨_, rfl, ?_⟩) | (go_at_call 120; (with_reducible refine (spec_l1Made.calls a0_3 false _ A27.out).mono ?_); rintro e w' ⟨rfl, ⟨nd, rfl⟩⟩))
          go_ret
          exact ⟨fi_, bel_⟩
       ·replace c24 := Bool.eq_false_iff.mpr c24
        subst c24
        have H1 : (some false) = some r := by rw [if_neg (show ¬ (false = true) by decide)] at H; exact H
        clear H
        have H := H1
        clear H1
        obtain rfl := Option.some.inj H
        obtain ⟨hcz31_0, hcz31_1, hcz31_2, hcz31_3, hcz31_4, hfz31_0, hfz31_1, hfz31_2, hfz31_3, hfz31_4⟩ := op5_ BK414.out
        go_wp2_with (first | ((with_reducible refine gate_callee (f := 122) rfl ?_); refine gl_ 44 Tryd.func122 #[.int .i64 a0_2] ?_; (with_reducible refine (spec_l3Id.calls a0_2 false _ A23.out).mono ?_); rintro e w' ⟨rfl, ⟨nd, rfl⟩⟩; refine ⟨_, rfl, ?_⟩))
        go_ret
        exact ⟨fi_, bel_⟩
      ·rw [if_neg c22] at H
       have c22b0 : (a0_0 == 3) = false := beq_eq_false_iff_ne.mpr c22
       have c22b1 : (a0_0 != 3) = true := bne_iff_ne.mpr c22
       obtain rfl := Option.some.inj H
       obtain ⟨hcz32_0, hcz32_1, hcz32_2, hcz32_3, hcz32_4, hfz32_0, hfz32_1, hfz32_2, hfz32_3, hfz32_4⟩ := op5_ BK414.out
       go_wp2
       go_ret
       exact ⟨fi_, bel_⟩

def spec_EntryOk.f (k : Nat) (a0_0 : Int) (a0_1 : Int) (a0_2 : Int) (a0_3 : Int) (a0_4 : Int) (a0_5 : Int) (a0_6 : ByteArray) : Option (Bool) := (spec_l6In.f a0_0 1 3).bind fun t422 => (if t422 = true then ((spec_l6In.f a0_1 1 40).bind fun t423 => (if t423 = true then ((spec_OpOk.f k a0_2 a0_3 a0_4 a0_5 a0_6).bind fun t424 => (if t424 = true then (if a0_2 = 1 then (some ((wrap64 (Int.tdiv a0_3 10)) == a0_0)) else (some true)) else (some false))) else (some false))) else (some false))
theorem spec_EntryOk.mono : ∀ a0 a1 a2 a3 a4 a5 a6 k, LeO (spec_EntryOk.f k a0 a1 a2 a3 a4 a5 a6) (spec_EntryOk.f (k + 1) a0 a1 a2 a3 a4 a5 a6) := by
 intro a0 a1 a2 a3 a4 a5 a6 k
 unfold spec_EntryOk.f
 repeat' first
   | (with_reducible exact spec_OpOk.mono _ _ _ _ _ _)
   | (with_reducible exact LeO.refl _)
   | (with_reducible exact LeO.none _)
   | (with_reducible refine LeO.ite ?_ ?_)
   | (with_reducible refine LeO.bind ?_ (fun _ => ?_))
set_option maxHeartbeats 8000000 in
set_option maxRecDepth 100000 in
theorem spec_EntryOk.calls (k : Nat) (a0_0 : Int) (a0_1 : Int) (a0_2 : Int) (a0_3 : Int) (a0_4 : Int) (a0_5 : Int) (a0_6 : ByteArray) (r : Bool) (w : World) (h : spec_EntryOk.f k a0_0 a0_1 a0_2 a0_3 a0_4 a0_5 a0_6 = some r) :
  Calls Tryd.prog 30 #[.agg #[.int .i64 a0_0, .int .i64 a0_1, .int .i64 a0_2, .int .i64 a0_3, .int .i64 a0_4, .int .i64 a0_5, .string a0_6]] w fun e w' => e = .returned (.bool r) ∧ Below w.heap.size w w' := by
 have hu44 := Tryd.underlying44
 have hu42 := Tryd.underlying42
 have HB := Aside0.mk (Below.refl w.heap.size w)
 unfold spec_EntryOk.f at h
 have H := h
 clear h
 replace H := Option.bind_eq_some_iff.mp H
 obtain ⟨t422, A20, H⟩ := H
 try dsimp only at H
 have A2 := Aside0.mk A20
 clear A20
 by_cases c3 : t422 = true
 ·subst c3
  have H1 : ((spec_l6In.f a0_1 1 40).bind fun t423 => (if t423 = true then ((spec_OpOk.f k a0_2 a0_3 a0_4 a0_5 a0_6).bind fun t424 => (if t424 = true then (if a0_2 = 1 then (some ((wrap64 (Int.tdiv a0_3 10)) == a0_0)) else (some true)) else (some false))) else (some false))) = some r := by rw [if_pos rfl] at H; exact H
  clear H
  have H := H1
  clear H1
  replace H := Option.bind_eq_some_iff.mp H
  obtain ⟨t423, A40, H⟩ := H
  try dsimp only at H
  have A4 := Aside0.mk A40
  clear A40
  by_cases c5 : t423 = true
  ·subst c5
   have H1 : ((spec_OpOk.f k a0_2 a0_3 a0_4 a0_5 a0_6).bind fun t424 => (if t424 = true then (if a0_2 = 1 then (some ((wrap64 (Int.tdiv a0_3 10)) == a0_0)) else (some true)) else (some false))) = some r := by rw [if_pos rfl] at H; exact H
   clear H
   have H := H1
   clear H1
   replace H := Option.bind_eq_some_iff.mp H
   obtain ⟨t424, A60, H⟩ := H
   try dsimp only at H
   have A6 := Aside0.mk A60
   clear A60
   by_cases c7 : t424 = true
   ·subst c7
    have H1 : (if a0_2 = 1 then (some ((wrap64 (Int.tdiv a0_3 10)) == a0_0)) else (some true)) = some r := by rw [if_pos rfl] at H; exact H
    clear H
    have H := H1
    clear H1
    by_cases c8 : a0_2 = 1
    ·rw [if_pos c8] at H
     have c8b0 : (a0_2 == 1) = true := beq_iff_eq.mpr c8
     have c8b1 : (a0_2 != 1) = false := bne_eq_false_iff_eq.mpr c8
     clear c8
     obtain rfl := Option.some.inj H
     go_enter Tryd.func30, Tryd.ntmps30
     go_wp2_with (first | ((with_reducible refine gate_dst (N := 1) rfl ?_); refine bx_ 1 (#[.int .i64 a0_0, .int .i64 a0_1, .int .i64 a0_2, .int .i64 a0_3, .int .i64 a0_4, .int .i64 a0_5, .string a0_6]) 44 ?_; intro gb421 hg w9 hbox hb; have n0_ := Aside0.mk (below_step (bel_) hb); have n1_ := Aside0.mk (hbox); have n2_ := Aside0.mk ((by rw [hg]; exact (below_size (bel_)) : w.heap.size ≤ gb421)); have n3_ := Aside0.mk ((by rw [hg]; exact (below_size (bel_)) : w.heap.size ≤ gb421)); clear HB; have HB := n0_; have BK421 := n1_; have GW421 := n2_; have GE421 := n3_; clear n0_ n1_ n2_ n3_; clear hb hbox hg; obtain ⟨hcz10_0, hcz10_1, hcz10_2, hcz10_3, hcz10_4, hcz10_5, hcz10_6, hfz10_0, hfz10_1, hfz10_2, hfz10_3, hfz10_4, hfz10_5, hfz10_6⟩ := op7_ BK421.out) | ((with_reducible refine gate_callee (f := 75) rfl ?_); refine gl_ 5 Tryd.func75 #[.int .i64 a0_0, .int .i64 1, .int .i64 3] ?_; (with_reducible refine (spec_l6In.calls a0_0 1 3 true _ A2.out).mono ?_); rintro e w' ⟨rfl, ⟨nd, rfl⟩⟩; refine ⟨_, rfl, ?_⟩) | (go_at_call 75; (with_reducible refine (spec_l6In.calls a0_1 1 40 true _ A4.out).mono ?_); rintro e w' ⟨rfl, ⟨nd, rfl⟩⟩) | (go_at_call 84; (with_reducible refine (spec_OpOk.calls k a0_2 a0_3 a0_4 a0_5 a0_6 true _ A6.out).mono ?_); rintro e w11 ⟨rfl, hb⟩; replace HB := Aside0.mk (below_step (bel_) hb); replace BK421 := Aside0.mk (bb_ BK421.out hb); (try clear hb); obtain ⟨hcz12_0, hcz12_1, hcz12_2, hcz12_3, hcz12_4, hcz12_5, hcz12_6, hfz12_0, hfz12_1, hfz12_2, hfz12_3, hfz12_4, hfz12_5, hfz12_6⟩ := op7_ BK421.out))
     go_ret
     exact ⟨fi_, bel_⟩
    ·rw [if_neg c8] at H
     have c8b0 : (a0_2 == 1) = false := beq_eq_false_iff_ne.mpr c8
     have c8b1 : (a0_2 != 1) = true := bne_iff_ne.mpr c8
     obtain rfl := Option.some.inj H
     go_enter Tryd.func30, Tryd.ntmps30
     go_wp2_with (first | ((with_reducible refine gate_dst (N := 1) rfl ?_); refine bx_ 1 (#[.int .i64 a0_0, .int .i64 a0_1, .int .i64 a0_2, .int .i64 a0_3, .int .i64 a0_4, .int .i64 a0_5, .string a0_6]) 44 ?_; intro gb421 hg w13 hbox hb; have n0_ := Aside0.mk (below_step (bel_) hb); have n1_ := Aside0.mk (hbox); have n2_ := Aside0.mk ((by rw [hg]; exact (below_size (bel_)) : w.heap.size ≤ gb421)); have n3_ := Aside0.mk ((by rw [hg]; exact (below_size (bel_)) : w.heap.size ≤ gb421)); clear HB; have HB := n0_; have BK421 := n1_; have GW421 := n2_; have GE421 := n3_; clear n0_ n1_ n2_ n3_; clear hb hbox hg; obtain ⟨hcz14_0, hcz14_1, hcz14_2, hcz14_3, hcz14_4, hcz14_5, hcz14_6, hfz14_0, hfz14_1, hfz14_2, hfz14_3, hfz14_4, hfz14_5, hfz14_6⟩ := op7_ BK421.out) | ((with_reducible refine gate_callee (f := 75) rfl ?_); refine gl_ 5 Tryd.func75 #[.int .i64 a0_0, .int .i64 1, .int .i64 3] ?_; (with_reducible refine (spec_l6In.calls a0_0 1 3 true _ A2.out).mono ?_); rintro e w' ⟨rfl, ⟨nd, rfl⟩⟩; refine ⟨_, rfl, ?_⟩) | (go_at_call 75; (with_reducible refine (spec_l6In.calls a0_1 1 40 true _ A4.out).mono ?_); rintro e w' ⟨rfl, ⟨nd, rfl⟩⟩) | (go_at_call 84; (with_reducible refine (spec_OpOk.calls k a0_2 a0_3 a0_4 a0_5 a0_6 true _ A6.out).mono ?_); rintro e w15 ⟨rfl, hb⟩; replace HB := Aside0.mk (below_step (bel_) hb); replace BK421 := Aside0.mk (bb_ BK421.out hb); (try clear hb); obtain ⟨hcz16_0, hcz16_1, hcz16_2, hcz16_3, hcz16_4, hcz16_5, hcz16_6, hfz16_0, hfz16_1, hfz16_2, hfz16_3, hfz16_4, hfz16_5, hfz16_6⟩ := op7_ BK421.out))
     go_ret
     exact ⟨fi_, bel_⟩
   ·replace c7 := Bool.eq_false_iff.mpr c7
    subst c7
    have H1 : (some false) = some r := by rw [if_neg (show ¬ (false = true) by decide)] at H; exact H
    clear H
    have H := H1
    clear H1
    obtain rfl := Option.some.inj H
    go_enter Tryd.func30, Tryd.ntmps30
    go_wp2_with (first | ((with_reducible refine gate_dst (N := 1) rfl ?_); refine bx_ 1 (#[.int .i64 a0_0, .int .i64 a0_1, .int .i64 a0_2, .int .i64 a0_3, .int .i64 a0_4, .int .i64 a0_5, .string a0_6]) 44 ?_; intro gb421 hg w17 hbox hb; have n0_ := Aside0.mk (below_step (bel_) hb); have n1_ := Aside0.mk (hbox); have n2_ := Aside0.mk ((by rw [hg]; exact (below_size (bel_)) : w.heap.size ≤ gb421)); have n3_ := Aside0.mk ((by rw [hg]; exact (below_size (bel_)) : w.heap.size ≤ gb421)); clear HB; have HB := n0_; have BK421 := n1_; have GW421 := n2_; have GE421 := n3_; clear n0_ n1_ n2_ n3_; clear hb hbox hg; obtain ⟨hcz18_0, hcz18_1, hcz18_2, hcz18_3, hcz18_4, hcz18_5, hcz18_6, hfz18_0, hfz18_1, hfz18_2, hfz18_3, hfz18_4, hfz18_5, hfz18_6⟩ := op7_ BK421.out) | ((with_reducible refine gate_callee (f := 75) rfl ?_); refine gl_ 5 Tryd.func75 #[.int .i64 a0_0, .int .i64 1, .int .i64 3] ?_; (with_reducible refine (spec_l6In.calls a0_0 1 3 true _ A2.out).mono ?_); rintro e w' ⟨rfl, ⟨nd, rfl⟩⟩; refine ⟨_, rfl, ?_⟩) | (go_at_call 75; (with_reducible refine (spec_l6In.calls a0_1 1 40 true _ A4.out).mono ?_); rintro e w' ⟨rfl, ⟨nd, rfl⟩⟩) | (go_at_call 84; (with_reducible refine (spec_OpOk.calls k a0_2 a0_3 a0_4 a0_5 a0_6 false _ A6.out).mono ?_); rintro e w19 ⟨rfl, hb⟩; replace HB := Aside0.mk (below_step (bel_) hb); replace BK421 := Aside0.mk (bb_ BK421.out hb); (try clear hb)))
    go_ret
    exact ⟨fi_, bel_⟩
  ·replace c5 := Bool.eq_false_iff.mpr c5
   subst c5
   have H1 : (some false) = some r := by rw [if_neg (show ¬ (false = true) by decide)] at H; exact H
   clear H
   have H := H1
   clear H1
   obtain rfl := Option.some.inj H
   go_enter Tryd.func30, Tryd.ntmps30
   go_wp2_with (first | ((with_reducible refine gate_dst (N := 1) rfl ?_); refine bx_ 1 (#[.int .i64 a0_0, .int .i64 a0_1, .int .i64 a0_2, .int .i64 a0_3, .int .i64 a0_4, .int .i64 a0_5, .string a0_6]) 44 ?_; intro gb421 hg w20 hbox hb; have n0_ := Aside0.mk (below_step (bel_) hb); have n1_ := Aside0.mk (hbox); have n2_ := Aside0.mk ((by rw [hg]; exact (below_size (bel_)) : w.heap.size ≤ gb421)); have n3_ := Aside0.mk ((by rw [hg]; exact (below_size (bel_)) : w.heap.size ≤ gb421)); clear HB; have HB := n0_; have BK421 := n1_; have GW421 := n2_; have GE421 := n3_; clear n0_ n1_ n2_ n3_; clear hb hbox hg; obtain ⟨hcz21_0, hcz21_1, hcz21_2, hcz21_3, hcz21_4, hcz21_5, hcz21_6, hfz21_0, hfz21_1, hfz21_2, hfz21_3, hfz21_4, hfz21_5, hfz21_6⟩ := op7_ BK421.out) | ((with_reducible refine gate_callee (f := 75) rfl ?_); refine gl_ 5 Tryd.func75 #[.int .i64 a0_0, .int .i64 1, .int .i64 3] ?_; (with_reducible refine (spec_l6In.calls a0_0 1 3 true _ A2.out).mono ?_); rintro e w' ⟨rfl, ⟨nd, rfl⟩⟩; refine ⟨_, rfl, ?_⟩) | (go_at_call 75; (with_reducible refine (spec_l6In.calls a0_1 1 40 false _ A4.out).mono ?_); rintro e w' ⟨rfl, ⟨nd, rfl⟩⟩))
   go_ret
   exact ⟨fi_, bel_⟩
 ·replace c3 := Bool.eq_false_iff.mpr c3
  subst c3
  have H1 : (some false) = some r := by rw [if_neg (show ¬ (false = true) by decide)] at H; exact H
  clear H
  have H := H1
  clear H1
  obtain rfl := Option.some.inj H
  go_enter Tryd.func30, Tryd.ntmps30
  go_wp2_with (first | ((with_reducible refine gate_dst (N := 1) rfl ?_); refine bx_ 1 (#[.int .i64 a0_0, .int .i64 a0_1, .int .i64 a0_2, .int .i64 a0_3, .int .i64 a0_4, .int .i64 a0_5, .string a0_6]) 44 ?_; intro gb421 hg w22 hbox hb; have n0_ := Aside0.mk (below_step (bel_) hb); have n1_ := Aside0.mk (hbox); have n2_ := Aside0.mk ((by rw [hg]; exact (below_size (bel_)) : w.heap.size ≤ gb421)); have n3_ := Aside0.mk ((by rw [hg]; exact (below_size (bel_)) : w.heap.size ≤ gb421)); clear HB; have HB := n0_; have BK421 := n1_; have GW421 := n2_; have GE421 := n3_; clear n0_ n1_ n2_ n3_; clear hb hbox hg; obtain ⟨hcz23_0, hcz23_1, hcz23_2, hcz23_3, hcz23_4, hcz23_5, hcz23_6, hfz23_0, hfz23_1, hfz23_2, hfz23_3, hfz23_4, hfz23_5, hfz23_6⟩ := op7_ BK421.out) | ((with_reducible refine gate_callee (f := 75) rfl ?_); refine gl_ 5 Tryd.func75 #[.int .i64 a0_0, .int .i64 1, .int .i64 3] ?_; (with_reducible refine (spec_l6In.calls a0_0 1 3 false _ A2.out).mono ?_); rintro e w' ⟨rfl, ⟨nd, rfl⟩⟩; refine ⟨_, rfl, ?_⟩))
  go_ret
  exact ⟨fi_, bel_⟩

def spec_LogOk.l0 : Nat → List (S44) → Int → Option (Bool)
 | 0, _, _ => none
 | k + 1, x0, x3 => if x3 < (x0.length : Int) then (if 0 ≤ x3 then ((spec_EntryOk.f k ((rd_T44 x0 x3).f0) ((rd_T44 x0 x3).f1) ((rd_T44 x0 x3).f2.f0) ((rd_T44 x0 x3).f2.f1) ((rd_T44 x0 x3).f2.f2) ((rd_T44 x0 x3).f2.f3) ((rd_T44 x0 x3).f2.f4)).bind fun t426 => (if t426 = true then (if x3 ≤ (x0.length : Int) then ((spec_l12Seq.f k (x0.take (x3 : Int).toNat) ((rd_T44 x0 x3).f0)).bind fun t433 => (if ((rd_T44 x0 x3).f1) = (wrap64 (t433 + 1)) then (spec_LogOk.l0 k x0 (wrap64 (x3 + 1))) else (some false))) else (none)) else (some false))) else (none)) else (some (decide ((x0.length : Int) ≤ 40)))
def spec_LogOk.f (k : Nat) (l0 : List (S44)) : Option (Bool) := spec_LogOk.l0 k l0 0
theorem spec_LogOk.mono_l : ∀ k, (∀ y0 y1, LeO (spec_LogOk.l0 k y0 y1) (spec_LogOk.l0 (k + 1) y0 y1))
 | 0 => fun _ _ r h => by simp [spec_LogOk.l0] at h
 | k + 1 => by
  have ih0 := spec_LogOk.mono_l k
  ·intro y0 y1
   unfold spec_LogOk.l0
   repeat' first
   | (with_reducible exact ih0 _ _)
   | (with_reducible exact spec_EntryOk.mono _ _ _ _ _ _ _ _)
   | (with_reducible exact spec_l12Seq.mono _ _ _)
   | (with_reducible exact LeO.refl _)
   | (with_reducible exact LeO.none _)
   | (with_reducible refine LeO.ite ?_ ?_)
   | (with_reducible refine LeO.bind ?_ (fun _ => ?_))
theorem spec_LogOk.mono : ∀ a0 k, LeO (spec_LogOk.f k a0) (spec_LogOk.f (k + 1) a0) := by
 intro a0 k
 have ih0 := spec_LogOk.mono_l k
 unfold spec_LogOk.f
 repeat' first
   | (with_reducible exact ih0 _ _)
   | (with_reducible exact spec_EntryOk.mono _ _ _ _ _ _ _ _)
   | (with_reducible exact spec_l12Seq.mono _ _ _)
   | (with_reducible exact LeO.refl _)
   | (with_reducible exact LeO.none _)
   | (with_reducible refine LeO.ite ?_ ?_)
   | (with_reducible refine LeO.bind ?_ (fun _ => ?_))
def spec_LogOk.T4 : Bool × List (List Nat × List Nat) := (true, [([], []), ([], []), ([0, 1], [0, 1]), ([2], [2]), ([3], [3]), ([4], [4]), ([5, 4], [5]), ([6], [6]), ([6], [6]), ([7, 8, 6], [6, 7, 8]), ([9, 6], [6, 9]), ([10, 6], [6, 10]), ([6], [6]), ([6], [6]), ([12, 13, 6], [6, 12, 13]), ([6], [6]), ([6], [6]), ([15, 16, 6], [6, 15, 16]), ([17, 6], [6, 17]), ([18, 6], [6, 18]), ([14, 19, 6, 6], [6, 14, 19]), ([20, 6], [6, 20]), ([11, 21, 6], [6, 11, 21]), ([6, 22], [6, 22])])
def spec_LogOk.B4 : List Nat := [0, 0, 3, 7, 15, 31, 63, 127, 127, 511, 1023, 2047, 127, 127, 12415, 127, 127, 98431, 229503, 491647, 1044607, 2093183, 4194303, 8388607]
theorem spec_LogOk.tab4 : rtab .any (opsOf Tryd.f43 4) = spec_LogOk.T4 := by kernel_rfl
theorem spec_LogOk.bits4 : waitsOk spec_LogOk.T4.2 spec_LogOk.B4 = true := by kernel_rfl
set_option maxHeartbeats 8000000 in
set_option maxRecDepth 100000 in
theorem spec_LogOk.calls (k : Nat) (A0 : Option Addr) (c0 : Nat) (l0 : List (S44)) (r : Bool) (w : World) (hr0 : Kd.C k44 w A0 l0.length l0) (hc0 : l0.length ≤ c0) (h : spec_LogOk.f k l0 = some r) :
  Calls Tryd.prog 43 #[.slice A0 l0.length c0] w fun e w' => e = .returned (.bool r) ∧ Below w.heap.size w w' := by
 have hu44 := Tryd.underlying44
 have HR0 := Aside0.mk hr0
 have HC0 := Aside0.mk hc0
 clear hr0 hc0
 have HB := Aside0.mk (Below.refl w.heap.size w)
 unfold spec_LogOk.f at h
 have H := h
 clear h
 have H' := Aside0.mk H
 clear H
 go_enter Tryd.func43, Tryd.ntmps43
 go_wp2
 go_loopg [3] k (fun kq v3 w' => ∃ (x3_1 : Int), v3 = .int .i64 x3_1 ∧ Aside0 (spec_LogOk.l0 kq l0 x3_1 = some r) ∧ Aside0 (kq ≤ k) ∧ Aside0 (Below w.heap.size w w'))
 case atStart => exact ⟨(0), (si_), H', ⟨Nat.le_refl _⟩, ⟨bel_⟩⟩
 case round =>
  clear H'
  obtain ⟨x3_1, rfl, HA, HK1, HB⟩ := hrel
  cases gk with
  | zero => exact absurd HA.out (by simp [spec_LogOk.l0])
  | succ k1 =>
   have H := HA.out
   clear HA
   simp only [spec_LogOk.l0] at H
   by_cases c2 : x3_1 < (l0.length : Int)
   ·rw [if_pos c2] at H
    have c2b0 : decide (x3_1 < (l0.length : Int)) = true := decide_eq_true c2
    clear c2
    by_cases c3 : 0 ≤ x3_1
    ·rw [if_pos c3] at H
     have c3b0 : decide (0 ≤ x3_1) = true := decide_eq_true c3
     clear c3
     replace H := Option.bind_eq_some_iff.mp H
     obtain ⟨t426, A40, H⟩ := H
     try dsimp only at H
     have A4 := Aside0.mk A40
     clear A40
     by_cases c5 : t426 = true
     ·subst c5
      have H1 : (if x3_1 ≤ (l0.length : Int) then ((spec_l12Seq.f k1 (l0.take (x3_1 : Int).toNat) ((rd_T44 l0 x3_1).f0)).bind fun t433 => (if ((rd_T44 l0 x3_1).f1) = (wrap64 (t433 + 1)) then (spec_LogOk.l0 k1 l0 (wrap64 (x3_1 + 1))) else (some false))) else (none)) = some r := by rw [if_pos rfl] at H; exact H
      clear H
      have H := H1
      clear H1
      have c6b0 := eq_true (od_ : 0 ≤ x3_1)
      by_cases c7 : x3_1 ≤ (l0.length : Int)
      ·rw [if_pos c7] at H
       have c7b0 := eq_true c7
       have c7b1 : decide (x3_1 ≤ (l0.length : Int)) = true := decide_eq_true c7
       clear c7
       obtain ⟨y428, hy428⟩ : ∃ y_ : List (S44), y_ = (l0.take (x3_1 : Int).toNat) := ⟨_, rfl⟩
       replace H : ((spec_l12Seq.f k1 y428 ((rd_T44 l0 x3_1).f0)).bind fun t433 => (if ((rd_T44 l0 x3_1).f1) = (wrap64 (t433 + 1)) then (spec_LogOk.l0 k1 l0 (wrap64 (x3_1 + 1))) else (some false))) = some r := by first | (rw [hy428]; with_reducible exact H) | (have H2_ := (Option.bind_some _ _).symm.trans H; rw [hy428]; with_reducible exact H2_) | (have H2_ := (Option.bind_some _ _).symm.trans H; with_reducible exact H2_) | with_reducible exact H | (rw [hy428]; exact H) | exact H
       have Ny428 := Aside0.mk hy428
       clear hy428
       replace H := Option.bind_eq_some_iff.mp H
       obtain ⟨t433, A80, H⟩ := H
       try dsimp only at H
       have A8 := Aside0.mk A80
       clear A80
       by_cases c9 : ((rd_T44 l0 x3_1).f1) = (wrap64 (t433 + 1))
       ·rw [if_pos c9] at H
        have c9b0 : (((rd_T44 l0 x3_1).f1) == (wrap64 (t433 + 1))) = true := beq_iff_eq.mpr c9
        have c9b1 : (((rd_T44 l0 x3_1).f1) != (wrap64 (t433 + 1))) = false := bne_eq_false_iff_eq.mpr c9
        clear c9
        have H' := Aside0.mk H
        clear H
        try go_wp2
        have n0_ := Aside0.mk (below_drew1 HB.out)
        clear HB
        have HB := n0_
        clear n0_
        have p425 : 0 ≤ (x3_1 : Int) := od_
        have q425 : x3_1 < (l0.length : Int) := od_
        obtain ⟨ad425, e425, hx425_0, hx425_1, hx425_2, hx425_3, hx425_4, hx425_5, hx425_6⟩ := at_T44 HR0.out x3_1 p425 q425
        have hw425_6 := hx425_6
        have hw425_5 := hx425_5
        have hw425_4 := hx425_4
        have hw425_3 := hx425_3
        have hw425_2 := hx425_2
        have hw425_1 := hx425_1
        have hw425_0 := hx425_0
        cases e425
        replace hx425_0 := (cb_ HB.out hx425_0 :)
        replace hx425_1 := (cb_ HB.out hx425_1 :)
        replace hx425_2 := (cb_ HB.out hx425_2 :)
        replace hx425_3 := (cb_ HB.out hx425_3 :)
        replace hx425_4 := (cb_ HB.out hx425_4 :)
        replace hx425_5 := (cb_ HB.out hx425_5 :)
        replace hx425_6 := (cb_ HB.out hx425_6 :)
        replace p425 := eq_true p425
        replace q425 := eq_true q425
        have p427 : 0 ≤ (x3_1 : Int) := od_
        have q427 : x3_1 < (l0.length : Int) := od_
        obtain ⟨ad427, e427, hx427_0, hx427_1, hx427_2, hx427_3, hx427_4, hx427_5, hx427_6⟩ := at_T44 HR0.out x3_1 p427 q427
        have hw427_6 := hx427_6
        have hw427_5 := hx427_5
        have hw427_4 := hx427_4
        have hw427_3 := hx427_3
        have hw427_2 := hx427_2
        have hw427_1 := hx427_1
        have hw427_0 := hx427_0
        obtain rfl : ad425 = ad427 := (by injection e427)
        replace hx427_0 := (cb_ HB.out hx427_0 :)
        replace hx427_1 := (cb_ HB.out hx427_1 :)
        replace hx427_2 := (cb_ HB.out hx427_2 :)
        replace hx427_3 := (cb_ HB.out hx427_3 :)
        replace hx427_4 := (cb_ HB.out hx427_4 :)
        replace hx427_5 := (cb_ HB.out hx427_5 :)
        replace hx427_6 := (cb_ HB.out hx427_6 :)
        replace p427 := eq_true p427
        replace q427 := eq_true q427
        have p432 : 0 ≤ (x3_1 : Int) := od_
        have q432 : x3_1 < (l0.length : Int) := od_
        obtain ⟨ad432, e432, hx432_0, hx432_1, hx432_2, hx432_3, hx432_4, hx432_5, hx432_6⟩ := at_T44 HR0.out x3_1 p432 q432
        have hw432_6 := hx432_6
        have hw432_5 := hx432_5
        have hw432_4 := hx432_4
        have hw432_3 := hx432_3
        have hw432_2 := hx432_2
        have hw432_1 := hx432_1
        have hw432_0 := hx432_0
        obtain rfl : ad425 = ad432 := (by injection e432)
        replace hx432_0 := (cb_ HB.out hx432_0 :)
        replace hx432_1 := (cb_ HB.out hx432_1 :)
        replace hx432_2 := (cb_ HB.out hx432_2 :)
        replace hx432_3 := (cb_ HB.out hx432_3 :)
        replace hx432_4 := (cb_ HB.out hx432_4 :)
        replace hx432_5 := (cb_ HB.out hx432_5 :)
        replace hx432_6 := (cb_ HB.out hx432_6 :)
        replace p432 := eq_true p432
        replace q432 := eq_true q432
        refine start_ (n := 24) (S := fun w' => w'.cell? (ad425.add ((x3_1).toNat * 7)) = some (.int .i64 ((rd_T44 l0 x3_1).f0)) ∧ w'.cell? ⟨(ad425.add ((x3_1).toNat * 7)).block, (ad425.add ((x3_1).toNat * 7)).off + 1, none⟩ = some (.int .i64 ((rd_T44 l0 x3_1).f1)) ∧ w'.cell? ⟨(ad425.add ((x3_1).toNat * 7)).block, (ad425.add ((x3_1).toNat * 7)).off + 2, none⟩ = some (.int .i64 ((rd_T44 l0 x3_1).f2.f0)) ∧ w'.cell? ⟨(ad425.add ((x3_1).toNat * 7)).block, (ad425.add ((x3_1).toNat * 7)).off + 3, none⟩ = some (.int .i64 ((rd_T44 l0 x3_1).f2.f1)) ∧ w'.cell? ⟨(ad425.add ((x3_1).toNat * 7)).block, (ad425.add ((x3_1).toNat * 7)).off + 4, none⟩ = some (.int .i64 ((rd_T44 l0 x3_1).f2.f2)) ∧ w'.cell? ⟨(ad425.add ((x3_1).toNat * 7)).block, (ad425.add ((x3_1).toNat * 7)).off + 5, none⟩ = some (.int .i64 ((rd_T44 l0 x3_1).f2.f3)) ∧ w'.cell? ⟨(ad425.add ((x3_1).toNat * 7)).block, (ad425.add ((x3_1).toNat * 7)).off + 6, none⟩ = some (.string ((rd_T44 l0 x3_1).f2.f4)) ∧ w'.cell? (ad425.add ((x3_1).toNat * 7)) = some (.int .i64 ((rd_T44 l0 x3_1).f0)) ∧ w'.cell? ⟨(ad425.add ((x3_1).toNat * 7)).block, (ad425.add ((x3_1).toNat * 7)).off + 1, none⟩ = some (.int .i64 ((rd_T44 l0 x3_1).f1)) ∧ w'.cell? ⟨(ad425.add ((x3_1).toNat * 7)).block, (ad425.add ((x3_1).toNat * 7)).off + 2, none⟩ = some (.int .i64 ((rd_T44 l0 x3_1).f2.f0)) ∧ w'.cell? ⟨(ad425.add ((x3_1).toNat * 7)).block, (ad425.add ((x3_1).toNat * 7)).off + 3, none⟩ = some (.int .i64 ((rd_T44 l0 x3_1).f2.f1)) ∧ w'.cell? ⟨(ad425.add ((x3_1).toNat * 7)).block, (ad425.add ((x3_1).toNat * 7)).off + 4, none⟩ = some (.int .i64 ((rd_T44 l0 x3_1).f2.f2)) ∧ w'.cell? ⟨(ad425.add ((x3_1).toNat * 7)).block, (ad425.add ((x3_1).toNat * 7)).off + 5, none⟩ = some (.int .i64 ((rd_T44 l0 x3_1).f2.f3)) ∧ w'.cell? ⟨(ad425.add ((x3_1).toNat * 7)).block, (ad425.add ((x3_1).toNat * 7)).off + 6, none⟩ = some (.string ((rd_T44 l0 x3_1).f2.f4)) ∧ w'.cell? (ad425.add ((x3_1).toNat * 7)) = some (.int .i64 ((rd_T44 l0 x3_1).f0)) ∧ w'.cell? ⟨(ad425.add ((x3_1).toNat * 7)).block, (ad425.add ((x3_1).toNat * 7)).off + 1, none⟩ = some (.int .i64 ((rd_T44 l0 x3_1).f1)) ∧ w'.cell? ⟨(ad425.add ((x3_1).toNat * 7)).block, (ad425.add ((x3_1).toNat * 7)).off + 2, none⟩ = some (.int .i64 ((rd_T44 l0 x3_1).f2.f0)) ∧ w'.cell? ⟨(ad425.add ((x3_1).toNat * 7)).block, (ad425.add ((x3_1).toNat * 7)).off + 3, none⟩ = some (.int .i64 ((rd_T44 l0 x3_1).f2.f1)) ∧ w'.cell? ⟨(ad425.add ((x3_1).toNat * 7)).block, (ad425.add ((x3_1).toNat * 7)).off + 4, none⟩ = some (.int .i64 ((rd_T44 l0 x3_1).f2.f2)) ∧ w'.cell? ⟨(ad425.add ((x3_1).toNat * 7)).block, (ad425.add ((x3_1).toNat * 7)).off + 5, none⟩ = some (.int .i64 ((rd_T44 l0 x3_1).f2.f3)) ∧ w'.cell? ⟨(ad425.add ((x3_1).toNat * 7)).block, (ad425.add ((x3_1).toNat * 7)).off + 6, none⟩ = some (.string ((rd_T44 l0 x3_1).f2.f4))) (ds := []) #[false, false, false, false, false, false, false, false, false, false, false, false, false, false, false, false, false, false, false, false, false, false, false, false] (by kernel_rfl) rfl rfl ⟨((cb_ HB.out hw425_0 :)), ((cb_ HB.out hw425_1 :)), ((cb_ HB.out hw425_2 :)), ((cb_ HB.out hw425_3 :)), ((cb_ HB.out hw425_4 :)), ((cb_ HB.out hw425_5 :)), ((cb_ HB.out hw425_6 :)), ((cb_ HB.out hw427_0 :)), ((cb_ HB.out hw427_1 :)), ((cb_ HB.out hw427_2 :)), ((cb_ HB.out hw427_3 :)), ((cb_ HB.out hw427_4 :)), ((cb_ HB.out hw427_5 :)), ((cb_ HB.out hw427_6 :)), ((cb_ HB.out hw432_0 :)), ((cb_ HB.out hw432_1 :)), ((cb_ HB.out hw432_2 :)), ((cb_ HB.out hw432_3 :)), ((cb_ HB.out hw432_4 :)), ((cb_ HB.out hw432_5 :)), ((cb_ HB.out hw432_6 :))⟩ (fun hHeld => ?_); refine with_tabW spec_LogOk.tab4 spec_LogOk.bits4 (fun HT_ HW_ => ?_)
        generalize wr.drew = w10 at HB hx425_0 hx425_1 hx425_2 hx425_3 hx425_4 hx425_5 hx425_6 hx427_0 hx427_1 hx427_2 hx427_3 hx427_4 hx427_5 hx427_6 hx432_0 hx432_1 hx432_2 hx432_3 hx432_4 hx432_5 hx432_6 hHeld ⊢
        refine pa_ 0 10 ?_
        refine pa_ 1 11 ?_
        refine pa_ 2 12 ?_
        refine ta21_ 3 13 hHeld ?_
        refine on_ 4 14 (fun K hK => ?_)
        refine goes_ Tryd.func30 (by kernel_rfl) rfl #[.agg #[.int .i64 ((rd_T44 l0 x3_1).f0), .int .i64 ((rd_T44 l0 x3_1).f1), .int .i64 ((rd_T44 l0 x3_1).f2.f0), .int .i64 ((rd_T44 l0 x3_1).f2.f1), .int .i64 ((rd_T44 l0 x3_1).f2.f2), .int .i64 ((rd_T44 l0 x3_1).f2.f3), .string ((rd_T44 l0 x3_1).f2.f4)]] (by rfl) rfl rfl ar_ ?_
        with_reducible refine (spec_EntryOk.calls k1 ((rd_T44 l0 x3_1).f0) ((rd_T44 l0 x3_1).f1) ((rd_T44 l0 x3_1).f2.f0) ((rd_T44 l0 x3_1).f2.f1) ((rd_T44 l0 x3_1).f2.f2) ((rd_T44 l0 x3_1).f2.f3) ((rd_T44 l0 x3_1).f2.f4) true _ A4.out).mono ?_
        rintro e w11 ⟨rfl, hb⟩
        refine ⟨_, rfl, ?_⟩
        have n0_ := Aside0.mk (below_step (bel_) hb)
        clear HB
        have HB := n0_
        clear n0_
        (try clear hb)
        (try clear hb2)
        (try clear hk)
        (try clear hi)
        have q12 : (x3_1 : Int) ≤ ((l0.length : Int) : Int) := od_
        obtain ⟨i012, hi012, _, hsz12, _⟩ := info_parts info44
        have hroom12 : l0.length ≤ c0 := HC0.out
        have hC12 : Kd.C k44 _ (some ad425) l0.length l0 := HR0.out
        have hcut12 := cut_to (P := Tryd.prog) 23 44 .i64 Tryd.underlying23 hi012 (some ad425) l0.length c0 x3_1 (od_) q12 hroom12
        have hr12 := Kd.C_take (m := (x3_1 : Int).toNat) hC12 (by omega)
        have hy12 : y428.length = (x3_1 : Int).toNat := (by rw [Ny428.out, List.length_take]; omega)
        rw [← Ny428.out] at hr12
        rw [← hy12] at hcut12
        have HR431 := Aside0.mk hr12
        have HC431 := Aside0.mk (show y428.length ≤ c0 from by omega)
        clear hr12 hC12 hroom12 hi012 hsz12
        have KY12 := Aside0.mk hy12
        clear hy12
        replace q12 := eq_true q12
        refine hK.out _ _ ⟨((cb_ HB.out hw425_0 :)), ((cb_ HB.out hw425_1 :)), ((cb_ HB.out hw425_2 :)), ((cb_ HB.out hw425_3 :)), ((cb_ HB.out hw425_4 :)), ((cb_ HB.out hw425_5 :)), ((cb_ HB.out hw425_6 :)), ((cb_ HB.out hw427_0 :)), ((cb_ HB.out hw427_1 :)), ((cb_ HB.out hw427_2 :)), ((cb_ HB.out hw427_3 :)), ((cb_ HB.out hw427_4 :)), ((cb_ HB.out hw427_5 :)), ((cb_ HB.out hw427_6 :)), ((cb_ HB.out hw432_0 :)), ((cb_ HB.out hw432_1 :)), ((cb_ HB.out hw432_2 :)), ((cb_ HB.out hw432_3 :)), ((cb_ HB.out hw432_4 :)), ((cb_ HB.out hw432_5 :)), ((cb_ HB.out hw432_6 :))⟩ (fun hHeld => ?_)
        clear hK K
        refine no_ 14 ?_
        refine pa_ 5 15 ?_
        refine pa_ 6 16 ?_
        refine pa_ 7 17 ?_
        refine pa_ 8 18 ?_
        refine pa_ 9 19 ?_
        refine pa_ 10 20 ?_
        refine pa_ 12 22 ?_
        refine pa_ 13 23 ?_
        refine pa_ 14 24 ?_
        refine pa_ 15 25 ?_
        refine pa_ 16 26 ?_
        refine pa_ 17 27 ?_
        refine pa_ 18 28 ?_
        refine ta21_ 11 21 hHeld ?_
        refine ta21_ 19 29 hHeld ?_
        refine on_ 20 30 (fun K hK => ?_)
        refine goes_ Tryd.func90 (by kernel_rfl) rfl #[.slice (some ad425) y428.length c0, .int .i64 ((rd_T44 l0 x3_1).f0)] (by rfl) rfl rfl ar_ ?_
        with_reducible refine (spec_l12Seq.calls k1 _ _ y428 ((rd_T44 l0 x3_1).f0) t433 _ ?side1 ?side2 A8.out).mono ?_
        (case side1 => exact cp_ HR431.out)
        (case side2 => exact HC431.out)
        rintro e w' ⟨rfl, ⟨nd, rfl⟩⟩
        refine ⟨_, rfl, ?_⟩
        refine hK.out _ _ ⟨((cb_ HB.out hw425_0 :)), ((cb_ HB.out hw425_1 :)), ((cb_ HB.out hw425_2 :)), ((cb_ HB.out hw425_3 :)), ((cb_ HB.out hw425_4 :)), ((cb_ HB.out hw425_5 :)), ((cb_ HB.out hw425_6 :)), ((cb_ HB.out hw427_0 :)), ((cb_ HB.out hw427_1 :)), ((cb_ HB.out hw427_2 :)), ((cb_ HB.out hw427_3 :)), ((cb_ HB.out hw427_4 :)), ((cb_ HB.out hw427_5 :)), ((cb_ HB.out hw427_6 :)), ((cb_ HB.out hw432_0 :)), ((cb_ HB.out hw432_1 :)), ((cb_ HB.out hw432_2 :)), ((cb_ HB.out hw432_3 :)), ((cb_ HB.out hw432_4 :)), ((cb_ HB.out hw432_5 :)), ((cb_ HB.out hw432_6 :))⟩ (fun hHeld => ?_)
        clear hK K
        refine no_ 30 ?_
        refine pa_ 21 31 ?_
        refine pa_ 22 32 ?_
        refine pa_ 23 33 ?_
        refine done_ (done_of HT_.out (by kernel_rfl)) ?_
        try go_wp2
        go_roundg k1
        case measure => have := HK1.out; omega
        case rel => exact ⟨(wrap64 (x3_1 + 1)), (si_), H', ⟨by have := HK1.out; omega⟩, ⟨bel_⟩⟩
       ·rw [if_neg c9] at H
        have c9b0 : (((rd_T44 l0 x3_1).f1) == (wrap64 (t433 + 1))) = false := beq_eq_false_iff_ne.mpr c9
        have c9b1 : (((rd_T44 l0 x3_1).f1) != (wrap64 (t433 + 1))) = true := bne_iff_ne.mpr c9
        obtain rfl := Option.some.inj H
        try go_wp2
        have n0_ := Aside0.mk (below_drew1 HB.out)
        clear HB
        have HB := n0_
        clear n0_
        have p425 : 0 ≤ (x3_1 : Int) := od_
        have q425 : x3_1 < (l0.length : Int) := od_
        obtain ⟨ad425, e425, hx425_0, hx425_1, hx425_2, hx425_3, hx425_4, hx425_5, hx425_6⟩ := at_T44 HR0.out x3_1 p425 q425
        have hw425_6 := hx425_6
        have hw425_5 := hx425_5
        have hw425_4 := hx425_4
        have hw425_3 := hx425_3
        have hw425_2 := hx425_2
        have hw425_1 := hx425_1
        have hw425_0 := hx425_0
        cases e425
        replace hx425_0 := (cb_ HB.out hx425_0 :)
        replace hx425_1 := (cb_ HB.out hx425_1 :)
        replace hx425_2 := (cb_ HB.out hx425_2 :)
        replace hx425_3 := (cb_ HB.out hx425_3 :)
        replace hx425_4 := (cb_ HB.out hx425_4 :)
        replace hx425_5 := (cb_ HB.out hx425_5 :)
        replace hx425_6 := (cb_ HB.out hx425_6 :)
        replace p425 := eq_true p425
        replace q425 := eq_true q425
        have p427 : 0 ≤ (x3_1 : Int) := od_
        have q427 : x3_1 < (l0.length : Int) := od_
        obtain ⟨ad427, e427, hx427_0, hx427_1, hx427_2, hx427_3, hx427_4, hx427_5, hx427_6⟩ := at_T44 HR0.out x3_1 p427 q427
        have hw427_6 := hx427_6
        have hw427_5 := hx427_5
        have hw427_4 := hx427_4
        have hw427_3 := hx427_3
        have hw427_2 := hx427_2
        have hw427_1 := hx427_1
        have hw427_0 := hx427_0
        obtain rfl : ad425 = ad427 := (by injection e427)
        replace hx427_0 := (cb_ HB.out hx427_0 :)
        replace hx427_1 := (cb_ HB.out hx427_1 :)
        replace hx427_2 := (cb_ HB.out hx427_2 :)
        replace hx427_3 := (cb_ HB.out hx427_3 :)
        replace hx427_4 := (cb_ HB.out hx427_4 :)
        replace hx427_5 := (cb_ HB.out hx427_5 :)
        replace hx427_6 := (cb_ HB.out hx427_6 :)
        replace p427 := eq_true p427
        replace q427 := eq_true q427
        have p432 : 0 ≤ (x3_1 : Int) := od_
        have q432 : x3_1 < (l0.length : Int) := od_
        obtain ⟨ad432, e432, hx432_0, hx432_1, hx432_2, hx432_3, hx432_4, hx432_5, hx432_6⟩ := at_T44 HR0.out x3_1 p432 q432
        have hw432_6 := hx432_6
        have hw432_5 := hx432_5
        have hw432_4 := hx432_4
        have hw432_3 := hx432_3
        have hw432_2 := hx432_2
        have hw432_1 := hx432_1
        have hw432_0 := hx432_0
        obtain rfl : ad425 = ad432 := (by injection e432)
        replace hx432_0 := (cb_ HB.out hx432_0 :)
        replace hx432_1 := (cb_ HB.out hx432_1 :)
        replace hx432_2 := (cb_ HB.out hx432_2 :)
        replace hx432_3 := (cb_ HB.out hx432_3 :)
        replace hx432_4 := (cb_ HB.out hx432_4 :)
        replace hx432_5 := (cb_ HB.out hx432_5 :)
        replace hx432_6 := (cb_ HB.out hx432_6 :)
        replace p432 := eq_true p432
        replace q432 := eq_true q432
        refine start_ (n := 24) (S := fun w' => w'.cell? (ad425.add ((x3_1).toNat * 7)) = some (.int .i64 ((rd_T44 l0 x3_1).f0)) ∧ w'.cell? ⟨(ad425.add ((x3_1).toNat * 7)).block, (ad425.add ((x3_1).toNat * 7)).off + 1, none⟩ = some (.int .i64 ((rd_T44 l0 x3_1).f1)) ∧ w'.cell? ⟨(ad425.add ((x3_1).toNat * 7)).block, (ad425.add ((x3_1).toNat * 7)).off + 2, none⟩ = some (.int .i64 ((rd_T44 l0 x3_1).f2.f0)) ∧ w'.cell? ⟨(ad425.add ((x3_1).toNat * 7)).block, (ad425.add ((x3_1).toNat * 7)).off + 3, none⟩ = some (.int .i64 ((rd_T44 l0 x3_1).f2.f1)) ∧ w'.cell? ⟨(ad425.add ((x3_1).toNat * 7)).block, (ad425.add ((x3_1).toNat * 7)).off + 4, none⟩ = some (.int .i64 ((rd_T44 l0 x3_1).f2.f2)) ∧ w'.cell? ⟨(ad425.add ((x3_1).toNat * 7)).block, (ad425.add ((x3_1).toNat * 7)).off + 5, none⟩ = some (.int .i64 ((rd_T44 l0 x3_1).f2.f3)) ∧ w'.cell? ⟨(ad425.add ((x3_1).toNat * 7)).block, (ad425.add ((x3_1).toNat * 7)).off + 6, none⟩ = some (.string ((rd_T44 l0 x3_1).f2.f4)) ∧ w'.cell? (ad425.add ((x3_1).toNat * 7)) = some (.int .i64 ((rd_T44 l0 x3_1).f0)) ∧ w'.cell? ⟨(ad425.add ((x3_1).toNat * 7)).block, (ad425.add ((x3_1).toNat * 7)).off + 1, none⟩ = some (.int .i64 ((rd_T44 l0 x3_1).f1)) ∧ w'.cell? ⟨(ad425.add ((x3_1).toNat * 7)).block, (ad425.add ((x3_1).toNat * 7)).off + 2, none⟩ = some (.int .i64 ((rd_T44 l0 x3_1).f2.f0)) ∧ w'.cell? ⟨(ad425.add ((x3_1).toNat * 7)).block, (ad425.add ((x3_1).toNat * 7)).off + 3, none⟩ = some (.int .i64 ((rd_T44 l0 x3_1).f2.f1)) ∧ w'.cell? ⟨(ad425.add ((x3_1).toNat * 7)).block, (ad425.add ((x3_1).toNat * 7)).off + 4, none⟩ = some (.int .i64 ((rd_T44 l0 x3_1).f2.f2)) ∧ w'.cell? ⟨(ad425.add ((x3_1).toNat * 7)).block, (ad425.add ((x3_1).toNat * 7)).off + 5, none⟩ = some (.int .i64 ((rd_T44 l0 x3_1).f2.f3)) ∧ w'.cell? ⟨(ad425.add ((x3_1).toNat * 7)).block, (ad425.add ((x3_1).toNat * 7)).off + 6, none⟩ = some (.string ((rd_T44 l0 x3_1).f2.f4)) ∧ w'.cell? (ad425.add ((x3_1).toNat * 7)) = some (.int .i64 ((rd_T44 l0 x3_1).f0)) ∧ w'.cell? ⟨(ad425.add ((x3_1).toNat * 7)).block, (ad425.add ((x3_1).toNat * 7)).off + 1, none⟩ = some (.int .i64 ((rd_T44 l0 x3_1).f1)) ∧ w'.cell? ⟨(ad425.add ((x3_1).toNat * 7)).block, (ad425.add ((x3_1).toNat * 7)).off + 2, none⟩ = some (.int .i64 ((rd_T44 l0 x3_1).f2.f0)) ∧ w'.cell? ⟨(ad425.add ((x3_1).toNat * 7)).block, (ad425.add ((x3_1).toNat * 7)).off + 3, none⟩ = some (.int .i64 ((rd_T44 l0 x3_1).f2.f1)) ∧ w'.cell? ⟨(ad425.add ((x3_1).toNat * 7)).block, (ad425.add ((x3_1).toNat * 7)).off + 4, none⟩ = some (.int .i64 ((rd_T44 l0 x3_1).f2.f2)) ∧ w'.cell? ⟨(ad425.add ((x3_1).toNat * 7)).block, (ad425.add ((x3_1).toNat * 7)).off + 5, none⟩ = some (.int .i64 ((rd_T44 l0 x3_1).f2.f3)) ∧ w'.cell? ⟨(ad425.add ((x3_1).toNat * 7)).block, (ad425.add ((x3_1).toNat * 7)).off + 6, none⟩ = some (.string ((rd_T44 l0 x3_1).f2.f4))) (ds := []) #[false, false, false, false, false, false, false, false, false, false, false, false, false, false, false, false, false, false, false, false, false, false, false, false] (by kernel_rfl) rfl rfl ⟨((cb_ HB.out hw425_0 :)), ((cb_ HB.out hw425_1 :)), ((cb_ HB.out hw425_2 :)), ((cb_ HB.out hw425_3 :)), ((cb_ HB.out hw425_4 :)), ((cb_ HB.out hw425_5 :)), ((cb_ HB.out hw425_6 :)), ((cb_ HB.out hw427_0 :)), ((cb_ HB.out hw427_1 :)), ((cb_ HB.out hw427_2 :)), ((cb_ HB.out hw427_3 :)), ((cb_ HB.out hw427_4 :)), ((cb_ HB.out hw427_5 :)), ((cb_ HB.out hw427_6 :)), ((cb_ HB.out hw432_0 :)), ((cb_ HB.out hw432_1 :)), ((cb_ HB.out hw432_2 :)), ((cb_ HB.out hw432_3 :)), ((cb_ HB.out hw432_4 :)), ((cb_ HB.out hw432_5 :)), ((cb_ HB.out hw432_6 :))⟩ (fun hHeld => ?_); refine with_tabW spec_LogOk.tab4 spec_LogOk.bits4 (fun HT_ HW_ => ?_)
        generalize wr.drew = w13 at HB hx425_0 hx425_1 hx425_2 hx425_3 hx425_4 hx425_5 hx425_6 hx427_0 hx427_1 hx427_2 hx427_3 hx427_4 hx427_5 hx427_6 hx432_0 hx432_1 hx432_2 hx432_3 hx432_4 hx432_5 hx432_6 hHeld ⊢
        refine pa_ 0 10 ?_
        refine pa_ 1 11 ?_
        refine pa_ 2 12 ?_
        refine ta21_ 3 13 hHeld ?_
        refine on_ 4 14 (fun K hK => ?_)
        refine goes_ Tryd.func30 (by kernel_rfl) rfl #[.agg #[.int .i64 ((rd_T44 l0 x3_1).f0), .int .i64 ((rd_T44 l0 x3_1).f1), .int .i64 ((rd_T44 l0 x3_1).f2.f0), .int .i64 ((rd_T44 l0 x3_1).f2.f1), .int .i64 ((rd_T44 l0 x3_1).f2.f2), .int .i64 ((rd_T44 l0 x3_1).f2.f3), .string ((rd_T44 l0 x3_1).f2.f4)]] (by rfl) rfl rfl ar_ ?_
        with_reducible refine (spec_EntryOk.calls k1 ((rd_T44 l0 x3_1).f0) ((rd_T44 l0 x3_1).f1) ((rd_T44 l0 x3_1).f2.f0) ((rd_T44 l0 x3_1).f2.f1) ((rd_T44 l0 x3_1).f2.f2) ((rd_T44 l0 x3_1).f2.f3) ((rd_T44 l0 x3_1).f2.f4) true _ A4.out).mono ?_
        rintro e w14 ⟨rfl, hb⟩
        refine ⟨_, rfl, ?_⟩
        have n0_ := Aside0.mk (below_step (bel_) hb)
        clear HB
        have HB := n0_
        clear n0_
        (try clear hb)
        (try clear hb2)
        (try clear hk)
        (try clear hi)
        have q15 : (x3_1 : Int) ≤ ((l0.length : Int) : Int) := od_
        obtain ⟨i015, hi015, _, hsz15, _⟩ := info_parts info44
        have hroom15 : l0.length ≤ c0 := HC0.out
        have hC15 : Kd.C k44 _ (some ad425) l0.length l0 := HR0.out
        have hcut15 := cut_to (P := Tryd.prog) 23 44 .i64 Tryd.underlying23 hi015 (some ad425) l0.length c0 x3_1 (od_) q15 hroom15
        have hr15 := Kd.C_take (m := (x3_1 : Int).toNat) hC15 (by omega)
        have hy15 : y428.length = (x3_1 : Int).toNat := (by rw [Ny428.out, List.length_take]; omega)
        rw [← Ny428.out] at hr15
        rw [← hy15] at hcut15
        have HR431 := Aside0.mk hr15
        have HC431 := Aside0.mk (show y428.length ≤ c0 from by omega)
        clear hr15 hC15 hroom15 hi015 hsz15
        have KY15 := Aside0.mk hy15
        clear hy15
        replace q15 := eq_true q15
        refine hK.out _ _ ⟨((cb_ HB.out hw425_0 :)), ((cb_ HB.out hw425_1 :)), ((cb_ HB.out hw425_2 :)), ((cb_ HB.out hw425_3 :)), ((cb_ HB.out hw425_4 :)), ((cb_ HB.out hw425_5 :)), ((cb_ HB.out hw425_6 :)), ((cb_ HB.out hw427_0 :)), ((cb_ HB.out hw427_1 :)), ((cb_ HB.out hw427_2 :)), ((cb_ HB.out hw427_3 :)), ((cb_ HB.out hw427_4 :)), ((cb_ HB.out hw427_5 :)), ((cb_ HB.out hw427_6 :)), ((cb_ HB.out hw432_0 :)), ((cb_ HB.out hw432_1 :)), ((cb_ HB.out hw432_2 :)), ((cb_ HB.out hw432_3 :)), ((cb_ HB.out hw432_4 :)), ((cb_ HB.out hw432_5 :)), ((cb_ HB.out hw432_6 :))⟩ (fun hHeld => ?_)
        clear hK K
        refine no_ 14 ?_
        refine pa_ 5 15 ?_
        refine pa_ 6 16 ?_
        refine pa_ 7 17 ?_
        refine pa_ 8 18 ?_
        refine pa_ 9 19 ?_
        refine pa_ 10 20 ?_
        refine pa_ 12 22 ?_
        refine pa_ 13 23 ?_
        refine pa_ 14 24 ?_
        refine pa_ 15 25 ?_
        refine pa_ 16 26 ?_
        refine pa_ 17 27 ?_
        refine pa_ 18 28 ?_
        refine ta21_ 11 21 hHeld ?_
        refine ta21_ 19 29 hHeld ?_
        refine on_ 20 30 (fun K hK => ?_)
        refine goes_ Tryd.func90 (by kernel_rfl) rfl #[.slice (some ad425) y428.length c0, .int .i64 ((rd_T44 l0 x3_1).f0)] (by rfl) rfl rfl ar_ ?_
        with_reducible refine (spec_l12Seq.calls k1 _ _ y428 ((rd_T44 l0 x3_1).f0) t433 _ ?side1 ?side2 A8.out).mono ?_
        (case side1 => exact cp_ HR431.out)
        (case side2 => exact HC431.out)
        rintro e w' ⟨rfl, ⟨nd, rfl⟩⟩
        refine ⟨_, rfl, ?_⟩
        refine hK.out _ _ ⟨((cb_ HB.out hw425_0 :)), ((cb_ HB.out hw425_1 :)), ((cb_ HB.out hw425_2 :)), ((cb_ HB.out hw425_3 :)), ((cb_ HB.out hw425_4 :)), ((cb_ HB.out hw425_5 :)), ((cb_ HB.out hw425_6 :)), ((cb_ HB.out hw427_0 :)), ((cb_ HB.out hw427_1 :)), ((cb_ HB.out hw427_2 :)), ((cb_ HB.out hw427_3 :)), ((cb_ HB.out hw427_4 :)), ((cb_ HB.out hw427_5 :)), ((cb_ HB.out hw427_6 :)), ((cb_ HB.out hw432_0 :)), ((cb_ HB.out hw432_1 :)), ((cb_ HB.out hw432_2 :)), ((cb_ HB.out hw432_3 :)), ((cb_ HB.out hw432_4 :)), ((cb_ HB.out hw432_5 :)), ((cb_ HB.out hw432_6 :))⟩ (fun hHeld => ?_)
        clear hK K
        refine no_ 30 ?_
        refine pa_ 21 31 ?_
        refine pa_ 22 32 ?_
        refine pa_ 23 33 ?_
        refine done_ (done_of HT_.out (by kernel_rfl)) ?_
        try go_wp2
        go_ret
        exact ⟨fi_, bel_⟩
      ·rw [if_neg c7] at H
       exact absurd H (by simp)
     ·replace c5 := Bool.eq_false_iff.mpr c5
      subst c5
      have H1 : (some false) = some r := by rw [if_neg (show ¬ (false = true) by decide)] at H; exact H
      clear H
      have H := H1
      clear H1
      obtain rfl := Option.some.inj H
      try go_wp2
      have n0_ := Aside0.mk (below_drew1 HB.out)
      clear HB
      have HB := n0_
      clear n0_
      have p425 : 0 ≤ (x3_1 : Int) := od_
      have q425 : x3_1 < (l0.length : Int) := od_
      obtain ⟨ad425, e425, hx425_0, hx425_1, hx425_2, hx425_3, hx425_4, hx425_5, hx425_6⟩ := at_T44 HR0.out x3_1 p425 q425
      have hw425_6 := hx425_6
      have hw425_5 := hx425_5
      have hw425_4 := hx425_4
      have hw425_3 := hx425_3
      have hw425_2 := hx425_2
      have hw425_1 := hx425_1
      have hw425_0 := hx425_0
      cases e425
      replace hx425_0 := (cb_ HB.out hx425_0 :)
      replace hx425_1 := (cb_ HB.out hx425_1 :)
      replace hx425_2 := (cb_ HB.out hx425_2 :)
      replace hx425_3 := (cb_ HB.out hx425_3 :)
      replace hx425_4 := (cb_ HB.out hx425_4 :)
      replace hx425_5 := (cb_ HB.out hx425_5 :)
      replace hx425_6 := (cb_ HB.out hx425_6 :)
      replace p425 := eq_true p425
      replace q425 := eq_true q425
      refine start_ (n := 24) (S := fun w' => w'.cell? (ad425.add ((x3_1).toNat * 7)) = some (.int .i64 ((rd_T44 l0 x3_1).f0)) ∧ w'.cell? ⟨(ad425.add ((x3_1).toNat * 7)).block, (ad425.add ((x3_1).toNat * 7)).off + 1, none⟩ = some (.int .i64 ((rd_T44 l0 x3_1).f1)) ∧ w'.cell? ⟨(ad425.add ((x3_1).toNat * 7)).block, (ad425.add ((x3_1).toNat * 7)).off + 2, none⟩ = some (.int .i64 ((rd_T44 l0 x3_1).f2.f0)) ∧ w'.cell? ⟨(ad425.add ((x3_1).toNat * 7)).block, (ad425.add ((x3_1).toNat * 7)).off + 3, none⟩ = some (.int .i64 ((rd_T44 l0 x3_1).f2.f1)) ∧ w'.cell? ⟨(ad425.add ((x3_1).toNat * 7)).block, (ad425.add ((x3_1).toNat * 7)).off + 4, none⟩ = some (.int .i64 ((rd_T44 l0 x3_1).f2.f2)) ∧ w'.cell? ⟨(ad425.add ((x3_1).toNat * 7)).block, (ad425.add ((x3_1).toNat * 7)).off + 5, none⟩ = some (.int .i64 ((rd_T44 l0 x3_1).f2.f3)) ∧ w'.cell? ⟨(ad425.add ((x3_1).toNat * 7)).block, (ad425.add ((x3_1).toNat * 7)).off + 6, none⟩ = some (.string ((rd_T44 l0 x3_1).f2.f4))) (ds := []) #[false, false, false, false, false, false, false, false, false, false, false, false, false, false, false, false, false, false, false, false, false, false, false, false] (by kernel_rfl) rfl rfl ⟨((cb_ HB.out hw425_0 :)), ((cb_ HB.out hw425_1 :)), ((cb_ HB.out hw425_2 :)), ((cb_ HB.out hw425_3 :)), ((cb_ HB.out hw425_4 :)), ((cb_ HB.out hw425_5 :)), ((cb_ HB.out hw425_6 :))⟩ (fun hHeld => ?_); refine with_tabW spec_LogOk.tab4 spec_LogOk.bits4 (fun HT_ HW_ => ?_)
      generalize wr.drew = w16 at HB hx425_0 hx425_1 hx425_2 hx425_3 hx425_4 hx425_5 hx425_6 hHeld ⊢
      refine pa_ 0 10 ?_
      refine pa_ 1 11 ?_
      refine pa_ 2 12 ?_
      refine ta7_ 3 13 hHeld ?_
      refine on_ 4 14 (fun K hK => ?_)
      refine goes_ Tryd.func30 (by kernel_rfl) rfl #[.agg #[.int .i64 ((rd_T44 l0 x3_1).f0), .int .i64 ((rd_T44 l0 x3_1).f1), .int .i64 ((rd_T44 l0 x3_1).f2.f0), .int .i64 ((rd_T44 l0 x3_1).f2.f1), .int .i64 ((rd_T44 l0 x3_1).f2.f2), .int .i64 ((rd_T44 l0 x3_1).f2.f3), .string ((rd_T44 l0 x3_1).f2.f4)]] (by rfl) rfl rfl ar_ ?_
      with_reducible refine (spec_EntryOk.calls k1 ((rd_T44 l0 x3_1).f0) ((rd_T44 l0 x3_1).f1) ((rd_T44 l0 x3_1).f2.f0) ((rd_T44 l0 x3_1).f2.f1) ((rd_T44 l0 x3_1).f2.f2) ((rd_T44 l0 x3_1).f2.f3) ((rd_T44 l0 x3_1).f2.f4) false _ A4.out).mono ?_
      rintro e w17 ⟨rfl, hb⟩
      refine ⟨_, rfl, ?_⟩
      have n0_ := Aside0.mk (below_step (bel_) hb)
      clear HB
      have HB := n0_
      clear n0_
      (try clear hb)
      (try clear hb2)
      (try clear hk)
      (try clear hi)
      refine hK.out _ _ ⟨((cb_ HB.out hw425_0 :)), ((cb_ HB.out hw425_1 :)), ((cb_ HB.out hw425_2 :)), ((cb_ HB.out hw425_3 :)), ((cb_ HB.out hw425_4 :)), ((cb_ HB.out hw425_5 :)), ((cb_ HB.out hw425_6 :))⟩ (fun hHeld => ?_)
      clear hK K
      refine no_ 14 ?_
      refine pa_ 5 15 ?_
      refine pa_ 6 16 ?_
      refine po_ 7 17 ?_
      refine po_ 8 18 ?_
      refine po_ 9 19 ?_
      refine po_ 10 20 ?_
      refine po_ 11 21 ?_
      refine po_ 12 22 ?_
      refine po_ 13 23 ?_
      refine po_ 14 24 ?_
      refine po_ 15 25 ?_
      refine po_ 16 26 ?_
      refine po_ 17 27 ?_
      refine po_ 18 28 ?_
      refine po_ 19 29 ?_
      refine po_ 20 30 ?_
      refine po_ 21 31 ?_
      refine po_ 22 32 ?_
      refine pa_ 23 33 ?_
      refine done_ (done_of HT_.out (by kernel_rfl)) ?_
      try go_wp2
      go_ret
      exact ⟨fi_, bel_⟩
    ·rw [if_neg c3] at H
     exact absurd H (by simp)
   ·rw [if_neg c2] at H
    have c2b0 : decide (x3_1 < (l0.length : Int)) = false := decide_eq_false c2
    clear c2
    obtain rfl := Option.some.inj H
    go_wp2
    go_ret
    exact ⟨fi_, bel_⟩

end Go.Proofs.YtdpklbomhdpimaaDoor.P
namespace Go.Proofs.YtdpklbomhdpimaaDoor.FP
open Go.Proofs.YtdpklbomhdpimaaDoor.P
inductive Fo where
 | nil
 | nd (i : Nat) (t : ByteArray) (k n : Fo)
structure Nd where
 t : ByteArray
 up : Nat
 first : Nat
 next : Nat
def Fo.hd : Fo → Nat
 | .nil => 0
 | .nd i _ _ _ => i
def Fo.ids : Fo → List Nat
 | .nil => []
 | .nd i _ k n => i :: (k.ids ++ n.ids)
def Fo.tops : Fo → List Nat
 | .nil => []
 | .nd i _ _ n => i :: n.tops
def Fo.fl (d : Nat) : Fo → List S69
 | .nil => []
 | .nd i t k n => ⟨(i : Int), (d : Int), t⟩ :: (k.fl (d + 1) ++ n.fl d)
def Rep (h : Nat → Nd) (up : Nat) : Fo → Prop
 | .nil => True
 | .nd i t k n => i ≠ 0 ∧ h i = ⟨t, up, k.hd, n.hd⟩ ∧ Rep h i k ∧ Rep h up n
def insAfter (a i : Nat) (t : ByteArray) (s : Fo) : Fo → Fo
 | .nil => .nil
 | .nd j u k n => if j = a then .nd j u k (.nd i t s n) else .nd j u (insAfter a i t s k) (insAfter a i t s n)
def insFirst (p i : Nat) (t : ByteArray) (s : Fo) : Fo → Fo
 | .nil => .nil
 | .nd j u k n => if j = p then .nd j u (.nd i t s k) n else .nd j u (insFirst p i t s k) (insFirst p i t s n)
def del (x : Nat) : Fo → Fo
 | .nil => .nil
 | .nd j u k n => if j = x then n else .nd j u (del x k) (del x n)
def sub (x : Nat) : Fo → Fo
 | .nil => .nil
 | .nd j u k n => if j = x then k else if x ∈ k.ids then sub x k else sub x n
def attachH (h : Nat → Nd) (i up a : Nat) : Nat → Nd := fun j =>
 if a = 0 then
  if j = up then ⟨(h up).t, (h up).up, i, (h up).next⟩ else if j = i then ⟨(h i).t, up, (h i).first, (h up).first⟩ else h j
 else
  if j = a then ⟨(h a).t, (h a).up, (h a).first, i⟩ else if j = i then ⟨(h i).t, up, (h i).first, (h a).next⟩ else h j
def detachH (h : Nat → Nd) (x a : Nat) : Nat → Nd := fun j =>
 if j = x then ⟨(h x).t, 0, (h x).first, 0⟩
 else if a = 0 then (if j = (h x).up then ⟨(h j).t, (h j).up, (h x).next, (h j).next⟩ else h j)
 else (if j = a then ⟨(h j).t, (h j).up, (h j).first, (h x).next⟩ else h j)
theorem Rep.ext {h h' : Nat → Nd} {up : Nat} : ∀ {F : Fo}, Rep h up F → (∀ i ∈ F.ids, h' i = h i) → Rep h' up F
 | .nil, _, _ => trivial
 | .nd i t k n, ⟨h1, h2, h3, h4⟩, e => ⟨h1, (e i (by simp [Fo.ids])).trans h2, Rep.ext h3 fun j hj => e j (by simp [Fo.ids, hj]), Rep.ext h4 fun j hj => e j (by simp [Fo.ids, hj])⟩
theorem Rep.ne0 {h : Nat → Nd} {up : Nat} : ∀ {F : Fo}, Rep h up F → ∀ i ∈ F.ids, i ≠ 0
 | .nil, _, i, hi => by simp [Fo.ids] at hi
 | .nd j t k n, ⟨h1, h2, h3, h4⟩, i, hi => by
  simp only [Fo.ids, List.mem_cons, List.mem_append] at hi
  rcases hi with rfl | hi | hi
  ·exact h1
  ·exact Rep.ne0 h3 i hi
  ·exact Rep.ne0 h4 i hi
theorem attachH_zero (h : Nat → Nd) (i up : Nat) (j : Nat) : attachH h i up 0 j = if j = up then ⟨(h up).t, (h up).up, i, (h up).next⟩ else if j = i then ⟨(h i).t, up, (h i).first, (h up).first⟩ else h j := rfl
theorem attachH_pos (h : Nat → Nd) (i up a : Nat) (ha : a ≠ 0) (j : Nat) : attachH h i up a j = if j = a then ⟨(h a).t, (h a).up, (h a).first, i⟩ else if j = i then ⟨(h i).t, up, (h i).first, (h a).next⟩ else h j := if_neg ha
theorem detachH_self (h : Nat → Nd) (x a : Nat) : detachH h x a x = ⟨(h x).t, 0, (h x).first, 0⟩ := if_pos rfl
theorem detachH_zero (h : Nat → Nd) (x : Nat) {j : Nat} (e : j ≠ x) : detachH h x 0 j = if j = (h x).up then ⟨(h j).t, (h j).up, (h x).next, (h j).next⟩ else h j := by unfold detachH; rw [if_neg e, if_pos rfl]
theorem detachH_pos (h : Nat → Nd) (x a : Nat) (ha : a ≠ 0) {j : Nat} (e : j ≠ x) : detachH h x a j = if j = a then ⟨(h j).t, (h j).up, (h j).first, (h x).next⟩ else h j := by unfold detachH; rw [if_neg e, if_neg ha]
structure Free (h : Nat → Nd) (i : Nat) (t : ByteArray) (s : Fo) : Prop where
 ne : i ≠ 0
 t : (h i).t = t
 first : (h i).first = s.hd
 rep : Rep h i s
 out : i ∉ s.ids
theorem insAfter_id (a i : Nat) (t : ByteArray) (s : Fo) : ∀ {F : Fo}, a ∉ F.ids → insAfter a i t s F = F
 | .nil, _ => rfl
 | .nd j u k n, h => by
  simp only [Fo.ids, List.mem_cons, List.mem_append, not_or] at h
  unfold insAfter
  rw [if_neg (fun e => h.1 e.symm), insAfter_id a i t s h.2.1, insAfter_id a i t s h.2.2]
theorem insFirst_id (p i : Nat) (t : ByteArray) (s : Fo) : ∀ {F : Fo}, p ∉ F.ids → insFirst p i t s F = F
 | .nil, _ => rfl
 | .nd j u k n, h => by
  simp only [Fo.ids, List.mem_cons, List.mem_append, not_or] at h
  unfold insFirst
  rw [if_neg (fun e => h.1 e.symm), insFirst_id p i t s h.2.1, insFirst_id p i t s h.2.2]
theorem del_id (x : Nat) : ∀ {F : Fo}, x ∉ F.ids → del x F = F
 | .nil, _ => rfl
 | .nd j u k n, h => by
  simp only [Fo.ids, List.mem_cons, List.mem_append, not_or] at h
  unfold del
  rw [if_neg (fun e => h.1 e.symm), del_id x h.2.1, del_id x h.2.2]
theorem insAfter_hd (a i : Nat) (t : ByteArray) (s : Fo) : ∀ (F : Fo), (insAfter a i t s F).hd = F.hd
 | .nil => rfl
 | .nd j u k n => by unfold insAfter; split <;> rfl
theorem insFirst_hd (p i : Nat) (t : ByteArray) (s : Fo) : ∀ (F : Fo), (insFirst p i t s F).hd = F.hd
 | .nil => rfl
 | .nd j u k n => by unfold insFirst; split <;> rfl
theorem nodup_nd {j : Nat} {u : ByteArray} {k n : Fo} (h : (Fo.nd j u k n).ids.Nodup) : j ∉ k.ids ∧ j ∉ n.ids ∧ k.ids.Nodup ∧ n.ids.Nodup ∧ (∀ x ∈ k.ids, x ∉ n.ids) := by
 simp only [Fo.ids, List.nodup_cons, List.nodup_append, List.mem_append, not_or] at h
 exact ⟨h.1.1, h.1.2, h.2.1, h.2.2.1, fun x hx hn => h.2.2.2 x hx x hn rfl⟩
theorem rep_insAfter {h : Nat → Nd} {a i q : Nat} {t : ByteArray} {s : Fo} (hf : Free h i t s) (ha0 : a ≠ 0) (hq : (h a).up = q) :
  ∀ {F : Fo} {up : Nat}, Rep h up F → F.ids.Nodup → i ∉ F.ids → a ∉ s.ids → a ≠ i → (∀ j ∈ s.ids, j ∉ F.ids) → Rep (attachH h i q a) up (insAfter a i t s F)
 | .nil, up, _, _, _, _, _, _ => trivial
 | .nd j u k n, up, ⟨h1, h2, h3, h4⟩, hn, hi, has, hai, hd => by
  obtain ⟨n1, n2, n3, n4, n5⟩ := nodup_nd hn
  have hat := attachH_pos h i q a ha0
  simp only [Fo.ids, List.mem_cons, List.mem_append, not_or] at hi
  have hs : Rep (attachH h i q a) i s := hf.rep.ext fun x hx => by
   rw [hat x, if_neg (fun (e : x = a) => has (e ▸ hx)), if_neg (fun (e : x = i) => hf.out (e ▸ hx))]
  unfold insAfter
  by_cases hj : j = a
  ·subst hj
   rw [if_pos rfl]
   have hup : q = up := by rw [← hq, h2]
   refine ⟨h1, ?_, ?_, hf.ne, ?_, hs, ?_⟩
   ·rw [hat j, if_pos rfl, h2]; rfl
   ·exact h3.ext fun x hx => by rw [hat x, if_neg (fun (e : x = j) => n1 (e ▸ hx)), if_neg (fun (e : x = i) => hi.2.1 (e ▸ hx))]
   ·rw [hat i, if_neg (fun e => hai e.symm), if_pos rfl, h2, hup]
    show Nd.mk (h i).t up (h i).first n.hd = _
    rw [hf.t, hf.first]
   ·exact h4.ext fun x hx => by rw [hat x, if_neg (fun (e : x = j) => n2 (e ▸ hx)), if_neg (fun (e : x = i) => hi.2.2 (e ▸ hx))]
  ·rw [if_neg hj]
   refine ⟨h1, ?_, ?_, ?_⟩
   ·rw [hat j, if_neg hj, if_neg (fun e => hi.1 e.symm), h2, insAfter_hd, insAfter_hd]
   ·exact rep_insAfter hf ha0 hq h3 n3 hi.2.1 has hai fun x hx hk => hd x hx (by simp [Fo.ids, hk])
   ·exact rep_insAfter hf ha0 hq h4 n4 hi.2.2 has hai fun x hx hk => hd x hx (by simp [Fo.ids, hk])
theorem rep_insFirst {h : Nat → Nd} {p i : Nat} {t : ByteArray} {s : Fo} (hf : Free h i t s) :
  ∀ {F : Fo} {up : Nat}, Rep h up F → F.ids.Nodup → i ∉ F.ids → p ∉ s.ids → p ≠ i → (∀ j ∈ s.ids, j ∉ F.ids) → Rep (attachH h i p 0) up (insFirst p i t s F)
 | .nil, up, _, _, _, _, _, _ => trivial
 | .nd j u k n, up, ⟨h1, h2, h3, h4⟩, hn, hi, has, hai, hd => by
  obtain ⟨n1, n2, n3, n4, n5⟩ := nodup_nd hn
  have hat := attachH_zero h i p
  simp only [Fo.ids, List.mem_cons, List.mem_append, not_or] at hi
  have hs : Rep (attachH h i p 0) i s := hf.rep.ext fun x hx => by
   rw [hat x, if_neg (fun (e : x = p) => has (e ▸ hx)), if_neg (fun (e : x = i) => hf.out (e ▸ hx))]
  unfold insFirst
  by_cases hj : j = p
  ·subst hj
   rw [if_pos rfl]
   refine ⟨h1, ?_, ⟨hf.ne, ?_, hs, ?_⟩, ?_⟩
   ·rw [hat j, if_pos rfl, h2]; rfl
   ·rw [hat i, if_neg (fun e => hai e.symm), if_pos rfl, h2]
    show Nd.mk (h i).t j (h i).first k.hd = _
    rw [hf.t, hf.first]
   ·exact h3.ext fun x hx => by rw [hat x, if_neg (fun (e : x = j) => n1 (e ▸ hx)), if_neg (fun (e : x = i) => hi.2.1 (e ▸ hx))]
   ·exact h4.ext fun x hx => by rw [hat x, if_neg (fun (e : x = j) => n2 (e ▸ hx)), if_neg (fun (e : x = i) => hi.2.2 (e ▸ hx))]
  ·rw [if_neg hj]
   refine ⟨h1, ?_, ?_, ?_⟩
   ·rw [hat j, if_neg hj, if_neg (fun e => hi.1 e.symm), h2, insFirst_hd, insFirst_hd]
   ·exact rep_insFirst hf h3 n3 hi.2.1 has hai fun x hx hk => hd x hx (by simp [Fo.ids, hk])
   ·exact rep_insFirst hf h4 n4 hi.2.2 has hai fun x hx hk => hd x hx (by simp [Fo.ids, hk])
def sib (x : Nat) : Nat → Fo → Nat
 | _, .nil => 0
 | p, .nd j u k n => if j = x then p else if x ∈ k.ids then sib x 0 k else sib x j n
theorem sib_mem (x : Nat) : ∀ (F : Fo) (p : Nat), sib x p F = p ∨ sib x p F = 0 ∨ sib x p F ∈ F.ids
 | .nil, p => Or.inr (Or.inl rfl)
 | .nd j u k n, p => by
  unfold sib
  by_cases h1 : j = x
  ·rw [if_pos h1]; exact Or.inl rfl
  ·rw [if_neg h1]
   by_cases h2 : x ∈ k.ids
   ·rw [if_pos h2]
    rcases sib_mem x k 0 with h | h | h
    ·exact Or.inr (Or.inl h)
    ·exact Or.inr (Or.inl h)
    ·exact Or.inr (Or.inr (by simp [Fo.ids, h]))
   ·rw [if_neg h2]
    rcases sib_mem x n j with h | h | h
    ·rw [h]; exact Or.inr (Or.inr (by simp [Fo.ids]))
    ·exact Or.inr (Or.inl h)
    ·exact Or.inr (Or.inr (by simp [Fo.ids, h]))
theorem rep_up {h : Nat → Nd} {x : Nat} : ∀ {F : Fo} {up : Nat}, Rep h up F → F.ids.Nodup → x ∈ F.ids → (h x).up = up ∨ (h x).up ∈ F.ids
 | .nil, _, _, _, hx => by simp [Fo.ids] at hx
 | .nd j u k n, up, ⟨h1, h2, h3, h4⟩, hn, hx => by
  obtain ⟨n1, n2, n3, n4, n5⟩ := nodup_nd hn
  simp only [Fo.ids, List.mem_cons, List.mem_append] at hx
  rcases hx with rfl | hx | hx
  ·left; rw [h2]
  ·rcases rep_up h3 n3 hx with e | e
   ·right; rw [e]; simp [Fo.ids]
   ·right; simp [Fo.ids, e]
  ·rcases rep_up h4 n4 hx with e | e
   ·exact Or.inl e
   ·right; simp [Fo.ids, e]
theorem sib_zero {h : Nat → Nd} {x : Nat} : ∀ {F : Fo} {up p : Nat}, Rep h up F → F.ids.Nodup → x ∈ F.ids → sib x p F = 0 → (p ≠ 0 ∨ F.hd ≠ x) → (h x).up ∈ F.ids
 | .nil, _, _, _, _, hx, _, _ => by simp [Fo.ids] at hx
 | .nd j u k n, up, p, ⟨h1, h2, h3, h4⟩, hn, hx, hs, hp => by
  obtain ⟨n1, n2, n3, n4, n5⟩ := nodup_nd hn
  unfold sib at hs
  simp only [Fo.ids, List.mem_cons, List.mem_append] at hx
  by_cases e : j = x
  ·rw [if_pos e] at hs
   rcases hp with hp | hp
   ·exact absurd hs hp
   ·exact absurd e hp
  ·rw [if_neg e] at hs
   by_cases hk : x ∈ k.ids
   ·rcases rep_up h3 n3 hk with e | e
    ·rw [e]; simp [Fo.ids]
    ·simp [Fo.ids, e]
   ·rw [if_neg hk] at hs
    have hxn : x ∈ n.ids := by
     rcases hx with e' | e' | e'
     ·exact absurd e'.symm e
     ·exact absurd e' hk
     ·exact e'
    have := sib_zero (p := j) h4 n4 hxn hs (Or.inl h1)
    simp [Fo.ids, this]
theorem del_hd (x : Nat) (F : Fo) (h : F.hd ≠ x) : (del x F).hd = F.hd := by
 cases F with
 | nil => rfl
 | nd j u k n => unfold del; rw [if_neg (show j ≠ x from h)]; rfl
theorem del_hd_self {h : Nat → Nd} {up x : Nat} {F : Fo} (hr : Rep h up F) (e : F.hd = x) (hx : x ≠ 0) : (del x F).hd = (h x).next ∧ (h x).up = up := by
 cases F with
 | nil => exact absurd e.symm hx
 | nd j u k n =>
  obtain rfl : j = x := e
  obtain ⟨h1, h2, h3, h4⟩ := hr
  unfold del
  rw [if_pos rfl, h2]
  exact ⟨rfl, rfl⟩
theorem sib_hd {x p : Nat} {F : Fo} (e : F.hd = x) (hx : x ≠ 0) : sib x p F = p := by
 cases F with
 | nil => exact absurd e.symm hx
 | nd j u k n => unfold sib; exact if_pos e
theorem up_ne {h : Nat → Nd} {x : Nat} : ∀ {F : Fo} {up : Nat}, Rep h up F → F.ids.Nodup → x ∈ F.ids → up ∉ F.ids → (h x).up ≠ x
 | .nil, _, _, _, hx, _ => by simp [Fo.ids] at hx
 | .nd j u k n, up, ⟨h1, h2, h3, h4⟩, hn, hx, hup => by
  obtain ⟨n1, n2, n3, n4, n5⟩ := nodup_nd hn
  simp only [Fo.ids, List.mem_cons, List.mem_append, not_or] at hx hup
  rcases hx with rfl | hx | hx
  ·rw [h2]; exact hup.1
  ·exact up_ne h3 n3 hx n1
  ·exact up_ne h4 n4 hx hup.2.2
theorem sib_ne {x : Nat} (hx0 : x ≠ 0) : ∀ {F : Fo} {p : Nat}, F.ids.Nodup → x ∈ F.ids → p ≠ x → sib x p F ≠ x
 | .nil, _, _, hx, _ => by simp [Fo.ids] at hx
 | .nd j u k n, p, hn, hx, hp => by
  obtain ⟨n1, n2, n3, n4, n5⟩ := nodup_nd hn
  simp only [Fo.ids, List.mem_cons, List.mem_append] at hx
  unfold sib
  by_cases e1 : j = x
  ·rw [if_pos e1]; exact hp
  ·rw [if_neg e1]
   by_cases e2 : x ∈ k.ids
   ·rw [if_pos e2]; exact sib_ne hx0 n3 e2 (fun e => hx0 e.symm)
   ·rw [if_neg e2]
    exact sib_ne hx0 n4 (by rcases hx with g | g | g; exact absurd g.symm e1; exact absurd g e2; exact g) e1
theorem rep_del {h : Nat → Nd} {x : Nat} : ∀ {F : Fo} {up p : Nat}, Rep h up F → F.ids.Nodup → x ∈ F.ids → up ∉ F.ids → p ∉ F.ids → Rep (detachH h x (sib x p F)) up (del x F)
 | .nil, _, _, _, _, hx, _, _ => by simp [Fo.ids] at hx
 | .nd j u k n, up, p, hR, hn, hx, hup, hp => by
  have hx0 : x ≠ 0 := hR.ne0 x hx
  have hxup : (h x).up ≠ x := up_ne hR hn hx hup
  obtain ⟨h1, h2, h3, h4⟩ := hR
  obtain ⟨n1, n2, n3, n4, n5⟩ := nodup_nd hn
  simp only [Fo.ids, List.mem_cons, List.mem_append, not_or] at hx hup hp
  unfold sib del
  by_cases e : j = x
  ·subst e
   rw [if_pos rfl, if_pos rfl]
   refine h4.ext fun y hy => ?_
   have hyj : y ≠ j := fun e => n2 (e ▸ hy)
   by_cases hp0 : p = 0
   ·subst hp0
    rw [detachH_zero h j hyj, h2, if_neg (fun (e : y = up) => hup.2.2 (e ▸ hy))]
   ·rw [detachH_pos h j p hp0 hyj, if_neg (fun (e : y = p) => hp.2.2 (e ▸ hy))]
  ·rw [if_neg e, if_neg e]
   by_cases hk : x ∈ k.ids
   ·rw [if_pos hk]
    have z3 : (0 : Nat) ∉ k.ids := fun h0 => h3.ne0 0 h0 rfl
    have ih := rep_del (p := 0) h3 n3 hk n1 z3
    have hnx : x ∉ n.ids := n5 x hk
    have hsx := sib_ne (p := 0) hx0 n3 hk (fun e => hx0 e.symm)
    have hsm : sib x 0 k ≠ 0 → sib x 0 k ∈ k.ids := fun hs => by
     rcases sib_mem x k 0 with h' | h' | h'
     ·exact absurd h' hs
     ·exact absurd h' hs
     ·exact h'
    rw [del_id x hnx]
    refine ⟨h1, ?_, ih, ?_⟩
    ·by_cases hh : k.hd = x
     ·have hs : sib x 0 k = 0 := sib_hd hh hx0
      obtain ⟨d1, d2⟩ := del_hd_self h3 hh hx0
      rw [hs, detachH_zero h x e, d2, if_pos rfl, d1, h2]
     ·rw [del_hd x k hh]
      by_cases hs : sib x 0 k = 0
      ·have hq := sib_zero (p := 0) h3 n3 hk hs (Or.inr hh)
       rw [hs, detachH_zero h x e, if_neg (fun (e2 : j = (h x).up) => n1 (e2 ▸ hq)), h2]
      ·rw [detachH_pos h x _ hs e, if_neg (fun (e2 : j = sib x 0 k) => n1 (e2 ▸ hsm hs)), h2]
    ·refine h4.ext fun y hy => ?_
     have hyx : y ≠ x := fun e2 => hnx (e2 ▸ hy)
     by_cases hs : sib x 0 k = 0
     ·rw [hs, detachH_zero h x hyx, if_neg]
      intro e2
      rcases rep_up h3 n3 hk with e3 | e3
      ·exact n2 (e3 ▸ e2 ▸ hy)
      ·exact n5 _ e3 (e2 ▸ hy)
     ·rw [detachH_pos h x _ hs hyx, if_neg (fun (e2 : y = sib x 0 k) => n5 _ (hsm hs) (e2 ▸ hy))]
   ·rw [if_neg hk]
    have hxn : x ∈ n.ids := by
     rcases hx with g | g | g
     ·exact absurd g.symm e
     ·exact absurd g hk
     ·exact g
    have ih := rep_del (p := j) h4 n4 hxn hup.2.2 n2
    rw [del_id x hk]
    have hsm : sib x j n ≠ j → sib x j n ≠ 0 → sib x j n ∈ n.ids := fun hj hs => by
     rcases sib_mem x n j with h' | h' | h'
     ·exact absurd h' hj
     ·exact absurd h' hs
     ·exact h'
    refine ⟨h1, ?_, ?_, ih⟩
    ·by_cases hh : n.hd = x
     ·have hs : sib x j n = j := sib_hd hh hx0
      obtain ⟨d1, d2⟩ := del_hd_self h4 hh hx0
      rw [hs, detachH_pos h x j h1 e, if_pos rfl, d1, h2]
     ·rw [del_hd x n hh]
      by_cases hs : sib x j n = 0
      ·have hq := sib_zero (p := j) h4 n4 hxn hs (Or.inl h1)
       rw [hs, detachH_zero h x e, if_neg (fun (e2 : j = (h x).up) => n2 (e2 ▸ hq)), h2]
      ·have hsj : sib x j n ≠ j := by
        cases n with
        | nil => simp [Fo.ids] at hxn
        | nd j2 u2 k2 n2' =>
         have hj2 : j2 ≠ x := hh
         unfold sib
         rw [if_neg hj2]
         obtain ⟨m1, m2, m3, m4, m5⟩ := nodup_nd n4
         simp only [Fo.ids, List.mem_cons, List.mem_append, not_or] at n2
         split
         ·rcases sib_mem x k2 0 with h' | h' | h'
          ·rw [h']; exact fun e => h1 e.symm
          ·rw [h']; exact fun e => h1 e.symm
          ·exact fun e => n2.2.1 (e ▸ h')
         ·rcases sib_mem x n2' j2 with h' | h' | h'
          ·rw [h']; exact fun e => n2.1 e.symm
          ·rw [h']; exact fun e => h1 e.symm
          ·exact fun e => n2.2.2 (e ▸ h')
       rw [detachH_pos h x _ hs e, if_neg (fun (e2 : j = sib x j n) => hsj e2.symm), h2]
    ·refine h3.ext fun y hy => ?_
     have hyx : y ≠ x := fun e2 => hk (e2 ▸ hy)
     by_cases hs : sib x j n = 0
     ·rw [hs, detachH_zero h x hyx, if_neg]
      intro e2
      have hq := sib_zero (p := j) h4 n4 hxn hs (Or.inl h1)
      exact n5 _ hy (e2 ▸ hq)
     ·rw [detachH_pos h x _ hs hyx, if_neg]
      intro e2
      by_cases hsj : sib x j n = j
      ·exact n1 (by rw [← hsj, ← e2]; exact hy)
      ·exact n5 _ hy (e2 ▸ hsm hsj hs)
def RepTop (h : Nat → Nd) : Fo → Prop
 | .nil => True
 | .nd i t k n => i ≠ 0 ∧ h i = ⟨t, 0, k.hd, 0⟩ ∧ Rep h i k ∧ RepTop h n
theorem RepTop.ext {h h' : Nat → Nd} : ∀ {F : Fo}, RepTop h F → (∀ i ∈ F.ids, h' i = h i) → RepTop h' F
 | .nil, _, _ => trivial
 | .nd i t k n, ⟨h1, h2, h3, h4⟩, e => ⟨h1, (e i (by simp [Fo.ids])).trans h2, Rep.ext h3 fun j hj => e j (by simp [Fo.ids, hj]), RepTop.ext h4 fun j hj => e j (by simp [Fo.ids, hj])⟩
theorem RepTop.ne0 {h : Nat → Nd} : ∀ {F : Fo}, RepTop h F → ∀ i ∈ F.ids, i ≠ 0
 | .nil, _, i, hi => by simp [Fo.ids] at hi
 | .nd j t k n, ⟨h1, h2, h3, h4⟩, i, hi => by
  simp only [Fo.ids, List.mem_cons, List.mem_append] at hi
  rcases hi with rfl | hi | hi
  ·exact h1
  ·exact Rep.ne0 h3 i hi
  ·exact RepTop.ne0 h4 i hi
theorem tops_ids : ∀ {F : Fo} {x : Nat}, x ∈ F.tops → x ∈ F.ids
 | .nil, x, h => by cases h
 | .nd j t k n, x, h => by
  simp only [Fo.tops, List.mem_cons] at h
  simp only [Fo.ids, List.mem_cons, List.mem_append]
  rcases h with h | h
  ·exact Or.inl h
  ·exact Or.inr (Or.inr (tops_ids h))
theorem reptop_up {h : Nat → Nd} {x : Nat} : ∀ {F : Fo}, RepTop h F → F.ids.Nodup → x ∈ F.ids → x ∉ F.tops → (h x).up ∈ F.ids ∧ (h x).up ≠ x
 | .nil, _, _, hx, _ => by simp [Fo.ids] at hx
 | .nd j u k n, ⟨h1, h2, h3, h4⟩, hn, hx, ht => by
  obtain ⟨n1, n2, n3, n4, n5⟩ := nodup_nd hn
  simp only [Fo.ids, Fo.tops, List.mem_cons, List.mem_append, not_or] at hx ht ⊢
  rcases hx with e | hx | hx
  ·exact absurd e ht.1
  ·refine ⟨?_, up_ne h3 n3 hx n1⟩
   rcases rep_up h3 n3 hx with e | e
   ·exact Or.inl e
   ·exact Or.inr (Or.inl e)
  ·obtain ⟨g1, g2⟩ := reptop_up h4 n4 hx ht.2
   exact ⟨Or.inr (Or.inr g1), g2⟩
theorem reptop_root {h : Nat → Nd} {x : Nat} : ∀ {F : Fo}, RepTop h F → x ∈ F.tops → (h x).up = 0
 | .nil, _, hx => by cases hx
 | .nd j u k n, ⟨h1, h2, h3, h4⟩, hx => by
  simp only [Fo.tops, List.mem_cons] at hx
  rcases hx with rfl | hx
  ·rw [h2]
  ·exact reptop_root h4 hx
theorem reptop_insAfter {h : Nat → Nd} {a i q : Nat} {t : ByteArray} {s : Fo} (hf : Free h i t s) (ha0 : a ≠ 0) (hq : (h a).up = q) :
  ∀ {F : Fo}, RepTop h F → F.ids.Nodup → i ∉ F.ids → a ∉ F.tops → a ∉ s.ids → a ≠ i → (∀ j ∈ s.ids, j ∉ F.ids) → RepTop (attachH h i q a) (insAfter a i t s F)
 | .nil, _, _, _, _, _, _, _ => trivial
 | .nd j u k n, ⟨h1, h2, h3, h4⟩, hn, hi, hta, has, hai, hd => by
  obtain ⟨n1, n2, n3, n4, n5⟩ := nodup_nd hn
  simp only [Fo.ids, Fo.tops, List.mem_cons, List.mem_append, not_or] at hi hta
  have hj : j ≠ a := fun e => hta.1 e.symm
  unfold insAfter
  rw [if_neg hj]
  refine ⟨h1, ?_, ?_, ?_⟩
  ·rw [attachH_pos h i q a ha0 j, if_neg hj, if_neg (fun e => hi.1 e.symm), h2, insAfter_hd]
  ·exact rep_insAfter hf ha0 hq h3 n3 hi.2.1 has hai fun x hx hk => hd x hx (by simp [Fo.ids, hk])
  ·exact reptop_insAfter hf ha0 hq h4 n4 hi.2.2 hta.2 has hai fun x hx hk => hd x hx (by simp [Fo.ids, hk])
theorem reptop_insFirst {h : Nat → Nd} {p i : Nat} {t : ByteArray} {s : Fo} (hf : Free h i t s) :
  ∀ {F : Fo}, RepTop h F → F.ids.Nodup → i ∉ F.ids → p ∉ s.ids → p ≠ i → (∀ j ∈ s.ids, j ∉ F.ids) → RepTop (attachH h i p 0) (insFirst p i t s F)
 | .nil, _, _, _, _, _, _ => trivial
 | .nd j u k n, ⟨h1, h2, h3, h4⟩, hn, hi, has, hai, hd => by
  obtain ⟨n1, n2, n3, n4, n5⟩ := nodup_nd hn
  have hat := attachH_zero h i p
  simp only [Fo.ids, List.mem_cons, List.mem_append, not_or] at hi
  unfold insFirst
  by_cases hj : j = p
  ·subst hj
   rw [if_pos rfl]
   refine ⟨h1, ?_, ⟨hf.ne, ?_, ?_, ?_⟩, ?_⟩
   ·rw [hat j, if_pos rfl, h2]; rfl
   ·rw [hat i, if_neg (fun e => hai e.symm), if_pos rfl, h2]
    show Nd.mk (h i).t j (h i).first k.hd = _
    rw [hf.t, hf.first]
   ·exact hf.rep.ext fun x hx => by
     rw [hat x, if_neg (fun (e : x = j) => has (e ▸ hx)), if_neg (fun (e : x = i) => hf.out (e ▸ hx))]
   ·exact h3.ext fun x hx => by rw [hat x, if_neg (fun (e : x = j) => n1 (e ▸ hx)), if_neg (fun (e : x = i) => hi.2.1 (e ▸ hx))]
   ·exact h4.ext fun x hx => by rw [hat x, if_neg (fun (e : x = j) => n2 (e ▸ hx)), if_neg (fun (e : x = i) => hi.2.2 (e ▸ hx))]
  ·rw [if_neg hj]
   refine ⟨h1, ?_, ?_, ?_⟩
   ·rw [hat j, if_neg hj, if_neg (fun e => hi.1 e.symm), h2, insFirst_hd]
   ·exact rep_insFirst hf h3 n3 hi.2.1 has hai fun x hx hk => hd x hx (by simp [Fo.ids, hk])
   ·exact reptop_insFirst hf h4 n4 hi.2.2 has hai fun x hx hk => hd x hx (by simp [Fo.ids, hk])
def sibT (x : Nat) : Fo → Nat
 | .nil => 0
 | .nd j u k n => if x ∈ k.ids then sib x 0 k else sibT x n
theorem sibT_mem (x : Nat) : ∀ (F : Fo), sibT x F = 0 ∨ sibT x F ∈ F.ids
 | .nil => Or.inl rfl
 | .nd j u k n => by
  unfold sibT
  split
  ·rcases sib_mem x k 0 with h | h | h
   ·exact Or.inl h
   ·exact Or.inl h
   ·exact Or.inr (by simp [Fo.ids, h])
  ·rcases sibT_mem x n with h | h
   ·exact Or.inl h
   ·exact Or.inr (by simp [Fo.ids, h])
theorem reptop_del {h : Nat → Nd} {x : Nat} : ∀ {F : Fo}, RepTop h F → F.ids.Nodup → x ∈ F.ids → x ∉ F.tops → RepTop (detachH h x (sibT x F)) (del x F)
 | .nil, _, _, hx, _ => by simp [Fo.ids] at hx
 | .nd j u k n, hR, hn, hx, ht => by
  have hx0 : x ≠ 0 := hR.ne0 x hx
  obtain ⟨h1, h2, h3, h4⟩ := hR
  obtain ⟨n1, n2, n3, n4, n5⟩ := nodup_nd hn
  simp only [Fo.ids, Fo.tops, List.mem_cons, List.mem_append, not_or] at hx ht
  have e : j ≠ x := fun e => ht.1 e.symm
  unfold sibT del
  rw [if_neg e]
  by_cases hk : x ∈ k.ids
  ·rw [if_pos hk]
   have z3 : (0 : Nat) ∉ k.ids := fun h0 => h3.ne0 0 h0 rfl
   have hxup : (h x).up ≠ x := up_ne h3 n3 hk n1
   have ih := rep_del (p := 0) h3 n3 hk n1 z3
   have hnx : x ∉ n.ids := n5 x hk
   have hsx := sib_ne (p := 0) hx0 n3 hk (fun e => hx0 e.symm)
   have hsm : sib x 0 k ≠ 0 → sib x 0 k ∈ k.ids := fun hs => by
    rcases sib_mem x k 0 with h' | h' | h'
    ·exact absurd h' hs
    ·exact absurd h' hs
    ·exact h'
   rw [del_id x hnx]
   refine ⟨h1, ?_, ih, ?_⟩
   ·by_cases hh : k.hd = x
    ·have hs : sib x 0 k = 0 := sib_hd hh hx0
     obtain ⟨d1, d2⟩ := del_hd_self h3 hh hx0
     rw [hs, detachH_zero h x e, d2, if_pos rfl, d1, h2]
    ·rw [del_hd x k hh]
     by_cases hs : sib x 0 k = 0
     ·have hq := sib_zero (p := 0) h3 n3 hk hs (Or.inr hh)
      rw [hs, detachH_zero h x e, if_neg (fun (e2 : j = (h x).up) => n1 (e2 ▸ hq)), h2]
     ·rw [detachH_pos h x _ hs e, if_neg (fun (e2 : j = sib x 0 k) => n1 (e2 ▸ hsm hs)), h2]
   ·refine h4.ext fun y hy => ?_
    have hyx : y ≠ x := fun e2 => hnx (e2 ▸ hy)
    by_cases hs : sib x 0 k = 0
    ·rw [hs, detachH_zero h x hyx, if_neg]
     intro e2
     rcases rep_up h3 n3 hk with e3 | e3
     ·exact n2 (e3 ▸ e2 ▸ hy)
     ·exact n5 _ e3 (e2 ▸ hy)
    ·rw [detachH_pos h x _ hs hyx, if_neg (fun (e2 : y = sib x 0 k) => n5 _ (hsm hs) (e2 ▸ hy))]
  ·rw [if_neg hk]
   have hxn : x ∈ n.ids := by
    rcases hx with g | g | g
    ·exact absurd g.symm e
    ·exact absurd g hk
    ·exact g
   have ih := reptop_del h4 n4 hxn ht.2
   obtain ⟨u1, u2⟩ := reptop_up h4 n4 hxn ht.2
   have hsm : sibT x n ≠ 0 → sibT x n ∈ n.ids := fun hs => by
    rcases sibT_mem x n with h' | h'
    ·exact absurd h' hs
    ·exact h'
   rw [del_id x hk]
   refine ⟨h1, ?_, ?_, ih⟩
   ·by_cases hs : sibT x n = 0
    ·rw [hs, detachH_zero h x e, if_neg (fun (e2 : j = (h x).up) => n2 (e2 ▸ u1)), h2]
    ·rw [detachH_pos h x _ hs e, if_neg (fun (e2 : j = sibT x n) => n2 (e2 ▸ hsm hs)), h2]
   ·refine h3.ext fun y hy => ?_
    have hyx : y ≠ x := fun e2 => hk (e2 ▸ hy)
    by_cases hs : sibT x n = 0
    ·rw [hs, detachH_zero h x hyx, if_neg (fun (e2 : y = (h x).up) => n5 _ hy (e2 ▸ u1))]
    ·rw [detachH_pos h x _ hs hyx, if_neg (fun (e2 : y = sibT x n) => n5 _ hy (e2 ▸ hsm hs))]
theorem free_detach {h : Nat → Nd} {x a : Nat} : ∀ {F : Fo} {up : Nat}, Rep h up F → F.ids.Nodup → x ∈ F.ids → a ∉ (sub x F).ids → (h x).up ∉ (sub x F).ids → Free (detachH h x a) x (h x).t (sub x F)
 | .nil, _, _, _, hx, _, _ => by simp [Fo.ids] at hx
 | .nd j u k n, up, ⟨h1, h2, h3, h4⟩, hn, hx, ha, hu => by
  obtain ⟨n1, n2, n3, n4, n5⟩ := nodup_nd hn
  unfold sub at ha hu ⊢
  by_cases e : j = x
  ·subst e
   rw [if_pos rfl] at ha hu ⊢
   refine ⟨h1, by rw [detachH_self], by rw [detachH_self, h2], h3.ext fun y hy => ?_, n1⟩
   have hyj : y ≠ j := fun e => n1 (e ▸ hy)
   by_cases ha0 : a = 0
   ·subst ha0; rw [detachH_zero h j hyj, if_neg (fun (e : y = (h j).up) => hu (e ▸ hy))]
   ·rw [detachH_pos h j a ha0 hyj, if_neg (fun (e : y = a) => ha (e ▸ hy))]
  ·rw [if_neg e] at ha hu ⊢
   by_cases hk : x ∈ k.ids
   ·rw [if_pos hk] at ha hu ⊢
    exact free_detach h3 n3 hk ha hu
   ·rw [if_neg hk] at ha hu ⊢
    simp only [Fo.ids, List.mem_cons, List.mem_append] at hx
    exact free_detach h4 n4 (by rcases hx with g | g | g; exact absurd g.symm e; exact absurd g hk; exact g) ha hu
def dpth : Fo → Nat
 | .nil => 0
 | .nd _ _ k .nil => dpth k + 1
 | .nd _ _ _ (.nd i t k n) => dpth (.nd i t k n)
def sp : Nat → Fo → Nat
 | _, .nil => 0
 | 0, .nd i _ _ .nil => i
 | e + 1, .nd _ _ k .nil => sp e k
 | e, .nd _ _ _ (.nd i t k n) => sp e (.nd i t k n)
def snoc (i : Nat) (t : ByteArray) : Nat → Fo → Fo
 | _, .nil => .nd i t .nil .nil
 | 0, .nd j u k .nil => .nd j u k (.nd i t .nil .nil)
 | e + 1, .nd j u k .nil => .nd j u (snoc i t e k) .nil
 | e, .nd j u k (.nd j2 u2 k2 n2) => .nd j u k (snoc i t e (.nd j2 u2 k2 n2))
theorem snoc_ne (i : Nat) (t : ByteArray) : ∀ (e : Nat) (G : Fo), ∃ j u k n, snoc i t e G = .nd j u k n
 | e, .nil => ⟨_, _, _, _, by unfold snoc; rfl⟩
 | 0, .nd j u k .nil => ⟨_, _, _, _, by unfold snoc; rfl⟩
 | e + 1, .nd j u k .nil => ⟨_, _, _, _, by unfold snoc; rfl⟩
 | e, .nd j u k (.nd j2 u2 k2 n2) => ⟨_, _, _, _, by unfold snoc; rfl⟩
theorem snoc_fl (i : Nat) (t : ByteArray) : ∀ (G : Fo) (e d : Nat), e ≤ dpth G → (snoc i t e G).fl d = G.fl d ++ [⟨(i : Int), ((d + e : Nat) : Int), t⟩]
 | .nil, e, d, h => by
  have : e = 0 := by simpa [dpth] using h
  subst this
  simp [snoc, Fo.fl]
 | .nd j u k .nil, 0, d, h => by simp [snoc, Fo.fl]
 | .nd j u k .nil, e + 1, d, h => by
  have := snoc_fl i t k e (d + 1) (by simp only [dpth] at h; omega)
  simp only [snoc, Fo.fl, this]
  rw [show d + 1 + e = d + (e + 1) by omega]
  simp
 | .nd j u k (.nd j2 u2 k2 n2), e, d, h => by
  have := snoc_fl i t (.nd j2 u2 k2 n2) e d h
  have e1 : snoc i t e (.nd j u k (.nd j2 u2 k2 n2)) = .nd j u k (snoc i t e (.nd j2 u2 k2 n2)) := by cases e <;> rfl
  rw [e1]
  simp only [Fo.fl] at this ⊢
  rw [this]
  simp
theorem snoc_ids (i : Nat) (t : ByteArray) : ∀ (G : Fo) (e : Nat), (snoc i t e G).ids = G.ids ++ [i]
 | .nil, e => by simp [snoc, Fo.ids]
 | .nd j u k .nil, 0 => by simp [snoc, Fo.ids]
 | .nd j u k .nil, e + 1 => by simp [snoc, Fo.ids, snoc_ids i t k e]
 | .nd j u k (.nd j2 u2 k2 n2), e => by
  have e1 : snoc i t e (.nd j u k (.nd j2 u2 k2 n2)) = .nd j u k (snoc i t e (.nd j2 u2 k2 n2)) := by cases e <;> rfl
  rw [e1]
  show j :: (k.ids ++ (snoc i t e (.nd j2 u2 k2 n2)).ids) = _
  rw [snoc_ids i t (.nd j2 u2 k2 n2) e]
  simp [Fo.ids]
theorem snoc_tops (i : Nat) (t : ByteArray) : ∀ (G : Fo) (e : Nat), e ≤ dpth G → (snoc i t e G).tops = if e = 0 then G.tops ++ [i] else G.tops
 | .nil, e, h => by
  have : e = 0 := by simpa [dpth] using h
  subst this
  simp [snoc, Fo.tops]
 | .nd j u k .nil, 0, _ => by simp [snoc, Fo.tops]
 | .nd j u k .nil, e + 1, _ => by simp [snoc, Fo.tops]
 | .nd j u k (.nd j2 u2 k2 n2), e, h => by
  have e1 : snoc i t e (.nd j u k (.nd j2 u2 k2 n2)) = .nd j u k (snoc i t e (.nd j2 u2 k2 n2)) := by cases e <;> rfl
  rw [e1]
  show j :: (snoc i t e (.nd j2 u2 k2 n2)).tops = _
  rw [snoc_tops i t (.nd j2 u2 k2 n2) e h]
  by_cases he : e = 0 <;> simp [he, Fo.tops]
theorem dpth_nd {j : Nat} {u : ByteArray} {k n : Fo} (h : ∃ a b c d, n = .nd a b c d) : dpth (.nd j u k n) = dpth n := by
 obtain ⟨a, b, c, d, rfl⟩ := h
 rfl
theorem sp_nd {e j : Nat} {u : ByteArray} {k n : Fo} (h : ∃ a b c d, n = .nd a b c d) : sp e (.nd j u k n) = sp e n := by
 obtain ⟨a, b, c, d, rfl⟩ := h
 cases e <;> rfl
theorem snoc_dpth (i : Nat) (t : ByteArray) : ∀ (G : Fo) (e : Nat), e ≤ dpth G → dpth (snoc i t e G) = e + 1
 | .nil, e, h => by
  have : e = 0 := by simpa [dpth] using h
  subst this
  rfl
 | .nd j u k .nil, 0, _ => rfl
 | .nd j u k .nil, e + 1, h => by
  show dpth (.nd j u (snoc i t e k) .nil) = _
  show dpth (snoc i t e k) + 1 = _
  rw [snoc_dpth i t k e (by simp only [dpth] at h; omega)]
 | .nd j u k (.nd j2 u2 k2 n2), e, h => by
  have e1 : snoc i t e (.nd j u k (.nd j2 u2 k2 n2)) = .nd j u k (snoc i t e (.nd j2 u2 k2 n2)) := by cases e <;> rfl
  rw [e1, dpth_nd (snoc_ne i t e _)]
  exact snoc_dpth i t (.nd j2 u2 k2 n2) e h
theorem snoc_sp (i : Nat) (t : ByteArray) : ∀ (G : Fo) (e : Nat), e ≤ dpth G → sp e (snoc i t e G) = i ∧ ∀ d, d < e → sp d (snoc i t e G) = sp d G
 | .nil, e, h => by
  have : e = 0 := by simpa [dpth] using h
  subst this
  exact ⟨rfl, fun d hd => by omega⟩
 | .nd j u k .nil, 0, _ => ⟨rfl, fun d hd => by omega⟩
 | .nd j u k .nil, e + 1, h => by
  obtain ⟨h1, h2⟩ := snoc_sp i t k e (by simp only [dpth] at h; omega)
  refine ⟨h1, fun d hd => ?_⟩
  cases d with
  | zero => rfl
  | succ d => exact h2 d (by omega)
 | .nd j u k (.nd j2 u2 k2 n2), e, h => by
  have e1 : snoc i t e (.nd j u k (.nd j2 u2 k2 n2)) = .nd j u k (snoc i t e (.nd j2 u2 k2 n2)) := by cases e <;> rfl
  obtain ⟨h1, h2⟩ := snoc_sp i t (.nd j2 u2 k2 n2) e h
  rw [e1]
  refine ⟨(sp_nd (snoc_ne i t e _)).trans h1, fun d hd => ?_⟩
  rw [sp_nd (snoc_ne i t e _), h2 d hd]
  exact (sp_nd ⟨_, _, _, _, rfl⟩).symm
theorem sp_mem : ∀ (G : Fo) (e : Nat), e < dpth G → sp e G ∈ G.ids
 | .nil, e, h => by simp [dpth] at h
 | .nd j u k .nil, 0, _ => by simp [sp, Fo.ids]
 | .nd j u k .nil, e + 1, h => by
  have := sp_mem k e (by simp only [dpth] at h; omega)
  show sp e k ∈ _
  simp [Fo.ids, this]
 | .nd j u k (.nd j2 u2 k2 n2), e, h => by
  have := sp_mem (.nd j2 u2 k2 n2) e h
  rw [sp_nd ⟨_, _, _, _, rfl⟩]
  show _ ∈ j :: (k.ids ++ (Fo.nd j2 u2 k2 n2).ids)
  simp only [List.mem_cons, List.mem_append]
  exact Or.inr (Or.inr this)
theorem rep_sp {h : Nat → Nd} : ∀ (G : Fo) {up : Nat} (e : Nat), Rep h up G → e < dpth G → (h (sp e G)).up = if e = 0 then up else sp (e - 1) G
 | .nil, up, e, _, hl => by simp [dpth] at hl
 | .nd j u k .nil, up, 0, ⟨h1, h2, h3, h4⟩, _ => by show (h j).up = _; rw [h2]; rfl
 | .nd j u k .nil, up, e + 1, ⟨h1, h2, h3, h4⟩, hl => by
  have := rep_sp k e h3 (by simp only [dpth] at hl; omega)
  show (h (sp e k)).up = _
  rw [this, if_neg (by omega : ¬ e + 1 = 0)]
  cases e with
  | zero => rfl
  | succ e => rfl
 | .nd j u k (.nd j2 u2 k2 n2), up, e, ⟨h1, h2, h3, h4⟩, hl => by
  have := rep_sp (.nd j2 u2 k2 n2) e h4 hl
  rw [sp_nd ⟨_, _, _, _, rfl⟩, sp_nd ⟨_, _, _, _, rfl⟩]
  exact this
theorem reptop_sp {h : Nat → Nd} : ∀ (G : Fo) (e : Nat), RepTop h G → e + 1 < dpth G → (h (sp (e + 1) G)).up = sp e G
 | .nil, e, _, hl => by simp [dpth] at hl
 | .nd j u k .nil, e, ⟨h1, h2, h3, h4⟩, hl => by
  have := rep_sp k e h3 (by simp only [dpth] at hl; omega)
  show (h (sp e k)).up = _
  rw [this]
  cases e with
  | zero => rfl
  | succ e => rfl
 | .nd j u k (.nd j2 u2 k2 n2), e, ⟨h1, h2, h3, h4⟩, hl => by
  have := reptop_sp (.nd j2 u2 k2 n2) e h4 hl
  rw [sp_nd ⟨_, _, _, _, rfl⟩, sp_nd ⟨_, _, _, _, rfl⟩]
  exact this
theorem sp_not_top : ∀ (G : Fo) (e : Nat), G.ids.Nodup → e + 1 < dpth G → sp (e + 1) G ∉ G.tops
 | .nil, e, _, hl => by simp [dpth] at hl
 | .nd j u k .nil, e, hn, hl => by
  obtain ⟨n1, n2, n3, n4, n5⟩ := nodup_nd hn
  have hm := sp_mem k e (by simp only [dpth] at hl; omega)
  show sp e k ∉ [j]
  intro hc
  rw [List.mem_singleton.1 hc] at hm
  exact n1 hm
 | .nd j u k (.nd j2 u2 k2 n2), e, hn, hl => by
  obtain ⟨n1, m2, n3, n4, n5⟩ := nodup_nd hn
  have := sp_not_top (.nd j2 u2 k2 n2) e n4 hl
  have hm := sp_mem (.nd j2 u2 k2 n2) (e + 1) hl
  rw [sp_nd ⟨_, _, _, _, rfl⟩]
  intro hc
  rcases List.mem_cons.1 hc with hc | hc
  ·rw [hc] at hm; exact m2 hm
  ·exact this hc
theorem snoc_after (i : Nat) (t : ByteArray) : ∀ (G : Fo) (e : Nat), G.ids.Nodup → e < dpth G → snoc i t e G = insAfter (sp e G) i t .nil G
 | .nil, e, _, hl => by simp [dpth] at hl
 | .nd j u k .nil, 0, hn, _ => by
  show Fo.nd j u k (.nd i t .nil .nil) = insAfter j i t .nil (.nd j u k .nil)
  unfold insAfter
  rw [if_pos rfl]
 | .nd j u k .nil, e + 1, hn, hl => by
  obtain ⟨n1, n2, n3, n4, n5⟩ := nodup_nd hn
  have hl' : e < dpth k := by simp only [dpth] at hl; omega
  have hm := sp_mem k e hl'
  show Fo.nd j u (snoc i t e k) .nil = insAfter (sp e k) i t .nil (.nd j u k .nil)
  unfold insAfter
  rw [if_neg (fun (e2 : j = sp e k) => n1 (e2 ▸ hm)), snoc_after i t k e n3 hl']
  rfl
 | .nd j u k (.nd j2 u2 k2 n2), e, hn, hl => by
  obtain ⟨n1, n2', n3, n4, n5⟩ := nodup_nd hn
  have e1 : snoc i t e (.nd j u k (.nd j2 u2 k2 n2)) = .nd j u k (snoc i t e (.nd j2 u2 k2 n2)) := by cases e <;> rfl
  have hm := sp_mem (.nd j2 u2 k2 n2) e hl
  have e2 : sp e (.nd j u k (.nd j2 u2 k2 n2)) = sp e (.nd j2 u2 k2 n2) := sp_nd ⟨_, _, _, _, rfl⟩
  rw [e1, e2, snoc_after i t _ e n4 hl]
  have e3 : insAfter (sp e (.nd j2 u2 k2 n2)) i t .nil (.nd j u k (.nd j2 u2 k2 n2)) = .nd j u (insAfter (sp e (.nd j2 u2 k2 n2)) i t .nil k) (insAfter (sp e (.nd j2 u2 k2 n2)) i t .nil (.nd j2 u2 k2 n2)) := by
   conv => lhs; unfold insAfter
   rw [if_neg (fun (e2 : j = sp e (.nd j2 u2 k2 n2)) => n2' (e2 ▸ hm))]
  rw [e3, insAfter_id _ i t .nil (fun hk => n5 _ hk hm)]
theorem snoc_first (i : Nat) (t : ByteArray) : ∀ (G : Fo) (e : Nat), G.ids.Nodup → dpth G = e + 1 → snoc i t (e + 1) G = insFirst (sp e G) i t .nil G
 | .nil, e, _, hl => by simp [dpth] at hl
 | .nd j u k .nil, 0, hn, hl => by
  have : dpth k = 0 := by simp only [dpth] at hl; omega
  have hk : k = .nil := by
   cases k with
   | nil => rfl
   | nd a b c d =>
    exfalso
    have : ∀ (F : Fo), dpth F = 0 → F = .nil := by
     intro F
     induction F with
     | nil => intro _; rfl
     | nd a b c d _ ihd =>
      intro h0
      cases d with
      | nil => simp [dpth] at h0
      | nd a2 b2 c2 d2 =>
       have := ihd (by simpa [dpth] using h0)
       cases this
    have h3 := this _ ‹dpth (Fo.nd a b c d) = 0›
    cases h3
  subst hk
  show Fo.nd j u (.nd i t .nil .nil) .nil = insFirst j i t .nil (.nd j u .nil .nil)
  unfold insFirst
  rw [if_pos rfl]
 | .nd j u k .nil, e + 1, hn, hl => by
  obtain ⟨n1, n2, n3, n4, n5⟩ := nodup_nd hn
  have hl' : dpth k = e + 1 := by simp only [dpth] at hl; omega
  have hm := sp_mem k e (by omega)
  show Fo.nd j u (snoc i t (e + 1) k) .nil = insFirst (sp e k) i t .nil (.nd j u k .nil)
  unfold insFirst
  rw [if_neg (fun (e2 : j = sp e k) => n1 (e2 ▸ hm)), snoc_first i t k e n3 hl']
  rfl
 | .nd j u k (.nd j2 u2 k2 n2), e, hn, hl => by
  obtain ⟨n1, n2', n3, n4, n5⟩ := nodup_nd hn
  have e1 : snoc i t (e + 1) (.nd j u k (.nd j2 u2 k2 n2)) = .nd j u k (snoc i t (e + 1) (.nd j2 u2 k2 n2)) := rfl
  have hl' : dpth (.nd j2 u2 k2 n2) = e + 1 := hl
  have hm := sp_mem (.nd j2 u2 k2 n2) e (by omega)
  have e2 : sp e (.nd j u k (.nd j2 u2 k2 n2)) = sp e (.nd j2 u2 k2 n2) := sp_nd ⟨_, _, _, _, rfl⟩
  rw [e1, e2, snoc_first i t _ e n4 hl']
  have e3 : insFirst (sp e (.nd j2 u2 k2 n2)) i t .nil (.nd j u k (.nd j2 u2 k2 n2)) = .nd j u (insFirst (sp e (.nd j2 u2 k2 n2)) i t .nil k) (insFirst (sp e (.nd j2 u2 k2 n2)) i t .nil (.nd j2 u2 k2 n2)) := by
   conv => lhs; unfold insFirst
   rw [if_neg (fun (e2 : j = sp e (.nd j2 u2 k2 n2)) => n2' (e2 ▸ hm))]
  rw [e3, insFirst_id _ i t .nil (fun hk => n5 _ hk hm)]
theorem reptop_snoc0 {h : Nat → Nd} {i : Nat} {t : ByteArray} (h0 : i ≠ 0) (hi : h i = ⟨t, 0, 0, 0⟩) : ∀ (G : Fo), RepTop h G → RepTop h (snoc i t 0 G)
 | .nil, _ => ⟨h0, hi, trivial, trivial⟩
 | .nd j u k .nil, ⟨h1, h2, h3, h4⟩ => ⟨h1, h2, h3, h0, hi, trivial, trivial⟩
 | .nd j u k (.nd j2 u2 k2 n2), ⟨h1, h2, h3, h4⟩ => ⟨h1, h2, h3, reptop_snoc0 h0 hi _ h4⟩
end Go.Proofs.YtdpklbomhdpimaaDoor.FP
namespace Go.Proofs.YtdpklbomhdpimaaDoor.P
open Go.RowKit Go.Proofs.YtdpklbomhdpimaaDoorW.PrintWords Go.Proofs.YtdpklbomhdpimaaDoorW.PrintLast Go.Proofs.YtdpklbomhdpimaaDoorW.PrintMore Go.Proofs.YtdpklbomhdpimaaDoor.FP
def pa (o : Option Nat) : Option Addr := o.map fun b => ⟨b, 0, none⟩
theorem pa_none : pa none = none := rfl
theorem pa_some (b : Nat) : pa (some b) = some ⟨b, 0, none⟩ := rfl
def nodeC (A : Nat → Option Nat) (i : Nat) (x : Nd) : Array Value := #[.int .i64 (i : Int), .string x.t, .pointer (pa (A x.up)), .pointer (pa (A x.first)), .pointer (pa (A x.next))]
def tabC (A : Nat → Option Nat) : Array Value := ((List.range 37).map fun i => Value.pointer (pa (A i))).toArray
structure Mem (w : World) (n0 F : Nat) (A : Nat → Option Nat) (h : Nat → Nd) : Prop where
 z : A 0 = none
 rng : ∀ i b, A i = some b → i < 37
 inj : ∀ i j b, A i = some b → A j = some b → i = j
 ne : ∀ i b, A i = some b → b ≠ F
 lo : ∀ i b, A i = some b → n0 ≤ b
 loF : n0 ≤ F
 tab : w.heap[F]? = some (.cells (tabC A) 165 (0, 0))
 nod : ∀ i b, A i = some b → w.heap[b]? = some (.cells (nodeC A i (h i)) 168 (0, 0))
 cu : ∀ i, A i ≠ none → (h i).up = 0 ∨ A (h i).up ≠ none
 cf : ∀ i, A i ≠ none → (h i).first = 0 ∨ A (h i).first ≠ none
 cn : ∀ i, A i ≠ none → (h i).next = 0 ∨ A (h i).next ≠ none
theorem Mem.kept {w w' : World} {n0 F : Nat} {A : Nat → Option Nat} {h : Nat → Nd} (m : Mem w n0 F A h) (hk : ∀ b, b < w.heap.size → w'.heap[b]? = w.heap[b]?) : Mem w' n0 F A h :=
 { m with tab := (hk F (blk_lt m.tab)).trans m.tab, nod := fun i b e => (hk b (blk_lt (m.nod i b e))).trans (m.nod i b e) }
theorem Mem.below {w w' : World} {n0 F : Nat} {A : Nat → Option Nat} {h : Nat → Nd} (m : Mem w n0 F A h) (hb : Below w.heap.size w w') : Mem w' n0 F A h := m.kept fun b hl => hb.block b hl
theorem Mem.alloc {w : World} {n0 F : Nat} {A : Nat → Option Nat} {h : Nat → Nd} (m : Mem w n0 F A h) (o : Obj) : Mem (w.alloc o) n0 F A h := m.kept fun b hl => Below.heap_alloc w o b hl
theorem Mem.drew {w : World} {n0 F : Nat} {A : Nat → Option Nat} {h : Nat → Nd} (m : Mem w n0 F A h) : Mem w.drew n0 F A h := m.kept fun _ _ => rfl
theorem Mem.drewN {w : World} {n0 F : Nat} {A : Nat → Option Nat} {h : Nat → Nd} (m : Mem w n0 F A h) (n : Nat) : Mem (w.drewN n) n0 F A h := m.kept fun _ _ => rfl
theorem Mem.lt {w : World} {n0 F : Nat} {A : Nat → Option Nat} {h : Nat → Nd} (m : Mem w n0 F A h) {i b : Nat} (e : A i = some b) : b < w.heap.size := blk_lt (m.nod i b e)
theorem Mem.ltF {w : World} {n0 F : Nat} {A : Nat → Option Nat} {h : Nat → Nd} (m : Mem w n0 F A h) : F < w.heap.size := blk_lt m.tab
theorem Mem.c0 {w : World} {n0 F : Nat} {A : Nat → Option Nat} {h : Nat → Nd} (m : Mem w n0 F A h) {i b : Nat} (e : A i = some b) : w.cell? ⟨b, 0, none⟩ = some (.int .i64 (i : Int)) := (blk_cell (m.nod i b e) 0).trans rfl
theorem Mem.c1 {w : World} {n0 F : Nat} {A : Nat → Option Nat} {h : Nat → Nd} (m : Mem w n0 F A h) {i b : Nat} (e : A i = some b) : w.cell? ⟨b, 1, none⟩ = some (.string (h i).t) := (blk_cell (m.nod i b e) 1).trans rfl
theorem Mem.c2 {w : World} {n0 F : Nat} {A : Nat → Option Nat} {h : Nat → Nd} (m : Mem w n0 F A h) {i b : Nat} (e : A i = some b) : w.cell? ⟨b, 2, none⟩ = some (.pointer (pa (A (h i).up))) := (blk_cell (m.nod i b e) 2).trans rfl
theorem Mem.c3 {w : World} {n0 F : Nat} {A : Nat → Option Nat} {h : Nat → Nd} (m : Mem w n0 F A h) {i b : Nat} (e : A i = some b) : w.cell? ⟨b, 3, none⟩ = some (.pointer (pa (A (h i).first))) := (blk_cell (m.nod i b e) 3).trans rfl
theorem Mem.c4 {w : World} {n0 F : Nat} {A : Nat → Option Nat} {h : Nat → Nd} (m : Mem w n0 F A h) {i b : Nat} (e : A i = some b) : w.cell? ⟨b, 4, none⟩ = some (.pointer (pa (A (h i).next))) := (blk_cell (m.nod i b e) 4).trans rfl
theorem Mem.fz {w : World} {n0 F : Nat} {A : Nat → Option Nat} {h : Nat → Nd} (m : Mem w n0 F A h) {i b : Nat} (e : A i = some b) (j : Nat) : w.frozen? ⟨b, j, none⟩ = false := blk_frozen (m.nod i b e) j
theorem Mem.fzF {w : World} {n0 F : Nat} {A : Nat → Option Nat} {h : Nat → Nd} (m : Mem w n0 F A h) (j : Nat) : w.frozen? ⟨F, j, none⟩ = false := blk_frozen m.tab j
theorem tabC_get (A : Nat → Option Nat) (i : Nat) (hi : i < 37) : (tabC A)[i]? = some (.pointer (pa (A i))) := by
 simp [tabC, hi]
theorem Mem.cF {w : World} {n0 F : Nat} {A : Nat → Option Nat} {h : Nat → Nd} (m : Mem w n0 F A h) (i : Nat) (hi : i < 37) : w.cell? ⟨F, i, none⟩ = some (.pointer (pa (A i))) := (blk_cell m.tab i).trans (tabC_get A i hi)
def upN (h : Nat → Nd) (i : Nat) (x : Nd) : Nat → Nd := fun j => if j = i then x else h j
theorem Mem.set {w : World} {n0 F : Nat} {A : Nat → Option Nat} {h : Nat → Nd} (m : Mem w n0 F A h) {i b : Nat} (e : A i = some b) (k : Nat) (v : Value) (x : Nd) (hx : (nodeC A i (h i)).setIfInBounds k v = nodeC A i x)
  (xu : x.up = 0 ∨ A x.up ≠ none) (xf : x.first = 0 ∨ A x.first ≠ none) (xn : x.next = 0 ∨ A x.next ≠ none) : Mem (w.setCell ⟨b, k, none⟩ v) n0 F A (upN h i x) where
 z := m.z
 rng := m.rng
 inj := m.inj
 ne := m.ne
 lo := m.lo
 loF := m.loF
 tab := blk_far m.tab (fun e2 => m.ne i b e e2.symm) v
 nod := fun j c ec => by
  unfold upN
  by_cases hj : j = i
  ·subst hj
   obtain rfl : c = b := by rw [e] at ec; exact (Option.some.inj ec).symm
   rw [if_pos rfl, ← hx]
   exact blk_set (m.nod j c e) k v
  ·rw [if_neg hj]
   exact blk_far (m.nod j c ec) (fun (e2 : c = b) => hj (m.inj j i c ec (e2 ▸ e))) v
 cu := fun j hj => by unfold upN; split; exact xu; exact m.cu j hj
 cf := fun j hj => by unfold upN; split; exact xf; exact m.cf j hj
 cn := fun j hj => by unfold upN; split; exact xn; exact m.cn j hj
theorem Mem.ext {w : World} {n0 F : Nat} {A : Nat → Option Nat} {h h' : Nat → Nd} (m : Mem w n0 F A h) (e : ∀ j, h j = h' j) : Mem w n0 F A h' := (funext e : h = h') ▸ m
def upA (A : Nat → Option Nat) (i b : Nat) : Nat → Option Nat := fun j => if j = i then some b else A j
theorem tabC_up (A : Nat → Option Nat) (i b : Nat) (hi : i < 37) : (tabC A).setIfInBounds i (.pointer (some ⟨b, 0, none⟩)) = tabC (upA A i b) := by
 unfold tabC
 rw [List.setIfInBounds_toArray]
 congr 1
 apply List.ext_getElem (by simp)
 intro k h1 h2
 simp only [List.getElem_set, List.getElem_map, List.getElem_range, upA]
 by_cases hk : i = k
 ·rw [if_pos hk, if_pos hk.symm]; rfl
 ·rw [if_neg hk, if_neg (fun e => hk e.symm)]
theorem Mem.add {w : World} {n0 F : Nat} {A : Nat → Option Nat} {h : Nat → Nd} (m : Mem w n0 F A h) {i : Nat} (h0 : i ≠ 0) (hi : i < 37) (hA : A i = none) (hne : ∀ j, A j ≠ none → (h j).up ≠ i ∧ (h j).first ≠ i ∧ (h j).next ≠ i) {b : Nat} {t : ByteArray} (hb : ∀ j, A j ≠ some b) (hbF : b ≠ F) (hlo : n0 ≤ b)
  (hnew : w.heap[b]? = some (.cells #[.int .i64 (i : Int), .string t, .pointer none, .pointer none, .pointer none] 168 (0, 0))) :
  Mem (w.setCell ⟨F, i, none⟩ (.pointer (some ⟨b, 0, none⟩))) n0 F (upA A i b) (upN h i ⟨t, 0, 0, 0⟩) where
 z := by unfold upA; rw [if_neg (fun e => h0 e.symm)]; exact m.z
 rng := fun j c e => by
  unfold upA at e
  by_cases hj : j = i
  ·rw [hj]; exact hi
  ·rw [if_neg hj] at e; exact m.rng j c e
 inj := fun j k c ej ek => by
  unfold upA at ej ek
  by_cases hj : j = i
  ·by_cases hk : k = i
   ·rw [hj, hk]
   ·rw [if_pos hj] at ej; rw [if_neg hk] at ek
    exact absurd (ek.trans ej.symm) (hb k)
  ·by_cases hk : k = i
   ·rw [if_neg hj] at ej; rw [if_pos hk] at ek
    exact absurd (ej.trans ek.symm) (hb j)
   ·rw [if_neg hj] at ej; rw [if_neg hk] at ek
    exact m.inj j k c ej ek
 ne := fun j c e => by
  unfold upA at e
  by_cases hj : j = i
  ·rw [if_pos hj] at e; rw [← Option.some.inj e]; exact hbF
  ·rw [if_neg hj] at e; exact m.ne j c e
 lo := fun j c e => by
  unfold upA at e
  by_cases hj : j = i
  ·rw [if_pos hj] at e; rw [← Option.some.inj e]; exact hlo
  ·rw [if_neg hj] at e; exact m.lo j c e
 loF := m.loF
 tab := by
  rw [← tabC_up A i b hi]
  exact blk_set m.tab i _
 nod := fun j c e => by
  have hF : ∀ {c : Nat} {cs : Array Value} {t : TypeId}, c ≠ F → w.heap[c]? = some (.cells cs t (0, 0)) → (w.setCell ⟨F, i, none⟩ (.pointer (some ⟨b, 0, none⟩))).heap[c]? = some (.cells cs t (0, 0)) := fun hc hh => blk_far hh (p := ⟨F, i, none⟩) hc _
  unfold upA at e
  by_cases hj : j = i
  ·rw [if_pos hj] at e
   obtain rfl := Option.some.inj e
   subst hj
   have : nodeC (upA A j b) j (upN h j ⟨t, 0, 0, 0⟩ j) = #[.int .i64 (j : Int), .string t, .pointer none, .pointer none, .pointer none] := by
    have h0' : ¬ (0 = j) := fun e => h0 e.symm
    simp [nodeC, upN, upA, h0', m.z, pa]
   rw [this]
   exact hF hbF hnew
  ·rw [if_neg hj] at e
   have hn := m.nod j c e
   have e2 : nodeC (upA A i b) j (upN h i ⟨t, 0, 0, 0⟩ j) = nodeC A j (h j) := by
    obtain ⟨n1, n2, n3⟩ := hne j (by rw [e]; simp)
    unfold nodeC upN upA
    rw [if_neg hj, if_neg n1, if_neg n2, if_neg n3]
   rw [e2]
   exact hF (m.ne j c e) hn
 cu := fun j hj => by
  unfold upN
  by_cases hji : j = i
  ·rw [if_pos hji]; exact Or.inl rfl
  ·rw [if_neg hji]
   have hj' : A j ≠ none := by unfold upA at hj; rw [if_neg hji] at hj; exact hj
   rcases m.cu j hj' with h1 | h1
   ·exact Or.inl h1
   ·right; unfold upA; split; simp; exact h1
 cf := fun j hj => by
  unfold upN
  by_cases hji : j = i
  ·rw [if_pos hji]; exact Or.inl rfl
  ·rw [if_neg hji]
   have hj' : A j ≠ none := by unfold upA at hj; rw [if_neg hji] at hj; exact hj
   rcases m.cf j hj' with h1 | h1
   ·exact Or.inl h1
   ·right; unfold upA; split; simp; exact h1
 cn := fun j hj => by
  unfold upN
  by_cases hji : j = i
  ·rw [if_pos hji]; exact Or.inl rfl
  ·rw [if_neg hji]
   have hj' : A j ≠ none := by unfold upA at hj; rw [if_neg hji] at hj; exact hj
   rcases m.cn j hj' with h1 | h1
   ·exact Or.inl h1
   ·right; unfold upA; split; simp; exact h1
theorem nodeSize : (Tryd.prog.info? 168).map (·.size) = some 5 := by kernel_rfl
theorem equalS (a : Addr) (w : World) : (Op.equal 162 (.pointer (some a)) (.pointer (some a))).run Tryd.prog w = .ok true w := by
 obtain ⟨j, hj, hjs⟩ := Option.map_eq_some_iff.1 nodeSize
 have h : ∀ d : Nat, (Op.equalIn (d + 1) 162 (.pointer (some a)) (.pointer (some a))).run Tryd.prog w = .ok true w := fun d => by
  simp [Op.equalIn, run_underlying Tryd.underlying162, sizeOf, typeInfo, hj, run_sameAddr_same]
 simp [Op.equal, Op.maxDepth, h 9999]
theorem equalO {a b : Addr} {ca cb : Array Value} {ta tb : TypeId} (w : World) (hne : a ≠ b) (ha : w.heap[a.block]? = some (.cells ca ta (0, 0))) (hb : w.heap[b.block]? = some (.cells cb tb (0, 0))) :
  (Op.equal 162 (.pointer (some a)) (.pointer (some b))).run Tryd.prog w = .ok false w := by
 obtain ⟨j, hj, hjs⟩ := Option.map_eq_some_iff.1 nodeSize
 have hsz : j.size ≠ 0 := by rw [hjs]; decide
 have h : ∀ d : Nat, (Op.equalIn (d + 1) 162 (.pointer (some a)) (.pointer (some b))).run Tryd.prog w = .ok false w := fun d => by
  simp [Op.equalIn, run_underlying Tryd.underlying162, sizeOf, typeInfo, hj, hsz, run_sameAddr_other w hne ha hb]
 simp [Op.equal, Op.maxDepth, h 9999]
theorem eqS (a : Addr) (w : World) : (binOp .eql 162 (.pointer (some a)) (.pointer (some a))).run Tryd.prog w = .ok (.bool true) w := by
 simp only [binOp]; simp [equalS]
theorem neS (a : Addr) (w : World) : (binOp .neq 162 (.pointer (some a)) (.pointer (some a))).run Tryd.prog w = .ok (.bool false) w := by
 simp only [binOp]; simp [equalS]
theorem eqO {a b : Addr} {ca cb : Array Value} {ta tb : TypeId} (w : World) (hne : a ≠ b) (ha : w.heap[a.block]? = some (.cells ca ta (0, 0))) (hb : w.heap[b.block]? = some (.cells cb tb (0, 0))) :
  (binOp .eql 162 (.pointer (some a)) (.pointer (some b))).run Tryd.prog w = .ok (.bool false) w := by
 simp only [binOp]; simp [equalO w hne ha hb]
theorem neO {a b : Addr} {ca cb : Array Value} {ta tb : TypeId} (w : World) (hne : a ≠ b) (ha : w.heap[a.block]? = some (.cells ca ta (0, 0))) (hb : w.heap[b.block]? = some (.cells cb tb (0, 0))) :
  (binOp .neq 162 (.pointer (some a)) (.pointer (some b))).run Tryd.prog w = .ok (.bool true) w := by
 simp only [binOp]; simp [equalO w hne ha hb]
theorem blk_ne {b c : Nat} (h : b ≠ c) : (⟨b, 0, none⟩ : Addr) ≠ ⟨c, 0, none⟩ := fun e => h (congrArg Addr.block e)
theorem Mem.eqn {w : World} {n0 F : Nat} {A : Nat → Option Nat} {h : Nat → Nd} (m : Mem w n0 F A h) {i j b c : Nat} (hi : A i = some b) (hj : A j = some c) (hne : i ≠ j) : (binOp .eql 162 (.pointer (some ⟨b, 0, none⟩)) (.pointer (some ⟨c, 0, none⟩))).run Tryd.prog w = .ok (.bool false) w :=
 eqO w (blk_ne fun e => hne (m.inj i j b hi (e ▸ hj))) (m.nod i b hi) (m.nod j c hj)
theorem Mem.nen {w : World} {n0 F : Nat} {A : Nat → Option Nat} {h : Nat → Nd} (m : Mem w n0 F A h) {i j b c : Nat} (hi : A i = some b) (hj : A j = some c) (hne : i ≠ j) : (binOp .neq 162 (.pointer (some ⟨b, 0, none⟩)) (.pointer (some ⟨c, 0, none⟩))).run Tryd.prog w = .ok (.bool true) w :=
 neO w (blk_ne fun e => hne (m.inj i j b hi (e ▸ hj))) (m.nod i b hi) (m.nod j c hj)
def findA (A : Nat → Option Nat) (id : Int) : Option Nat := if 0 ≤ id ∧ id < 37 then A id.toNat else none
theorem find_any {w : World} {n0 F : Nat} {A : Nat → Option Nat} {h : Nat → Nd} (m : Mem w n0 F A h) (id : Int) :
  Calls Tryd.prog 131 #[.pointer (some ⟨F, 0, none⟩), .int .i64 id] w fun e w' => e = .returned (.pointer (pa (findA A id))) ∧ w' = w := by
 unfold findA
 by_cases h0 : id < 0
 ·rw [if_neg (by omega)]
  have hd : decide (id < 0) = true := decide_eq_true h0
  go_enter Tryd.func131, Tryd.ntmps131
  go_wp2
  go_ret
  exact ⟨rfl, rfl⟩
 ·by_cases h1 : 37 ≤ id
  ·rw [if_neg (by omega)]
   have hd : decide (id < 0) = false := decide_eq_false h0
   have hd1 : decide (37 ≤ id) = true := decide_eq_true h1
   go_enter Tryd.func131, Tryd.ntmps131
   go_wp2
   go_ret
   exact ⟨rfl, rfl⟩
  ·rw [if_pos (by omega)]
   obtain ⟨i, rfl⟩ := Int.eq_ofNat_of_zero_le (show 0 ≤ id by omega)
   have hd : decide ((i : Int) < 0) = false := decide_eq_false h0
   have hd1 : decide (37 ≤ (i : Int)) = false := decide_eq_false h1
   have hc := m.cF i (by omega)
   have hi : (i : Int) < 37 := by omega
   have hi0 : 0 ≤ (i : Int) := by omega
   rw [Int.toNat_natCast]
   go_enter Tryd.func131, Tryd.ntmps131
   go_wp2
   go_ret
   exact ⟨rfl, rfl⟩
theorem nodeC_2 (A : Nat → Option Nat) (i : Nat) (x : Nd) (u : Nat) : (nodeC A i x).setIfInBounds 2 (.pointer (pa (A u))) = nodeC A i ⟨x.t, u, x.first, x.next⟩ := rfl
theorem nodeC_3 (A : Nat → Option Nat) (i : Nat) (x : Nd) (u : Nat) : (nodeC A i x).setIfInBounds 3 (.pointer (pa (A u))) = nodeC A i ⟨x.t, x.up, u, x.next⟩ := rfl
theorem nodeC_4 (A : Nat → Option Nat) (i : Nat) (x : Nd) (u : Nat) : (nodeC A i x).setIfInBounds 4 (.pointer (pa (A u))) = nodeC A i ⟨x.t, x.up, x.first, u⟩ := rfl
theorem nodeC_1 (A : Nat → Option Nat) (i : Nat) (x : Nd) (t : ByteArray) : (nodeC A i x).setIfInBounds 1 (.string t) = nodeC A i ⟨t, x.up, x.first, x.next⟩ := rfl
theorem Mem.setU {w : World} {n0 F : Nat} {A : Nat → Option Nat} {h : Nat → Nd} (m : Mem w n0 F A h) {i b : Nat} (e : A i = some b) (u : Nat) (hu : u = 0 ∨ A u ≠ none) : Mem (w.setCell ⟨b, 2, none⟩ (.pointer (pa (A u)))) n0 F A (upN h i ⟨(h i).t, u, (h i).first, (h i).next⟩) :=
 m.set e 2 _ _ (nodeC_2 A i (h i) u) hu (m.cf i (by rw [e]; simp)) (m.cn i (by rw [e]; simp))
theorem Mem.setF {w : World} {n0 F : Nat} {A : Nat → Option Nat} {h : Nat → Nd} (m : Mem w n0 F A h) {i b : Nat} (e : A i = some b) (u : Nat) (hu : u = 0 ∨ A u ≠ none) : Mem (w.setCell ⟨b, 3, none⟩ (.pointer (pa (A u)))) n0 F A (upN h i ⟨(h i).t, (h i).up, u, (h i).next⟩) :=
 m.set e 3 _ _ (nodeC_3 A i (h i) u) (m.cu i (by rw [e]; simp)) hu (m.cn i (by rw [e]; simp))
theorem Mem.setN {w : World} {n0 F : Nat} {A : Nat → Option Nat} {h : Nat → Nd} (m : Mem w n0 F A h) {i b : Nat} (e : A i = some b) (u : Nat) (hu : u = 0 ∨ A u ≠ none) : Mem (w.setCell ⟨b, 4, none⟩ (.pointer (pa (A u)))) n0 F A (upN h i ⟨(h i).t, (h i).up, (h i).first, u⟩) :=
 m.set e 4 _ _ (nodeC_4 A i (h i) u) (m.cu i (by rw [e]; simp)) (m.cf i (by rw [e]; simp)) hu
theorem Mem.setT {w : World} {n0 F : Nat} {A : Nat → Option Nat} {h : Nat → Nd} (m : Mem w n0 F A h) {i b : Nat} (e : A i = some b) (t : ByteArray) : Mem (w.setCell ⟨b, 1, none⟩ (.string t)) n0 F A (upN h i ⟨t, (h i).up, (h i).first, (h i).next⟩) :=
 m.set e 1 _ _ (nodeC_1 A i (h i) t) (m.cu i (by rw [e]; simp)) (m.cf i (by rw [e]; simp)) (m.cn i (by rw [e]; simp))
theorem attach_first {w : World} {n0 F : Nat} {A : Nat → Option Nat} {h : Nat → Nd} (m : Mem w n0 F A h) {i u bi bu : Nat} (hi : A i = some bi) (hu : A u = some bu) (hne : u ≠ i) :
  Calls Tryd.prog 130 #[.pointer (some ⟨bi, 0, none⟩), .pointer (some ⟨bu, 0, none⟩), .pointer none] w fun e w' => (∃ v, e = .returned v) ∧ Mem w' n0 F A (attachH h i u 0) ∧ Below n0 w w' ∧ (∀ k, (∀ x, A x ≠ some k) → w'.heap[k]? = w.heap[k]?) := by
 have hnb : bu ≠ bi := fun e => hne (m.inj u i bu hu (e ▸ hi))
 have hnb' : bi ≠ bu := fun e => hnb e.symm
 have c3 := m.c3 hu
 have c4 := m.c4 hi
 have c2 := m.c2 hi
 have z2 := m.fz hi 2
 have z4 := m.fz hi 4
 have z3 := m.fz hu 3
 have M3 := Aside0.mk (((m.setU hi u (Or.inr (by rw [hu]; simp))).setN hi (h u).first (m.cf u (by rw [hu]; simp))).setF hu i (Or.inr (by rw [hi]; simp)))
 rw [hu, hi, pa_some, pa_some] at M3
 have L1 := m.lo i bi hi
 have L2 := m.lo u bu hu
 have HI := Aside0.mk hi
 have HU := Aside0.mk hu
 clear m hi hu
 go_enter Tryd.func130, Tryd.ntmps130
 go_wp2
 refine bodyPost_ret (results_none rfl _ _ _) rfl ?_
 refine ⟨⟨_, rfl⟩, M3.out.ext (fun j => ?_), (((Below.refl n0 w).setCell (p := ⟨bi, 2, none⟩) L1 _).setCell (p := ⟨bi, 4, none⟩) L1 _).setCell (p := ⟨bu, 3, none⟩) L2 _, fun k hk => by
  rw [Below.heap_setCell _ _ _ _ (fun e => hk u (by rw [HU.out, e])), Below.heap_setCell _ _ _ _ (fun e => hk i (by rw [HI.out, e])), Below.heap_setCell _ _ _ _ (fun e => hk i (by rw [HI.out, e]))]⟩
 unfold attachH upN
 by_cases e1 : j = u
 ·subst e1; simp [hne]
 ·by_cases e2 : j = i
  ·subst e2; simp [e1]
  ·simp [e1, e2]
theorem attach_behind {w : World} {n0 F : Nat} {A : Nat → Option Nat} {h : Nat → Nd} (m : Mem w n0 F A h) {i u a bi bu ba : Nat} (hi : A i = some bi) (hu : A u = some bu) (ha : A a = some ba) (hne : a ≠ i) :
  Calls Tryd.prog 130 #[.pointer (some ⟨bi, 0, none⟩), .pointer (some ⟨bu, 0, none⟩), .pointer (some ⟨ba, 0, none⟩)] w fun e w' => (∃ v, e = .returned v) ∧ Mem w' n0 F A (attachH h i u a) ∧ Below n0 w w' ∧ (∀ k, (∀ x, A x ≠ some k) → w'.heap[k]? = w.heap[k]?) := by
 have hnb : ba ≠ bi := fun e => hne (m.inj a i ba ha (e ▸ hi))
 have hnb' : bi ≠ ba := fun e => hnb e.symm
 have ha0 : a ≠ 0 := fun e => by rw [e, m.z] at ha; cases ha
 have c4 := m.c4 hi
 have c2 := m.c2 hi
 have d4 := m.c4 ha
 have z2 := m.fz hi 2
 have z4 := m.fz hi 4
 have z3 := m.fz ha 4
 have M3 := Aside0.mk (((m.setU hi u (Or.inr (by rw [hu]; simp))).setN hi (h a).next (m.cn a (by rw [ha]; simp))).setN ha i (Or.inr (by rw [hi]; simp)))
 rw [hu, hi, pa_some, pa_some] at M3
 have L1 := m.lo i bi hi
 have L2 := m.lo a ba ha
 have HI := Aside0.mk hi
 have HA := Aside0.mk ha
 clear m hi hu ha
 go_enter Tryd.func130, Tryd.ntmps130
 go_wp2
 go_end0
 refine ⟨⟨_, rfl⟩, M3.out.ext (fun j => ?_), (((Below.refl n0 w).setCell (p := ⟨bi, 2, none⟩) L1 _).setCell (p := ⟨bi, 4, none⟩) L1 _).setCell (p := ⟨ba, 4, none⟩) L2 _, fun k hk => by
  rw [Below.heap_setCell _ _ _ _ (fun e => hk a (by rw [HA.out, e])), Below.heap_setCell _ _ _ _ (fun e => hk i (by rw [HI.out, e])), Below.heap_setCell _ _ _ _ (fun e => hk i (by rw [HI.out, e]))]⟩
 unfold attachH upN
 rw [if_neg ha0]
 by_cases e1 : j = a
 ·subst e1; simp [hne]
 ·by_cases e2 : j = i
  ·subst e2; simp [e1]
  ·simp [e1, e2]
def withinF (h : Nat → Nd) (u : Nat) : Nat → Nat → Option Bool
 | 0, _ => none
 | k + 1, x => if x = 0 then some false else if x = u then some true else withinF h u k (h x).up
set_option maxRecDepth 100000 in
set_option maxHeartbeats 1000000 in
theorem within_any {w : World} {n0 F : Nat} {A : Nat → Option Nat} {h : Nat → Nd} (m : Mem w n0 F A h) (x u : Nat) (hx : x = 0 ∨ A x ≠ none) {c : Nat} (hu : A u = some c) (k : Nat) (r : Bool) (hr : withinF h u k x = some r) :
  Calls Tryd.prog 150 #[.pointer (pa (A x)), .pointer (some ⟨c, 0, none⟩)] w fun e w' => e = .returned (.bool r) ∧ w' = w := by
 have HX := Aside0.mk hx
 have HR := Aside0.mk hr
 have M := Aside0.mk m
 have HU := Aside0.mk hu
 clear hx hr m hu
 go_enter Tryd.func150, Tryd.ntmps150
 go_wp2
 go_loopg [0] k (fun kq v w' => ∃ y : Nat, v = .pointer (pa (A y)) ∧ Aside0 (y = 0 ∨ A y ≠ none) ∧ Aside0 (withinF h u kq y = some r) ∧ w' = w)
 case atStart => exact ⟨x, rfl, HX, HR, rfl⟩
 case round =>
  obtain ⟨y, rfl, HY, HQ, rfl⟩ := hrel
  clear HX HR
  cases gk with
  | zero => exact absurd HQ.out (by simp [withinF])
  | succ k1 =>
   have hq := HQ.out
   clear HQ
   unfold withinF at hq
   by_cases hy0 : y = 0
   ·rw [if_pos hy0] at hq
    obtain rfl := Option.some.inj hq
    subst hy0
    have hz := M.out.z
    rw [hz, pa_none]
    clear hq hz HY
    go_wp2
    go_ret
    exact ⟨rfl, rfl⟩
   ·rw [if_neg hy0] at hq
    obtain ⟨b, hb⟩ := Option.ne_none_iff_exists'.1 (HY.out.resolve_left hy0)
    have HB := Aside0.mk hb
    have HC := HU
    clear hb
    by_cases hyu : y = u
    ·rw [if_pos hyu] at hq
     obtain rfl := Option.some.inj hq
     subst hyu
     obtain rfl : b = c := Option.some.inj (HB.out.symm.trans HC.out)
     rw [HB.out, pa_some]
     have hE := eqS ⟨b, 0, none⟩ wr
     clear hq
     go_wp2
     go_ret
     exact ⟨rfl, rfl⟩
    ·rw [if_neg hyu] at hq
     have hbc : b ≠ c := fun e => hyu (M.out.inj y u b HB.out (e ▸ HC.out))
     have c2 := M.out.c2 HB.out
     have HQ := Aside0.mk hq
     have HUP := Aside0.mk (M.out.cu y (by rw [HB.out]; simp))
     have hE := M.out.eqn HB.out HC.out hyu
     rw [HB.out, pa_some]
     clear hq
     go_wp2
     go_roundg k1
     case measure => exact Nat.lt_succ_self _
     case rel => exact ⟨(h y).up, rfl, HUP, HQ, rfl⟩
end Go.Proofs.YtdpklbomhdpimaaDoor.P
namespace Go.Proofs.YtdpklbomhdpimaaDoor.P
open Go.RowKit Go.Shelf Go.Proofs.YtdpklbomhdpimaaDoorW.PrintWords Go.Proofs.YtdpklbomhdpimaaDoorW.PrintLast Go.Proofs.YtdpklbomhdpimaaDoorW.PrintMore Go.Proofs.YtdpklbomhdpimaaDoor.FP
attribute [local go_sem] Oper.semAt_some

def NList (A : Nat → Option Nat) (n0 : Nat) (W : World) : Option Addr → List Nat → Prop
 | p, [] => p = none
 | p, x :: rest => ∃ b q, A x = some b ∧ p = some ⟨b, 0, none⟩ ∧ b < n0 ∧ W.cell? ⟨b, 4, none⟩ = some (.pointer q) ∧ NList A n0 W q rest
theorem NList.below {A : Nat → Option Nat} {n0 : Nat} {V W : World} (h : Below n0 V W) : ∀ {p : Option Addr} {xs : List Nat}, NList A n0 V p xs → NList A n0 W p xs
 | _, [], hl => hl
 | _, _ :: _, ⟨b, q, h1, h2, h3, h4, h5⟩ => ⟨b, q, h1, h2, h3, (h.cell (p := ⟨b, 4, none⟩) h3).trans h4, NList.below h h5⟩
theorem NList.len {A : Nat → Option Nat} {n0 : Nat} {W : World} : ∀ {xs ys : List Nat} {p : Option Addr}, NList A n0 W p xs → NList A n0 W p ys → xs.length = ys.length
 | [], [], _, _, _ => rfl
 | [], _ :: _, _, h, ⟨b, q, _, h2, _⟩ => by rw [show _ = none from h] at h2; cases h2
 | _ :: _, [], _, ⟨b, q, _, h2, _⟩, h => by rw [show _ = none from h] at h2; cases h2
 | _ :: _, _ :: _, _, ⟨b, q, h1, h2, h3, h4, h5⟩, ⟨c, r, g1, g2, g3, g4, g5⟩ => by
  rw [h2] at g2
  obtain rfl : b = c := congrArg Addr.block (Option.some.inj g2)
  rw [h4] at g4
  obtain rfl : q = r := by injection g4 with e; injection e
  rw [List.length_cons, List.length_cons, NList.len h5 g5]
open Classical in
noncomputable def nleft (A : Nat → Option Nat) (n0 : Nat) (W : World) (v : Value) : Nat :=
 if h : ∃ r : Option Addr × List Nat, v = .pointer r.1 ∧ NList A n0 W r.1 r.2 then (Classical.choose h).2.length else 0
theorem nleft_eq {A : Nat → Option Nat} {n0 : Nat} {W : World} {q : Option Addr} {xs : List Nat} (h : NList A n0 W q xs) : nleft A n0 W (.pointer q) = xs.length := by
 have hex : ∃ r : Option Addr × List Nat, Value.pointer q = .pointer r.1 ∧ NList A n0 W r.1 r.2 := ⟨(q, xs), rfl, h⟩
 unfold nleft
 rw [dif_pos hex]
 obtain ⟨e, hl⟩ := Classical.choose_spec hex
 have e' : q = (Classical.choose hex).1 := by simpa using e
 rw [← e'] at hl
 exact NList.len hl h
theorem nlist_of {w : World} {n0 F : Nat} {A : Nat → Option Nat} {h : Nat → Nd} (m : Mem w n0 F A h) {up : Nat} : ∀ {G : Fo}, Rep h up G → (∀ x ∈ G.ids, A x ≠ none) → NList A w.heap.size w (pa (A G.hd)) G.tops
 | .nil, _, _ => by show pa (A 0) = none; rw [m.z]; rfl
 | .nd i t k n, ⟨h1, h2, h3, h4⟩, hA => by
  obtain ⟨b, hb⟩ := Option.ne_none_iff_exists'.1 (hA i (by simp [Fo.ids]))
  refine ⟨b, pa (A n.hd), hb, by show pa (A i) = _; rw [hb]; rfl, m.lt hb, ?_, nlist_of m h4 fun x hx => hA x (by simp [Fo.ids, hx])⟩
  rw [m.c4 hb, h2]
theorem kids_in (F : Fence) (n : Nat) (hf : F.fn 156) (hro : F.round = none) (p0 : Option Addr) (w : World) :
  CallsIn F n Tryd.prog 156 #[.pointer p0] w fun e w' => e = .returned (.func (.func 157) #[] #[.pointer (some ⟨w.heap.size, 0, none⟩)]) ∧ w' = w.alloc (.cells #[.pointer p0] 162) := by
 refine callsIn_of_wp Tryd.func156 rfl hf ?_ hro
 simp only [Tryd.ntmps156, List.size_toArray, List.length_cons, List.length_nil, Nat.reduceAdd, Nat.reduceSub, Array.replicate_succ, Array.replicate_zero, List.push_toArray, List.append_toArray, List.nil_append, List.cons_append]
 gi_wp2
 go_ret
 exact ⟨rfl, rfl⟩
structure KA (Q : Nat → Prop) where
 val : Nat
 ok : Q val
set_option maxRecDepth 100000 in
set_option maxHeartbeats 1000000 in
theorem kids1_in (F : Fence) (n : Nat) (hf : F.fn 157) (hro : F.round = none) (hn : 1 ≤ n) (l Bn n0 b : Nat) (Q : Nat → Prop) (A : Nat → Option Nat) (p0 : Option Addr) (xs : List (KA Q)) (J Jx : List (KA Q) → World → Prop)
  (hY : ∀ pre x W, J pre W → pre.length < xs.length → YieldAt F (n - 1) Tryd.prog l #[.pointer (pa (A x.val))] W fun e W' =>
   (e = .returned (.bool true) ∧ J (pre ++ [x]) W' ∧ Below n0 W W') ∨ (e = .returned (.bool false) ∧ Jx (pre ++ [x]) W'))
  (W : World) (hBn : W.cell? ⟨Bn, 0, none⟩ = some (.pointer (some ⟨b, 0, none⟩))) (hb3 : W.cell? ⟨b, 3, none⟩ = some (.pointer p0)) (hL : NList A n0 W p0 (xs.map KA.val)) (h0 : J [] W) :
  CallsIn F n Tryd.prog 157 #[.func (.yield l) #[] #[], .pointer (some ⟨Bn, 0, none⟩)] W fun e W' => (∃ v, e = .returned v) ∧
   ((∃ ys, ys = xs ∧ J ys W') ∨ (∃ pre, pre <+: xs ∧ Jx pre W')) := by
 refine callsIn_of_wp Tryd.func157 rfl hf ?_ hro
 simp only [Tryd.ntmps157, List.size_toArray, List.length_cons, List.length_nil, Nat.reduceAdd, Nat.reduceSub, Array.replicate_succ, Array.replicate_zero, List.push_toArray, List.append_toArray, List.nil_append, List.cons_append]
 gi_wp2
 gi_loopw [3] (fun p wr => ∃ (pre rest : List (KA Q)) (q : Option Addr), p = .pointer q ∧ xs = pre ++ rest ∧ NList A n0 wr q (rest.map KA.val) ∧ J pre wr)
  (fun p wr => nleft A n0 wr p)
 case atStart =>
  exact ⟨[], xs, p0, rfl, rfl, hL, h0⟩
 case round =>
  obtain ⟨pre, rest, q, rfl, hx, hl, hJs⟩ := hrel
  cases rest with
  | nil =>
   obtain rfl : q = none := hl
   gi_wp2
   go_end0
   exact ⟨⟨_, rfl⟩, .inl ⟨pre, by simp [hx], hJs⟩⟩
  | cons x rest =>
   have hl' := hl
   obtain ⟨c, q', hA, rfl, hc, hq, hr⟩ := hl
   obtain ⟨fn, tmps, assign, body, hy, hR⟩ := hY pre x wr hJs (by rw [hx]; simp)
   rw [hA, pa_some] at hy
   have HA := Aside0.mk hA
   clear hA
   gi_wp2
   refine hR.mono ?_
   rintro e W3 (⟨rfl, hJ3, hk3⟩ | ⟨rfl, hJx3⟩)
   ·have hq3 : W3.cell? ⟨c, 4, none⟩ = some (.pointer q') := (hk3.cell (p := ⟨c, 4, none⟩) hc).trans hq
    gi_wp2
    go_roundw
    case rel => exact ⟨pre ++ [x], rest, q', rfl, by simp [hx], hr.below hk3, hJ3⟩
    case measure => rw [nleft_eq (hr.below hk3), nleft_eq hl']; simp
   ·gi_wp2
    refine bodyPost_ret (results_none rfl _ _ _) rfl ?_
    exact ⟨⟨_, rfl⟩, .inr ⟨pre ++ [x], ⟨rest, by simp [hx]⟩, hJx3⟩⟩
theorem kids_stops (F : Fence) (n : Nat) (hf : F.fn 157) (hro : F.round = none) (hn : 1 ≤ n) (Bn n0 b : Nat) (Q : Nat → Prop) (A : Nat → Option Nat) (p0 : Option Addr) (xs : List (KA Q)) (w : World) (hBn : Bn < w.heap.size) (hn0 : n0 ≤ w.heap.size) (hb : b < w.heap.size)
  (hc : w.cell? ⟨Bn, 0, none⟩ = some (.pointer (some ⟨b, 0, none⟩))) (hb3 : w.cell? ⟨b, 3, none⟩ = some (.pointer p0)) (hL : NList A n0 w p0 (xs.map KA.val)) :
  SeqStopsK F n Tryd.prog 157 #[.pointer (some ⟨Bn, 0, none⟩)] (fun x : KA Q => #[.pointer (pa (A x.val))]) (Below n0) (fun ys => ys = xs) (fun pre => pre <+: xs) xs.length w := fun l J Jx W hW _ _ hY h0 =>
 kids1_in F n hf hro hn l Bn n0 b Q A p0 xs J Jx hY W ((hW.cell (p := ⟨Bn, 0, none⟩) hBn).trans hc) ((hW.cell (p := ⟨b, 3, none⟩) hb).trans hb3) (hL.below (hW.mono hn0)) h0
theorem attach_val {Q : Nat → Prop} : ∀ {l : List Nat} (h : ∀ x ∈ l, Q x), ∃ xs : List (KA Q), xs.map KA.val = l
 | [], _ => ⟨[], rfl⟩
 | x :: l, h => by
  obtain ⟨xs, hx⟩ := attach_val (l := l) fun y hy => h y (List.mem_cons_of_mem _ hy)
  exact ⟨⟨x, h x List.mem_cons_self⟩ :: xs, by rw [List.map_cons, hx]⟩
def pv (i : Nat) : Nat → List Nat → Nat
 | p, [] => p
 | p, y :: r => if y = i then p else pv i y r
def lastN (p : Nat) (l : List Nat) : Nat := l.foldl (fun _ y => y) p
theorem pv_done (i : Nat) : ∀ (l : List Nat) (p : Nat), (∀ y ∈ l, y ≠ i) → pv i p l = lastN p l
 | [], p, _ => rfl
 | y :: r, p, h => by
  unfold pv
  rw [if_neg (h y List.mem_cons_self), pv_done i r y fun z hz => h z (List.mem_cons_of_mem _ hz)]
  rfl
theorem pv_stop (i : Nat) (rest : List Nat) : ∀ (l : List Nat) (p : Nat), (∀ y ∈ l, y ≠ i) → pv i p (l ++ i :: rest) = lastN p l
 | [], p, _ => by show pv i p (i :: rest) = p; unfold pv; rw [if_pos rfl]
 | y :: r, p, h => by
  show pv i p (y :: (r ++ i :: rest)) = _
  unfold pv
  rw [if_neg (h y List.mem_cons_self), pv_stop i rest r y fun z hz => h z (List.mem_cons_of_mem _ hz)]
  rfl
theorem lastN_snoc (p : Nat) (l : List Nat) (x : Nat) : lastN p (l ++ [x]) = x := by simp [lastN]
theorem cell_of_box_f {W : World} {B : Nat} {v : Value} {t : TypeId} (h : W.heap[B]? = some (.cells #[v] t (0, 0))) : W.cell? ⟨B, 0, none⟩ = some v ∧ W.frozen? ⟨B, 0, none⟩ = false := by
 constructor <;> simp [World.cell?, World.frozen?, h]
theorem cell_new_f (W : World) (v : Value) (t : TypeId) : (W.alloc (.cells #[v] t)).cell? ⟨W.heap.size, 0, none⟩ = some v ∧ (W.alloc (.cells #[v] t)).frozen? ⟨W.heap.size, 0, none⟩ = false :=
 cell_of_box_f (World.alloc_heap_new W _)
theorem cell_alloc_f {W : World} {a : Addr} {v : Value} (o : Obj) (h : W.cell? a = some v) : (W.alloc o).cell? a = some v := cell_kept h (World.grownBy_alloc W o none) (fun r e => by cases e)
theorem frozen_alloc_f {W : World} {a : Addr} {v : Value} (o : Obj) (h : W.cell? a = some v) (hf : W.frozen? a = false) : (W.alloc o).frozen? a = false := (frozen_kept h (World.grownBy_alloc W o none) (fun r e => by cases e)).trans hf
def AheadI (w : World) (A : Nat → Option Nat) (i b : Nat) (pre : List (KA fun x => A x ≠ none)) (W : World) : Prop :=
 (∀ y ∈ pre, y.val ≠ i) ∧ W.cell? ⟨w.heap.size, 0, none⟩ = some (.pointer (some ⟨b, 0, none⟩)) ∧ W.cell? ⟨w.heap.size + 1, 0, none⟩ = some (.pointer (pa (A (lastN 0 (pre.map KA.val))))) ∧ W.frozen? ⟨w.heap.size + 1, 0, none⟩ = false
def AheadX (w : World) (A : Nat → Option Nat) (i : Nat) (c : Code) (pre : List (KA fun x => A x ≠ none)) (W : World) : Prop :=
 c = .exit 0 ∧ ∃ (pre' : List (KA fun x => A x ≠ none)) (x : KA fun x => A x ≠ none), pre = pre' ++ [x] ∧ x.val = i ∧ (∀ y ∈ pre', y.val ≠ i) ∧ W.cell? ⟨w.heap.size + 1, 0, none⟩ = some (.pointer (pa (A (lastN 0 (pre'.map KA.val)))))
theorem aheadI_own (w : World) (A : Nat → Option Nat) (i b : Nat) : Own (AheadI w A i b) := fun s V W row hs hg hr => ⟨hs.1, cell_kept hs.2.1 hg hr, cell_kept hs.2.2.1 hg hr, (frozen_kept hs.2.2.1 hg hr).trans hs.2.2.2⟩
theorem aheadX_own (w : World) (A : Nat → Option Nat) (i : Nat) (c : Code) : Own (AheadX w A i c) := fun s V W row hs hg hr => by
 obtain ⟨e1, p', x, e2, e3, e4, e5⟩ := hs
 exact ⟨e1, p', x, e2, e3, e4, cell_kept e5 hg hr⟩
set_option maxRecDepth 100000 in
set_option maxHeartbeats 2000000 in
theorem ahead_in (F : Fence) (n : Nat) (h79 : F.fn 151) (h56 : F.fn 156) (h76 : F.fn 157) (hro : F.round = none) (hn : 3 ≤ n) {w : World} {n0 Fb : Nat} {A : Nat → Option Nat} {h : Nat → Nd} (m : Mem w n0 Fb A h)
  {i u b bu : Nat} (hi : A i = some b) (hu : A u = some bu) (hup : (h i).up = u) (xs : List Nat) (hxs : ∀ x ∈ xs, A x ≠ none) (hL : NList A w.heap.size w (pa (A (h u).first)) xs) :
  CallsIn F n Tryd.prog 151 #[.pointer (some ⟨b, 0, none⟩)] w fun e W' => e = .returned (.pointer (pa (A (pv i 0 xs)))) ∧ Below w.heap.size w W' := by
 have h1 : 1 ≤ n := by omega
 obtain ⟨ys, hys⟩ := attach_val (Q := fun x => A x ≠ none) hxs
 subst hys
 have hz := m.z
 have c2 := m.c2 hi
 rw [hup, hu, pa_some] at c2
 replace c2 := cell_alloc_f (.cells #[.pointer none] 162) (cell_alloc_f (.cells #[.pointer (some ⟨b, 0, none⟩)] 162) c2)
 have c3 := m.c3 hu
 have HBU := Aside0.mk (m.lt hu)
 have HB := Aside0.mk (m.lt hi)
 have M := Aside0.mk m
 have HI := Aside0.mk hi
 have HZ := Aside0.mk hz
 clear hz hi hu hup m
 refine callsIn_of_wp_marks Tryd.func151 rfl h79 ?_ hro
 simp only [Tryd.ntmps151, List.size_toArray, List.length_cons, List.length_nil, Nat.reduceAdd, Nat.reduceSub, Array.replicate_succ, Array.replicate_zero, List.push_toArray, List.append_toArray, List.nil_append, List.cons_append]
 gi_wp2_with (gi_at_call 156; refine (kids_in F (n - 1) h56 hro _ _).mono ?_; rintro e w' ⟨rfl, rfl⟩)
 have b0 := cell_new_f w (.pointer (some ⟨b, 0, none⟩)) 162
 have b1 := cell_new_f (w.alloc (.cells #[.pointer (some ⟨b, 0, none⟩)] 162)) (.pointer none) 162
 have b2 := cell_new_f ((w.alloc (.cells #[.pointer (some ⟨b, 0, none⟩)] 162)).alloc (.cells #[.pointer none] 162)) (.pointer (some ⟨bu, 0, none⟩)) 162
 simp only [World.size_alloc] at b1 b2
 have hB0 : Below w.heap.size w (((w.alloc (.cells #[.pointer (some ⟨b, 0, none⟩)] 162)).alloc (.cells #[.pointer none] 162)).alloc (.cells #[.pointer (some ⟨bu, 0, none⟩)] 162)) := (((Below.refl _ w).alloc (Nat.le_refl _) _).alloc (by simp) _).alloc (by simp; omega) _
 refine wpIn_rangeFunc_ownF hro h1 (gf := 157) (lb := #[.pointer (some ⟨w.heap.size + 1 + 1, 0, none⟩)]) rfl h76 (enters_of Tryd.func157 (by kernel_rfl) rfl)
  (kids_stops F (n - 1) h76 hro (by omega) (w.heap.size + 1 + 1) w.heap.size bu _ A _ ys _ (by simp) (by simp; omega) (by simp; have := HBU.out; omega) b2.1 (cell_alloc_f _ (cell_alloc_f _ (cell_alloc_f _ c3))) (hL.below hB0)) belowK_t (belowK_b (by simp; omega)) (Below.refl _ _) (fun _ => by rfl)
  (fun pre W => AheadI w A i b pre W ∧ Below w.heap.size w W)
  (fun c pre W => AheadX w A i c pre W ∧ Below w.heap.size w W)
  (OwnFrom.and (Own.from (aheadI_own w A i b) _) (ownFrom_below (Nat.le_refl _) (by simp; omega)))
  (fun c => OwnFrom.and (Own.from (aheadX_own w A i c) _) (ownFrom_below (Nat.le_refl _) (by simp; omega)))
  ⟨⟨by simp, cell_alloc_f _ (cell_alloc_f _ b0.1), by rw [show lastN 0 (([] : List (KA fun x => A x ≠ none)).map KA.val) = 0 from rfl, HZ.out]; exact cell_alloc_f _ b1.1, frozen_alloc_f _ b1.1 b1.2⟩, hB0⟩
  (fun x => { tmps := #[.pointer (some ⟨b, 0, none⟩), .pointer (some ⟨w.heap.size, 0, none⟩), .pointer none, .pointer (some ⟨w.heap.size + 1, 0, none⟩), .pointer (pa (A x.val)), .pointer (some ⟨b, 0, none⟩), .pointer (some ⟨b, 0, none⟩), .pointer (some ⟨b, 2, none⟩), .pointer (some ⟨bu, 0, none⟩), .func (.func 157) #[] #[.pointer (some ⟨w.heap.size + 1 + 1, 0, none⟩)], .pointer (pa (A x.val)), undef, undef, undef, undef, undef], defers := [] }) ?assign ?body ?done ?stop
 case assign =>
  intro l x W K hK
  gi_wp2
  exact hK
 case body =>
  rintro l pre x W ⟨⟨hp, hcn, hca, hfa⟩, hB⟩ _
  obtain ⟨c, hc⟩ := Option.ne_none_iff_exists'.1 x.ok
  have MW := M.out.below hB
  have hbelow : Below w.heap.size W (W.setCell ⟨w.heap.size + 1, 0, none⟩ (.pointer (some ⟨c, 0, none⟩))) := (Below.refl _ W).setCell (p := ⟨w.heap.size + 1, 0, none⟩) (by simp) _
  by_cases hx : x.val = i
  ·obtain rfl : c = b := by rw [hx, HI.out] at hc; exact (Option.some.inj hc).symm
   have hE := eqS ⟨c, 0, none⟩ W
   have HX := Aside0.mk hx
   rw [hc, pa_some]
   clear hx hc
   gi_wp2
   exact ⟨KeepsOthers.refl _, ⟨rfl, pre, x, rfl, HX.out, hp, hca⟩, hB⟩
  ·have hE := MW.eqn hc HI.out hx
   have HX := Aside0.mk hx
   have HC := Aside0.mk hc
   rw [hc, pa_some]
   clear hx hc
   gi_wp2
   refine ⟨KeepsOthers.setCell _ _ _, hbelow, ⟨fun y hy => ?_, ?_, ?_, ?_⟩, hB.trans hbelow⟩
   ·rcases List.mem_append.1 hy with hy | hy
    ·exact hp y hy
    ·rw [List.mem_singleton.1 hy]; exact HX.out
   ·rw [World.cell?_setCell_other _ _ _ _ (by intro e; have := congrArg Addr.block e; simp at this)]; exact hcn
   ·rw [List.map_append, List.map_cons, List.map_nil, lastN_snoc, HC.out]
    exact World.cell?_setCell_same' _ _ _ (by rw [hca]; rfl)
   ·rw [World.frozen?_setCell]; exact hfa
 case done =>
  rintro D zs W hD rfl ⟨⟨hp, _, hca, _⟩, hB⟩ hK
  gi_wp2
  refine ⟨by simp, .inl ⟨_, _, rfl, run_takeDeferred hK, ?_⟩⟩
  refine ⟨_, results_tmp rfl _ _ _, ?_, hB.trans (belowK_b (w := w) (Nat.le_refl _) W D _ _ (by simp at hD; omega) hK rfl rfl)⟩
  rw [pv_done i _ 0 (fun y hy => by obtain ⟨z, hz, rfl⟩ := List.mem_map.1 hy; exact hp z hz)]
  rfl
 case stop =>
  rintro D c pre W hD hpre ⟨⟨rfl, pre', x, rfl, hx, hp, hca⟩, hB⟩ hK
  gi_wp2
  refine ⟨by simp, .inl ⟨_, _, rfl, run_takeDeferred hK, ?_⟩⟩
  refine ⟨_, results_tmp rfl _ _ _, ?_, hB.trans (belowK_b (w := w) (Nat.le_refl _) W D _ _ (by simp at hD; omega) hK rfl rfl)⟩
  obtain ⟨rest, rfl⟩ := hpre
  rw [List.map_append, List.map_append, List.map_cons, List.map_nil, hx, List.append_assoc, List.singleton_append, pv_stop i _ _ 0 (fun y hy => by obtain ⟨z, hz, rfl⟩ := List.mem_map.1 hy; exact hp z hz)]
  rfl
end Go.Proofs.YtdpklbomhdpimaaDoor.P
