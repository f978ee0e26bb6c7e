/- Joined by a program (wip/shake.py): the declarations that 'YtdpklbomhdpimaaDoorCardFnLogTree' reaches. -/
import Derived.Test.YtdpklbomhdpimaaDoorZLa5
set_option linter.unusedVariables false
set_option linter.unusedSimpArgs false
set_option linter.unusedSectionVars false
namespace Go.Proofs.YtdpklbomhdpimaaDoor.P
open Go.RowKit Go.Proofs.YtdpklbomhdpimaaDoorW.PrintWords Go.Proofs.YtdpklbomhdpimaaDoorW.PrintLast
def spec_DrawLogTree.f (k : Nat) (l0 : List Int) : Option ((List (S44))) := (spec_l6Open.f l0).bind fun bt1015 => ((spec_l72Log.f k bt1015.1 bt1015.2).bind fun bt1018 => (some bt1018.1))
theorem spec_DrawLogTree.mono : ∀ a0 k, LeO (spec_DrawLogTree.f k a0) (spec_DrawLogTree.f (k + 1) a0) := by
 intro a0 k
 unfold spec_DrawLogTree.f
 repeat' first
   | (with_reducible exact spec_l72Log.mono _ _ _)
   | (with_reducible exact LeO.refl _)
   | (with_reducible exact LeO.none _)
   | (with_reducible refine LeO.ite ?_ ?_)
   | (with_reducible refine LeO.bind ?_ (fun _ => ?_))
set_option maxHeartbeats 8000000 in
set_option maxRecDepth 100000 in
theorem spec_DrawLogTree.calls (k : Nat) (A0 : Option Addr) (c0 : Nat) (l0 : List Int) (r : List (S44)) (w : World) (hr0 : Kd.C (Kd.int .u8) w A0 l0.length l0) (hc0 : l0.length ≤ c0) (h : spec_DrawLogTree.f k l0 = some r) :
  Calls Tryd.prog 46 #[.slice A0 l0.length c0] w fun e w' => ∃ v0_ : Value, e = .returned (v0_) ∧ Kd.R k44 44 w' w.heap.size (fun _ => True) v0_ r ∧ Below w.heap.size w w' := by
 have HR0 := Aside0.mk hr0
 have HC0 := Aside0.mk hc0
 clear hr0 hc0
 have HB := Aside0.mk (Below.refl w.heap.size w)
 unfold spec_DrawLogTree.f at h
 have H := h
 clear h
 replace H := Option.bind_eq_some_iff.mp H
 obtain ⟨⟨t1015, t1016⟩, A20, H⟩ := H
 try dsimp only at H
 have A2 := Aside0.mk A20
 clear A20
 replace H := Option.bind_eq_some_iff.mp H
 obtain ⟨⟨t1018, t1021⟩, A30, H⟩ := H
 try dsimp only at H
 have A3 := Aside0.mk A30
 clear A30
 obtain rfl := Option.some.inj H
 go_enter Tryd.func46, Tryd.ntmps46
 go_wp2_with (first | ((with_reducible refine gate_callee (f := 72) rfl ?_); refine gl_ 4 Tryd.func72 #[.slice A0 l0.length c0] ?_; (with_reducible refine (spec_l6Open.calls _ _ l0 t1015 t1016 w _ ?side1 ?side2 ?side3 A2.out).mono ?_); (case side1 => exact bel_); (case side2 => exact HR0.out); (case side3 => exact HC0.out); rintro e w4 ⟨g1017, rfl, hi, hb, hb2⟩; refine ⟨_, rfl, ?_⟩; replace HB := Aside0.mk (hb); have HI1017 := Aside0.mk (hi); (try clear hb hb2 hi)) | ((with_reducible refine gate_callee (f := 88) rfl ?_); refine gl_ 5 Tryd.func88 #[.pointer (some ⟨g1017, 0, none⟩)] ?_; (with_reducible refine (spec_l72Log.calls k g1017 t1015 t1016 t1018 t1021 w _ ?side1 ?side2 A3.out).mono ?_); (case side1 => exact is_HI1017); (case side2 => exact bel_); rintro e w5 ⟨v1019, rfl, ho0, hi, hb, hk⟩; refine ⟨_, rfl, ?_⟩; have HO1020 := Aside0.mk (Kd.R_lower ho0 (below_size (bel_))); replace HB := Aside0.mk (hb); replace HI1017 := Aside0.mk (hi); (try clear hb hk hi ho0)))
 go_ret
 exact ⟨_, fi_, by (with_reducible repeat (first | apply Kd.R_alloc | apply Kd.R_drewN | apply Kd.R_drew)); exact HO1020.out, bel_⟩

def spec_l12Tree.l0 : Nat → List (S69) → List (S44) → Int → Option ((List (S69)))
 | 0, _, _, _ => none
 | k + 1, x0, x1, x5 => if x5 < (x1.length : Int) then (if 0 ≤ x5 then ((spec_l3Do.f k x0 ((rd_T44 x1 x5).f2.f0) ((rd_T44 x1 x5).f2.f1) ((rd_T44 x1 x5).f2.f2) ((rd_T44 x1 x5).f2.f3) ((rd_T44 x1 x5).f2.f4)).bind fun t1023 => (spec_l12Tree.l0 k t1023 x1 (wrap64 (x5 + 1)))) else (none)) else ((some (([] : List (S69)) : List (S69))).bind fun y1026 => (if y1026.length + x0.length < 4398046511104 then (some (y1026 ++ x0)) else (none)))
def spec_l12Tree.f (k : Nat) (l0 : List (S69)) (l1 : List (S44)) : Option ((List (S69))) := spec_l12Tree.l0 k l0 l1 0
theorem spec_l12Tree.mono_l : ∀ k, (∀ y0 y1 y2, LeO (spec_l12Tree.l0 k y0 y1 y2) (spec_l12Tree.l0 (k + 1) y0 y1 y2))
 | 0 => fun _ _ _ r h => by simp [spec_l12Tree.l0] at h
 | k + 1 => by
  have ih0 := spec_l12Tree.mono_l k
  ·intro y0 y1 y2
   unfold spec_l12Tree.l0
   repeat' first
   | (with_reducible exact ih0 _ _ _)
   | (with_reducible exact spec_l3Do.mono _ _ _ _ _ _ _)
   | (with_reducible exact LeO.refl _)
   | (with_reducible exact LeO.none _)
   | (with_reducible refine LeO.ite ?_ ?_)
   | (with_reducible refine LeO.bind ?_ (fun _ => ?_))
theorem spec_l12Tree.mono : ∀ a0 a1 k, LeO (spec_l12Tree.f k a0 a1) (spec_l12Tree.f (k + 1) a0 a1) := by
 intro a0 a1 k
 have ih0 := spec_l12Tree.mono_l k
 unfold spec_l12Tree.f
 repeat' first
   | (with_reducible exact ih0 _ _ _)
   | (with_reducible exact spec_l3Do.mono _ _ _ _ _ _ _)
   | (with_reducible exact LeO.refl _)
   | (with_reducible exact LeO.none _)
   | (with_reducible refine LeO.ite ?_ ?_)
   | (with_reducible refine LeO.bind ?_ (fun _ => ?_))
set_option maxHeartbeats 8000000 in
set_option maxRecDepth 100000 in
theorem spec_l12Tree.calls (k : Nat) (P0_ : Nat → Prop) (A0 : Option Addr) (c0 : Nat) (l0 : List (S69)) (A1 : Option Addr) (c1 : Nat) (l1 : List (S44)) (r : List (S69)) (w : World) (hs0 : Kd.V k69 69 w w.heap.size (fun k_ => P0_ k_) (.slice A0 l0.length c0) l0) (hr1 : Kd.C k44 w A1 l1.length l1) (hc1 : l1.length ≤ c1) (h : spec_l12Tree.f k l0 l1 = some r) :
  Calls Tryd.prog 99 #[.slice A0 l0.length c0, .slice A1 l1.length c1] w fun e w' => ∃ v0_ : Value, e = .returned (v0_) ∧ Kd.R k69 69 w' w.heap.size (fun k_ => (w.heap.size ≤ k_)) v0_ r ∧ Below w.heap.size w w' := by
 have hu42 := Tryd.underlying42
 have HO0 := Aside0.mk (show Kd.V k69 69 w w.heap.size (fun k_ => (P0_ k_ ∨ w.heap.size ≤ k_)) (.slice A0 l0.length c0) l0 from Kd.V_mono hs0 (fun k_ hk => .inl hk))
 have HR1 := Aside0.mk hr1
 have HC1 := Aside0.mk hc1
 clear hr1 hc1
 have HB := Aside0.mk (Below.refl w.heap.size w)
 unfold spec_l12Tree.f at h
 have H := h
 clear h
 have H' := Aside0.mk H
 clear H
 go_enter Tryd.func99, Tryd.ntmps99
 go_wp2
 go_loopg [0, 5] k (fun kq v0 v5 w' => ∃ (x0_1 : List (S69)) (x5_1 : Int), v5 = .int .i64 x5_1 ∧ Aside0 (spec_l12Tree.l0 kq x0_1 l1 x5_1 = some r) ∧ Aside0 (kq ≤ k) ∧ Aside0 (Kd.V k69 69 w' w.heap.size (fun k_ => (P0_ k_ ∨ w.heap.size ≤ k_)) v0 x0_1) ∧ Aside0 (Below w.heap.size w w'))
 case atStart => exact ⟨(l0), (0), (si_), H', ⟨Nat.le_refl _⟩, ⟨by (with_reducible repeat (first | apply Kd.V_alloc | apply Kd.V_drewN | apply Kd.V_drew)); exact HO0.out⟩, ⟨bel_⟩⟩
 case round =>
  clear H'
  try clear c1
  try clear p2
  obtain ⟨x0_1, x5_1, rfl, HA, HK1, HO_0, HB⟩ := hrel
  cases gk with
  | zero => exact absurd HA.out (by simp [spec_l12Tree.l0])
  | succ k1 =>
   have H := HA.out
   clear HA
   simp only [spec_l12Tree.l0] at H
   by_cases c3 : x5_1 < (l1.length : Int)
   ·rw [if_pos c3] at H
    have c3b0 : decide (x5_1 < (l1.length : Int)) = true := decide_eq_true c3
    clear c3
    by_cases c4 : 0 ≤ x5_1
    ·rw [if_pos c4] at H
     have c4b0 : decide (0 ≤ x5_1) = true := decide_eq_true c4
     clear c4
     replace H := Option.bind_eq_some_iff.mp H
     obtain ⟨t1023, A50, H⟩ := H
     try dsimp only at H
     have A5 := Aside0.mk A50
     clear A50
     have H' := Aside0.mk H
     clear H
     have p1022 : 0 ≤ (x5_1 : Int) := od_
     have q1022 : x5_1 < (l1.length : Int) := od_
     obtain ⟨ad1022, e1022, hx1022_0, hx1022_1, hx1022_2, hx1022_3, hx1022_4, hx1022_5, hx1022_6⟩ := at_T44 HR1.out x5_1 p1022 q1022
     cases e1022
     replace hx1022_0 := (cb_ HB.out hx1022_0 :)
     replace hx1022_1 := (cb_ HB.out hx1022_1 :)
     replace hx1022_2 := (cb_ HB.out hx1022_2 :)
     replace hx1022_3 := (cb_ HB.out hx1022_3 :)
     replace hx1022_4 := (cb_ HB.out hx1022_4 :)
     replace hx1022_5 := (cb_ HB.out hx1022_5 :)
     replace hx1022_6 := (cb_ HB.out hx1022_6 :)
     replace p1022 := eq_true p1022
     replace q1022 := eq_true q1022
     obtain ⟨Ao6, co6, eo6⟩ := Kd.V_slice HO_0.out
     subst eo6
     go_wp2_with (first | ((with_reducible refine gate_callee (f := 125) rfl ?_); refine gl_ 18 Tryd.func125 #[.slice Ao6 x0_1.length co6, .agg #[.int .i64 ((rd_T44 l1 x5_1).f2.f0), .int .i64 ((rd_T44 l1 x5_1).f2.f1), .int .i64 ((rd_T44 l1 x5_1).f2.f2), .int .i64 ((rd_T44 l1 x5_1).f2.f3), .string ((rd_T44 l1 x5_1).f2.f4)]] ?_; (with_reducible refine (spec_l3Do.calls k1 _ _ x0_1 ((rd_T44 l1 x5_1).f2.f0) ((rd_T44 l1 x5_1).f2.f1) ((rd_T44 l1 x5_1).f2.f2) ((rd_T44 l1 x5_1).f2.f3) ((rd_T44 l1 x5_1).f2.f4) t1023 _ ?side1 ?side2 A5.out).mono ?_); (case side1 => repeat (first | exact (Kd.V_reads' HO_0.out).2.2 | (with_reducible refine Kd.C_alloc ?_ _) | (with_reducible refine Kd.C_drewN ?_ _) | (with_reducible refine Kd.C_drew ?_))); (case side2 => exact (Kd.V_reads' HO_0.out).2.1); rintro e w7 ⟨v1024, rfl, ho0, hb⟩; refine ⟨_, rfl, ?_⟩; have n0_ := Aside0.mk (Kd.V_elder' (by (with_reducible repeat (first | apply Kd.V_alloc | apply Kd.V_drewN | apply Kd.V_drew)); exact HO_0.out) (Kd.R_base ho0) hb); have n1_ := Aside0.mk (Kd.R_lower (Kd.R_newM (M := fun k_ => (w.heap.size ≤ k_)) ho0 (below_size (bel_)) (fun k_ h_ => h_)) (below_size (bel_))); have n2_ := Aside0.mk (below_step (bel_) hb); clear HO_0; clear HB; have HO_0 := n0_; have HO1025 := n1_; have HB := n2_; clear n0_ n1_ n2_; (try clear hb ho0)))
     go_roundg k1
     case measure => have := HK1.out; omega
     case rel => exact ⟨(t1023), (wrap64 (x5_1 + 1)), (si_), H', ⟨by have := HK1.out; omega⟩, ⟨Kd.V_mono (Kd.R_V (by (with_reducible repeat (first | apply Kd.R_alloc | apply Kd.R_drewN | apply Kd.R_drew)); exact Kd.R_mono HO1025.out (fun _ hk => hk.1))) (fun k_ hk => by first | exact ⟨(.inr (hk.1)), hk.2⟩ | exact (.inr (hk)))⟩, ⟨bel_⟩⟩
    ·rw [if_neg c4] at H
     exact absurd H (by simp)
   ·rw [if_neg c3] at H
    have c3b0 : decide (x5_1 < (l1.length : Int)) = false := decide_eq_false c3
    clear c3
    obtain ⟨y1026, hy1026⟩ : ∃ y_ : List (S69), y_ = (([] : List (S69))) := ⟨_, rfl⟩
    replace H : (if y1026.length + x0_1.length < 4398046511104 then (some (y1026 ++ x0_1)) else (none)) = some r := by first | (rw [hy1026]; with_reducible exact H) | (have H2_ := (Option.bind_some _ _).symm.trans H; rw [hy1026]; with_reducible exact H2_) | (have H2_ := (Option.bind_some _ _).symm.trans H; with_reducible exact H2_) | with_reducible exact H | (rw [hy1026]; exact H) | exact H
    have Ny1026 := Aside0.mk hy1026
    clear hy1026
    by_cases c8 : y1026.length + x0_1.length < 4398046511104
    ·rw [if_pos c8] at H
     have LMc8 := Aside0.mk c8
     clear c8
     obtain ⟨y1029, hy1029⟩ : ∃ y_ : List (S69), y_ = (y1026 ++ x0_1) := ⟨_, rfl⟩
     replace H : (some y1029) = some r := by first | (rw [hy1029]; with_reducible exact H) | (have H2_ := (Option.bind_some _ _).symm.trans H; rw [hy1029]; with_reducible exact H2_) | (have H2_ := (Option.bind_some _ _).symm.trans H; with_reducible exact H2_) | with_reducible exact H | (rw [hy1029]; exact H) | exact H
     have Ny1029 := Aside0.mk hy1029
     clear hy1029
     obtain rfl := Option.some.inj H
     go_wp2_with (first | ((with_reducible refine gate_dst (N := 19) rfl ?_); refine Kd.R_lit k69 _ 69 ?hg (N := 19) ?hd (xs := ([] : List (S69))) (inner := []) (ok := fun _ => True) (okp := fun _ => True) ?hr ?hp (fun _ hk => hk) trivial (Below.refl _ _) (Nat.le_refl _) (by simp) ?_; (case hd => rfl); (case hg => rfl); (case hr => first | (go_simp; done) | (go_simp; rfl)); (case hp => exact (Reps.none _ _)); intro v1027 w9 ho10 hb hg_ hnew_; clear hg_ hnew_; (first | rw [← Ny1026.out] at ho10 | (simp only [Int.reduceToNat] at ho10; rw [← Ny1026.out] at ho10)); have n0_ := Aside0.mk (Kd.V_elder' (by (with_reducible repeat (first | apply Kd.V_alloc | apply Kd.V_drewN | apply Kd.V_drew)); exact HO_0.out) (Kd.R_base ho10) hb); have n1_ := Aside0.mk (Kd.R_lower (Kd.R_newM (M := fun k_ => (w.heap.size ≤ k_)) ho10 (below_size (bel_)) (fun k_ h_ => h_)) (below_size (bel_))); have n2_ := Aside0.mk (below_step (bel_) hb); clear HO_0; clear HB; have HO_0 := n0_; have HO1028 := n1_; have HB := n2_; clear n0_ n1_ n2_; clear hb ho10; obtain ⟨Ao12, co12, eo12⟩ := Kd.V_slice HO_0.out; subst eo12) | ((with_reducible refine gate_builtin (b := .append) (xs := #[.tmp 19, .tmp 20]) rfl ?_); at_builtin; refine Kd.R_append_rows k69 (w0 := w) w.heap.size rfl (.tmp 19) (.tmp 20) 62 69 (.agg #[(.int .i64 0), (.int .i64 0), (.string ⟨#[]⟩)]) 32 rfl Tryd.underlying62 info69 rfl (by decide) (by omega) v1027 y1026 x0_1 _ _ _ (fun k_ => (w.heap.size ≤ k_)) (fun _ => False) rfl rfl ?aO ?aR (fun _ _ h => h) (fun _ h => h.elim) ?aF ?aB ?aS ?aL ?_; (case aR => repeat (first | exact (Kd.V_reads' HO_0.out).2.2 | (with_reducible refine Kd.C_alloc ?_ _) | (with_reducible refine Kd.C_drewN ?_ _) | (with_reducible refine Kd.C_drew ?_))); (case aB => exact (bel_)); (case aF => exact (fun k_ hk => (Nat.le_trans (below_size (bel_)) hk))); (case aO => exact (by (with_reducible repeat (first | apply Kd.R_alloc | apply Kd.R_drewN | apply Kd.R_drew)); exact Kd.R_mono HO1028.out (fun _ hk => hk.1))); (case aS => exact (below_size (bel_))); (case aL => have := LMc8.out; omega); intro v1030 w11 ho hb hg hat; rw [← Ny1029.out] at ho; have n0_ := Aside0.mk (Kd.V_afterv (ok := (fun k_ => (P0_ k_ ∨ w.heap.size ≤ k_))) (by (with_reducible repeat (first | apply Kd.V_alloc | apply Kd.V_drewN | apply Kd.V_drew)); exact HO_0.out) hg hat); have n1_ := Aside0.mk (hb); have n2_ := Aside0.mk (ho); clear HO_0; clear HB; clear HO1028; have HO_0 := n0_; have HB := n1_; have HO1031 := n2_; clear n0_ n1_ n2_; clear ho hb hg hat))
     go_ret
     exact ⟨_, fi_, by (with_reducible repeat (first | apply Kd.R_alloc | apply Kd.R_drewN | apply Kd.R_drew)); exact HO1031.out, bel_⟩
    ·rw [if_neg c8] at H
     exact absurd H (by simp)

def spec_LogTree.f (k : Nat) (l0 : List (S44)) : Option ((List (S69))) := (spec_LogOk.f k l0).bind fun t1032 => (if t1032 = true then ((spec_TreeNew.f).bind fun t1033 => ((spec_l12Tree.f k t1033 l0).bind fun t1036 => (some t1036))) else (some (([] : List (S69)))))
theorem spec_LogTree.mono : ∀ a0 k, LeO (spec_LogTree.f k a0) (spec_LogTree.f (k + 1) a0) := by
 intro a0 k
 unfold spec_LogTree.f
 repeat' first
   | (with_reducible exact spec_LogOk.mono _ _)
   | (with_reducible exact spec_l12Tree.mono _ _ _)
   | (with_reducible exact LeO.refl _)
   | (with_reducible exact LeO.none _)
   | (with_reducible refine LeO.ite ?_ ?_)
   | (with_reducible refine LeO.bind ?_ (fun _ => ?_))
set_option maxHeartbeats 8000000 in
set_option maxRecDepth 100000 in
theorem spec_LogTree.calls (k : Nat) (A0 : Option Addr) (c0 : Nat) (l0 : List (S44)) (r : List (S69)) (w : World) (hr0 : Kd.C k44 w A0 l0.length l0) (hc0 : l0.length ≤ c0) (h : spec_LogTree.f k l0 = some r) :
  Calls Tryd.prog 47 #[.slice A0 l0.length c0] w fun e w' => ∃ v0_ : Value, e = .returned (v0_) ∧ Kd.R k69 69 w' w.heap.size (fun _ => True) v0_ r ∧ Below w.heap.size w w' := by
 have HR0 := Aside0.mk hr0
 have HC0 := Aside0.mk hc0
 clear hr0 hc0
 have HB := Aside0.mk (Below.refl w.heap.size w)
 unfold spec_LogTree.f at h
 have H := h
 clear h
 replace H := Option.bind_eq_some_iff.mp H
 obtain ⟨t1032, A20, H⟩ := H
 try dsimp only at H
 have A2 := Aside0.mk A20
 clear A20
 by_cases c3 : t1032 = true
 ·subst c3
  have H1 : ((spec_TreeNew.f).bind fun t1033 => ((spec_l12Tree.f k t1033 l0).bind fun t1036 => (some t1036))) = some r := by rw [if_pos rfl] at H; exact H
  clear H
  have H := H1
  clear H1
  replace H := Option.bind_eq_some_iff.mp H
  obtain ⟨t1033, A40, H⟩ := H
  try dsimp only at H
  have A4 := Aside0.mk A40
  clear A40
  replace H := Option.bind_eq_some_iff.mp H
  obtain ⟨t1036, A50, H⟩ := H
  try dsimp only at H
  have A5 := Aside0.mk A50
  clear A50
  obtain rfl := Option.some.inj H
  go_enter Tryd.func47, Tryd.ntmps47
  go_wp2_with (first | ((with_reducible refine gate_callee (f := 43) rfl ?_); refine gl_ 4 Tryd.func43 #[.slice A0 l0.length c0] ?_; (with_reducible refine (spec_LogOk.calls k _ _ l0 true _ ?side1 ?side2 A2.out).mono ?_); (case side1 => exact cx_ HR0.out); (case side2 => exact HC0.out); rintro e w6 ⟨rfl, hb⟩; refine ⟨_, rfl, ?_⟩; replace HB := Aside0.mk (below_step (bel_) hb); (try clear hb)) | ((with_reducible refine gate_callee (f := 100) rfl ?_); refine gl_ 7 Tryd.func100 #[] ?_; (with_reducible refine (spec_TreeNew.calls  t1033 _ A4.out).mono ?_); rintro e w7 ⟨v1034, rfl, ho0, hb⟩; refine ⟨_, rfl, ?_⟩; have HO1035 := Aside0.mk (Kd.R_lower ho0 (below_size (bel_))); replace HB := Aside0.mk (below_step (bel_) hb); (try clear hb ho0); obtain ⟨Ao8, co8, eo8⟩ := Kd.R_slice HO1035.out; subst eo8) | ((with_reducible refine gate_callee (f := 99) rfl ?_); refine gl_ 9 Tryd.func99 #[.slice Ao8 t1033.length co8, .slice A0 l0.length c0] ?_; (with_reducible refine (spec_l12Tree.calls k (fun k_ => some k_ = (.slice Ao8 t1033.length co8 : Value).ownBlock) _ _ t1033 _ _ l0 t1036 _ ?side1 ?side2 ?side3 A5.out).mono ?_); (case side1 => exact Kd.R_V (Kd.R_tight rfl (HO1035.out))); (case side2 => exact cx_ (Kd.C_below HR0.out HB.out)); (case side3 => exact HC0.out); rintro e w9 ⟨v1037, rfl, ho0, hb⟩; refine ⟨_, rfl, ?_⟩; have HO1038 := Aside0.mk (Kd.R_lower (Kd.R_new' (Kd.R_mono (ok' := fun k_ => True) ho0 (fun _ hk_ => trivial)) (Kd.R_lt (rp_ HO1035.out))) (below_size (bel_))); replace HO1035 := Aside0.mk (Kd.R_elder' (rp_ HO1035.out) (Kd.R_base ho0) hb); replace HB := Aside0.mk (below_step (bel_) hb); (try clear hb ho0)))
  go_ret
  exact ⟨_, fi_, by (with_reducible repeat (first | apply Kd.R_alloc | apply Kd.R_drewN | apply Kd.R_drew)); exact Kd.R_mono HO1038.out (fun _ hk => trivial), bel_⟩
 ·replace c3 := Bool.eq_false_iff.mpr c3
  subst c3
  have H1 : (some (([] : List (S69)))) = some r := by rw [if_neg (show ¬ (false = true) by decide)] at H; exact H
  clear H
  have H := H1
  clear H1
  obtain ⟨y1039, hy1039⟩ : ∃ y_ : List (S69), y_ = (([] : List (S69))) := ⟨_, rfl⟩
  replace H : (some y1039) = some r := by first | (rw [hy1039]; with_reducible exact H) | (have H2_ := (Option.bind_some _ _).symm.trans H; rw [hy1039]; with_reducible exact H2_) | (have H2_ := (Option.bind_some _ _).symm.trans H; with_reducible exact H2_) | with_reducible exact H | (rw [hy1039]; exact H) | exact H
  have Ny1039 := Aside0.mk hy1039
  clear hy1039
  obtain rfl := Option.some.inj H
  go_enter Tryd.func47, Tryd.ntmps47
  go_wp2_with (first | ((with_reducible refine gate_callee (f := 43) rfl ?_); refine gl_ 4 Tryd.func43 #[.slice A0 l0.length c0] ?_; (with_reducible refine (spec_LogOk.calls k _ _ l0 false _ ?side1 ?side2 A2.out).mono ?_); (case side1 => exact cx_ HR0.out); (case side2 => exact HC0.out); rintro e w10 ⟨rfl, hb⟩; refine ⟨_, rfl, ?_⟩; replace HB := Aside0.mk (below_step (bel_) hb); (try clear hb)) | ((with_reducible refine gate_dst (N := 6) rfl ?_); refine Kd.R_lit k69 _ 69 ?hg (N := 6) ?hd (xs := ([] : List (S69))) (inner := []) (ok := fun _ => True) (okp := fun _ => True) ?hr ?hp (fun _ hk => hk) trivial (Below.refl _ _) (Nat.le_refl _) (by simp) ?_; (case hd => rfl); (case hg => rfl); (case hr => first | (go_simp; done) | (go_simp; rfl)); (case hp => exact (Reps.none _ _)); intro v1040 w11 ho12 hb hg_ hnew_; clear hg_ hnew_; (first | rw [← Ny1039.out] at ho12 | (simp only [Int.reduceToNat] at ho12; rw [← Ny1039.out] at ho12)); have HO1041 := Aside0.mk (Kd.R_lower ho12 (below_size (bel_))); replace HB := Aside0.mk (below_step (bel_) hb); clear hb ho12))
  go_ret
  exact ⟨_, fi_, by (with_reducible repeat (first | apply Kd.R_alloc | apply Kd.R_drewN | apply Kd.R_drew)); exact HO1041.out, bel_⟩

mutual
def laws_FnLogTree.l0 : Nat → List (S44) → List (S69) → List (S69) → Int → Option (Bool)
 | 0, _, _, _, _ => none
 | k + 1, x3, x4, x5, x6 => if x6 < (x3.length : Int) then (if 0 ≤ x6 then ((impl_OpDo.f k x5 ((rd_T44 x3 x6).f2.f0) ((rd_T44 x3 x6).f2.f1) ((rd_T44 x3 x6).f2.f2) ((rd_T44 x3 x6).f2.f3) ((rd_T44 x3 x6).f2.f4)).bind fun t1061 => (laws_FnLogTree.l0 k x3 x4 t1061 (wrap64 (x6 + 1)))) else (none)) else (laws_FnLogTree.l1 k x3 x4 x5 0)
def laws_FnLogTree.l1 : Nat → List (S44) → List (S69) → List (S69) → Int → Option (Bool)
 | 0, _, _, _, _ => none
 | k + 1, x3, x4, x5, x7 => if x7 < (x3.length : Int) then (if 0 ≤ x7 then (if ((rd_T44 x3 x7).f2.f0) = 1 then ((laws_lpAt.f k x4 ((rd_T44 x3 x7).f2.f1)).bind fun t1066 => (if t1066 < 0 then (none) else (laws_FnLogTree.l1 k x3 x4 x5 (wrap64 (x7 + 1))))) else (laws_FnLogTree.l1 k x3 x4 x5 (wrap64 (x7 + 1)))) else (none)) else ((laws_lpRows.f k x5 x4).bind fun t1067 => (if t1067 = true then ((impl_TreeOk.f k x4).bind fun t1068 => (some t1068)) else (none)))
end
def laws_FnLogTree.f (k : Nat) (l0 : List Int) : Option (Bool) := if (l0.length : Int) > 1048576 then (some true) else ((spec_DrawLogTree.f k l0).bind fun t1042 => ((impl_LogTree.f k t1042).bind fun t1045 => ((spec_LogTree.f k t1042).bind fun t1048 => ((laws_lpRows.f k t1045 t1048).bind fun t1051 => (if t1051 = true then ((spec_LogOk.f k t1042).bind fun t1052 => (if t1052 = true then ((impl_TreeNew.f).bind fun t1057 => (laws_FnLogTree.l0 k t1042 t1045 t1057 0)) else ((spec_LogTree.f k t1042).bind fun t1053 => ((laws_lpRows.f k t1045 t1053).bind fun t1056 => (some t1056))))) else (none))))))
theorem laws_FnLogTree.mono_l : ∀ k, (∀ y0 y1 y2 y3, LeO (laws_FnLogTree.l0 k y0 y1 y2 y3) (laws_FnLogTree.l0 (k + 1) y0 y1 y2 y3)) ∧ (∀ y0 y1 y2 y3, LeO (laws_FnLogTree.l1 k y0 y1 y2 y3) (laws_FnLogTree.l1 (k + 1) y0 y1 y2 y3))
 | 0 => ⟨fun _ _ _ _ r h => by simp [laws_FnLogTree.l0] at h, fun _ _ _ _ r h => by simp [laws_FnLogTree.l1] at h⟩
 | k + 1 => by
  obtain ⟨ih0, ih1⟩ := laws_FnLogTree.mono_l k
  refine ⟨?_, ?_⟩
  all_goals intros
  all_goals first | unfold laws_FnLogTree.l0 | unfold laws_FnLogTree.l1
  all_goals repeat' first
  | (with_reducible exact ih0 _ _ _ _)
  | (with_reducible exact ih1 _ _ _ _)
  | (with_reducible exact impl_LogTree.mono _ _)
  | (with_reducible exact impl_OpDo.mono _ _ _ _ _ _ _)
  | (with_reducible exact impl_TreeOk.mono _ _)
  | (with_reducible exact laws_lpAt.mono _ _ _)
  | (with_reducible exact laws_lpRows.mono _ _ _)
  | (with_reducible exact spec_DrawLogTree.mono _ _)
  | (with_reducible exact spec_LogOk.mono _ _)
  | (with_reducible exact spec_LogTree.mono _ _)
  | (with_reducible exact LeO.refl _)
  | (with_reducible exact LeO.none _)
  | (with_reducible refine LeO.ite ?_ ?_)
  | (with_reducible refine LeO.bind ?_ (fun _ => ?_))
theorem laws_FnLogTree.mono : ∀ a0 k, LeO (laws_FnLogTree.f k a0) (laws_FnLogTree.f (k + 1) a0) := by
 intro a0 k
 obtain ⟨ih0, ih1⟩ := laws_FnLogTree.mono_l k
 unfold laws_FnLogTree.f
 repeat' first
   | (with_reducible exact ih0 _ _ _ _)
   | (with_reducible exact ih1 _ _ _ _)
   | (with_reducible exact impl_LogTree.mono _ _)
   | (with_reducible exact impl_OpDo.mono _ _ _ _ _ _ _)
   | (with_reducible exact impl_TreeOk.mono _ _)
   | (with_reducible exact laws_lpAt.mono _ _ _)
   | (with_reducible exact laws_lpRows.mono _ _ _)
   | (with_reducible exact spec_DrawLogTree.mono _ _)
   | (with_reducible exact spec_LogOk.mono _ _)
   | (with_reducible exact spec_LogTree.mono _ _)
   | (with_reducible exact LeO.refl _)
   | (with_reducible exact LeO.none _)
   | (with_reducible refine LeO.ite ?_ ?_)
   | (with_reducible refine LeO.bind ?_ (fun _ => ?_))
set_option maxHeartbeats 8000000 in
set_option maxRecDepth 100000 in
theorem laws_FnLogTree.calls (k : Nat) (A0 : Option Addr) (c0 : Nat) (l0 : List Int) (r : Bool) (w : World) (hr0 : Kd.C (Kd.int .u8) w A0 l0.length l0) (hc0 : l0.length ≤ c0) (h : laws_FnLogTree.f k l0 = some r) (hG : Glob w) :
  Calls Tryd.prog 10 #[.slice A0 l0.length c0] w fun e w' => e = .returned (.bool r) ∧ Below w.heap.size w w' := by
 have hu42 := Tryd.underlying42
 have HR0 := Aside0.mk hr0
 have HC0 := Aside0.mk hc0
 clear hr0 hc0
 have HB := Aside0.mk (Below.refl w.heap.size w)
 have HG := Aside0.mk hG
 clear hG
 have H : (if (l0.length : Int) > 1048576 then (some true) else ((spec_DrawLogTree.f k l0).bind fun t1042 => ((impl_LogTree.f k t1042).bind fun t1045 => ((spec_LogTree.f k t1042).bind fun t1048 => ((laws_lpRows.f k t1045 t1048).bind fun t1051 => (if t1051 = true then ((spec_LogOk.f k t1042).bind fun t1052 => (if t1052 = true then ((impl_TreeNew.f).bind fun t1057 => (laws_FnLogTree.l0 k t1042 t1045 t1057 0)) else ((spec_LogTree.f k t1042).bind fun t1053 => ((laws_lpRows.f k t1045 t1053).bind fun t1056 => (some t1056))))) else (none))))))) = some r := h
 clear h
 by_cases c2 : (l0.length : Int) > 1048576
 ·rw [if_pos c2] at H
  have c2b0 : decide (1048576 < (l0.length : Int)) = true := decide_eq_true c2
  have c2b1 : decide (1048576 < l0.length) = true := decide_eq_true (by omega)
  clear c2
  obtain rfl := Option.some.inj H
  go_enter Tryd.func10, Tryd.ntmps10
  go_wp2
  go_ret
  exact ⟨by first | rfl | (simp [errW_none, errW_some] <;> rfl) | (simp [*, errW_none, errW_some] <;> rfl), by repeat (first | (with_reducible first | exact HB.out | apply below_alloc | apply pw_below_drewN | apply below_drew1) | exact HB.out)⟩
 ·rw [if_neg c2] at H
  have c2b0 : decide (1048576 < (l0.length : Int)) = false := decide_eq_false c2
  have c2b1 : decide (1048576 < l0.length) = false := decide_eq_false (by omega)
  clear c2
  replace H := Option.bind_eq_some_iff.mp H
  obtain ⟨t1042, A30, H⟩ := H
  replace H : ((impl_LogTree.f k t1042).bind fun t1045 => ((spec_LogTree.f k t1042).bind fun t1048 => ((laws_lpRows.f k t1045 t1048).bind fun t1051 => (if t1051 = true then ((spec_LogOk.f k t1042).bind fun t1052 => (if t1052 = true then ((impl_TreeNew.f).bind fun t1057 => (laws_FnLogTree.l0 k t1042 t1045 t1057 0)) else ((spec_LogTree.f k t1042).bind fun t1053 => ((laws_lpRows.f k t1045 t1053).bind fun t1056 => (some t1056))))) else (none))))) = some r := H
  have A3 := Aside0.mk A30
  clear A30
  replace H := Option.bind_eq_some_iff.mp H
  obtain ⟨t1045, A40, H⟩ := H
  replace H : ((spec_LogTree.f k t1042).bind fun t1048 => ((laws_lpRows.f k t1045 t1048).bind fun t1051 => (if t1051 = true then ((spec_LogOk.f k t1042).bind fun t1052 => (if t1052 = true then ((impl_TreeNew.f).bind fun t1057 => (laws_FnLogTree.l0 k t1042 t1045 t1057 0)) else ((spec_LogTree.f k t1042).bind fun t1053 => ((laws_lpRows.f k t1045 t1053).bind fun t1056 => (some t1056))))) else (none)))) = some r := H
  have A4 := Aside0.mk A40
  clear A40
  replace H := Option.bind_eq_some_iff.mp H
  obtain ⟨t1048, A50, H⟩ := H
  replace H : ((laws_lpRows.f k t1045 t1048).bind fun t1051 => (if t1051 = true then ((spec_LogOk.f k t1042).bind fun t1052 => (if t1052 = true then ((impl_TreeNew.f).bind fun t1057 => (laws_FnLogTree.l0 k t1042 t1045 t1057 0)) else ((spec_LogTree.f k t1042).bind fun t1053 => ((laws_lpRows.f k t1045 t1053).bind fun t1056 => (some t1056))))) else (none))) = some r := H
  have A5 := Aside0.mk A50
  clear A50
  replace H := Option.bind_eq_some_iff.mp H
  obtain ⟨t1051, A60, H⟩ := H
  replace H : (if t1051 = true then ((spec_LogOk.f k t1042).bind fun t1052 => (if t1052 = true then ((impl_TreeNew.f).bind fun t1057 => (laws_FnLogTree.l0 k t1042 t1045 t1057 0)) else ((spec_LogTree.f k t1042).bind fun t1053 => ((laws_lpRows.f k t1045 t1053).bind fun t1056 => (some t1056))))) else (none)) = some r := H
  have A6 := Aside0.mk A60
  clear A60
  by_cases c7 : t1051 = true
  ·subst c7
   have H1 : ((spec_LogOk.f k t1042).bind fun t1052 => (if t1052 = true then ((impl_TreeNew.f).bind fun t1057 => (laws_FnLogTree.l0 k t1042 t1045 t1057 0)) else ((spec_LogTree.f k t1042).bind fun t1053 => ((laws_lpRows.f k t1045 t1053).bind fun t1056 => (some t1056))))) = some r := by rw [if_pos rfl] at H; exact H
   clear H
   have H := H1
   clear H1
   replace H := Option.bind_eq_some_iff.mp H
   obtain ⟨t1052, A80, H⟩ := H
   replace H : (if t1052 = true then ((impl_TreeNew.f).bind fun t1057 => (laws_FnLogTree.l0 k t1042 t1045 t1057 0)) else ((spec_LogTree.f k t1042).bind fun t1053 => ((laws_lpRows.f k t1045 t1053).bind fun t1056 => (some t1056)))) = some r := H
   have A8 := Aside0.mk A80
   clear A80
   by_cases c9 : t1052 = true
   ·subst c9
    have H1 : ((impl_TreeNew.f).bind fun t1057 => (laws_FnLogTree.l0 k t1042 t1045 t1057 0)) = some r := by rw [if_pos rfl] at H; exact H
    clear H
    have H := H1
    clear H1
    replace H := Option.bind_eq_some_iff.mp H
    obtain ⟨t1057, A100, H⟩ := H
    replace H : (laws_FnLogTree.l0 k t1042 t1045 t1057 0) = some r := H
    have A10 := Aside0.mk A100
    clear A100
    have H' := Aside0.mk H
    clear H
    go_enter Tryd.func10, Tryd.ntmps10
    go_wp2_with (first | ((with_reducible refine gate_callee (f := 46) rfl ?_); refine goesL_ (some 12) rfl rfl Tryd.func46 (by kernel_rfl) rfl #[.slice A0 l0.length c0] rfl (by (try simp only [List.map_toArray, List.map_cons, List.map_nil]); first | done | rfl | (simp only [List.length_drop, List.length_take]; rfl)) ?_; (with_reducible refine (spec_DrawLogTree.calls k _ _ l0 t1042 _ ?side1 ?side2 A3.out).mono ?_); (case side1 => repeat (first | exact HR0.out | (with_reducible refine Kd.C_alloc ?_ _) | (with_reducible refine Kd.C_drewN ?_ _) | (with_reducible refine Kd.C_drew ?_))); (case side2 => exact HC0.out); rintro e w11 ⟨v1043, rfl, ho0, hb⟩; refine ⟨_, rfl, ?_⟩; have n0_ := Aside0.mk (Kd.R_lower ho0 (below_size (by repeat (first | (with_reducible first | exact HB.out | apply below_alloc | apply pw_below_drewN | apply below_drew1) | exact HB.out)))); have n1_ := Aside0.mk (below_step (by repeat (first | (with_reducible first | exact HB.out | apply below_alloc | apply pw_below_drewN | apply below_drew1) | exact HB.out)) hb); clear HB; have HO1044 := n0_; have HB := n1_; clear n0_ n1_; (try clear hb); (try clear hb2); (try clear hk); (try clear hi); (try clear ho0); obtain ⟨Ao12, co12, eo12⟩ := Kd.R_slice HO1044.out; subst eo12) | ((with_reducible refine gate_callee (f := 39) rfl ?_); refine goesL_ (some 14) rfl rfl Tryd.func39 (by kernel_rfl) rfl #[.slice Ao12 t1042.length co12] rfl (by (try simp only [List.map_toArray, List.map_cons, List.map_nil]); first | done | rfl | (simp only [List.length_drop, List.length_take]; rfl)) ?_; (with_reducible refine (impl_LogTree.calls k _ _ t1042 t1045 _ ?side1 ?side2 A4.out ?side3).mono ?_); (case side1 => repeat (first | exact (Kd.R_reads' HO1044.out).2.2 | (with_reducible refine Kd.C_alloc ?_ _) | (with_reducible refine Kd.C_drewN ?_ _) | (with_reducible refine Kd.C_drew ?_))); (case side2 => exact (Kd.R_reads' HO1044.out).2.1); (case side3 => exact Glob.below HG.out (by repeat (first | (with_reducible first | exact HB.out | apply below_alloc | apply pw_below_drewN | apply below_drew1) | exact HB.out))); rintro e w13 ⟨v1046, rfl, ho0, hb⟩; refine ⟨_, rfl, ?_⟩; have n0_ := Aside0.mk (Kd.R_below (by (with_reducible repeat (first | apply Kd.R_alloc | apply Kd.R_drewN | apply Kd.R_drew)); exact HO1044.out) hb); have n1_ := Aside0.mk (Kd.R_lower ho0 (below_size (by repeat (first | (with_reducible first | exact HB.out | apply below_alloc | apply pw_below_drewN | apply below_drew1) | exact HB.out)))); have n2_ := Aside0.mk (below_step (by repeat (first | (with_reducible first | exact HB.out | apply below_alloc | apply pw_below_drewN | apply below_drew1) | exact HB.out)) hb); clear HO1044; clear HB; have HO1044 := n0_; have HO1047 := n1_; have HB := n2_; clear n0_ n1_ n2_; (try clear hb); (try clear hb2); (try clear hk); (try clear hi); (try clear ho0)) | ((with_reducible refine gate_callee (f := 47) rfl ?_); refine goesL_ (some 17) rfl rfl Tryd.func47 (by kernel_rfl) rfl #[.slice Ao12 t1042.length co12] rfl (by (try simp only [List.map_toArray, List.map_cons, List.map_nil]); first | done | rfl | (simp only [List.length_drop, List.length_take]; rfl)) ?_; (with_reducible refine (spec_LogTree.calls k _ _ t1042 t1048 _ ?side1 ?side2 A5.out).mono ?_); (case side1 => repeat (first | exact (Kd.R_reads' HO1044.out).2.2 | (with_reducible refine Kd.C_alloc ?_ _) | (with_reducible refine Kd.C_drewN ?_ _) | (with_reducible refine Kd.C_drew ?_))); (case side2 => exact (Kd.R_reads' HO1044.out).2.1); rintro e w14 ⟨v1049, rfl, ho0, hb⟩; refine ⟨_, rfl, ?_⟩; have n0_ := Aside0.mk (Kd.R_below (by (with_reducible repeat (first | apply Kd.R_alloc | apply Kd.R_drewN | apply Kd.R_drew)); exact HO1044.out) hb); have n1_ := Aside0.mk (Kd.R_elder' (by (with_reducible repeat (first | apply Kd.R_alloc | apply Kd.R_drewN | apply Kd.R_drew)); exact HO1047.out) (Kd.R_base ho0) hb); have n2_ := Aside0.mk (Kd.R_lower (Kd.R_new' ho0 (Kd.R_lt (by (with_reducible repeat (first | apply Kd.R_alloc | apply Kd.R_drewN | apply Kd.R_drew)); exact HO1047.out))) (below_size (by repeat (first | (with_reducible first | exact HB.out | apply below_alloc | apply pw_below_drewN | apply below_drew1) | exact HB.out)))); have n3_ := Aside0.mk (below_step (by repeat (first | (with_reducible first | exact HB.out | apply below_alloc | apply pw_below_drewN | apply below_drew1) | exact HB.out)) hb); clear HO1044; clear HO1047; clear HB; have HO1044 := n0_; have HO1047 := n1_; have HO1050 := n2_; have HB := n3_; clear n0_ n1_ n2_ n3_; (try clear hb); (try clear hb2); (try clear hk); (try clear hi); (try clear ho0); obtain ⟨Ao15, co15, eo15⟩ := Kd.R_slice HO1047.out; subst eo15; obtain ⟨Ao16, co16, eo16⟩ := Kd.R_slice HO1050.out; subst eo16) | ((with_reducible refine gate_callee (f := 38) rfl ?_); refine goesL_ (some 18) rfl rfl Tryd.func38 (by kernel_rfl) rfl #[.slice Ao15 t1045.length co15, .slice Ao16 t1048.length co16] rfl (by (try simp only [List.map_toArray, List.map_cons, List.map_nil]); first | done | rfl | (simp only [List.length_drop, List.length_take]; rfl)) ?_; (with_reducible refine (laws_lpRows.calls k _ _ t1045 _ _ t1048 true _ ?side1 ?side2 ?side3 ?side4 A6.out).mono ?_); (case side1 => repeat (first | exact (Kd.R_reads' HO1047.out).2.2 | (with_reducible refine Kd.C_alloc ?_ _) | (with_reducible refine Kd.C_drewN ?_ _) | (with_reducible refine Kd.C_drew ?_))); (case side2 => exact (Kd.R_reads' HO1047.out).2.1); (case side3 => repeat (first | exact (Kd.R_reads' HO1050.out).2.2 | (with_reducible refine Kd.C_alloc ?_ _) | (with_reducible refine Kd.C_drewN ?_ _) | (with_reducible refine Kd.C_drew ?_))); (case side4 => exact (Kd.R_reads' HO1050.out).2.1); rintro e w' ⟨rfl, ⟨nd, rfl⟩⟩; refine ⟨_, rfl, ?_⟩) | (go_at_call 43; (with_reducible refine (spec_LogOk.calls k _ _ t1042 true _ ?side1 ?side2 A8.out).mono ?_); (case side1 => repeat (first | exact (Kd.R_reads' HO1044.out).2.2 | (with_reducible refine Kd.C_alloc ?_ _) | (with_reducible refine Kd.C_drewN ?_ _) | (with_reducible refine Kd.C_drew ?_))); (case side2 => exact (Kd.R_reads' HO1044.out).2.1); rintro e w17 ⟨rfl, hb⟩; have n0_ := Aside0.mk (Kd.R_below (by (with_reducible repeat (first | apply Kd.R_alloc | apply Kd.R_drewN | apply Kd.R_drew)); exact HO1044.out) hb); have n1_ := Aside0.mk (Kd.R_below (by (with_reducible repeat (first | apply Kd.R_alloc | apply Kd.R_drewN | apply Kd.R_drew)); exact HO1047.out) hb); have n2_ := Aside0.mk (Kd.R_below (by (with_reducible repeat (first | apply Kd.R_alloc | apply Kd.R_drewN | apply Kd.R_drew)); exact HO1050.out) hb); have n3_ := Aside0.mk (below_step (by repeat (first | (with_reducible first | exact HB.out | apply below_alloc | apply pw_below_drewN | apply below_drew1) | exact HB.out)) hb); clear HO1044; clear HO1047; clear HO1050; clear HB; have HO1044 := n0_; have HO1047 := n1_; have HO1050 := n2_; have HB := n3_; clear n0_ n1_ n2_ n3_; (try clear hb); (try clear hb2); (try clear hk); (try clear hi)) | ((with_reducible refine gate_callee (f := 48) rfl ?_); refine goesL_ (some 29) rfl rfl Tryd.func48 (by kernel_rfl) rfl #[] rfl (by (try simp only [List.map_toArray, List.map_cons, List.map_nil]); first | done | rfl | (simp only [List.length_drop, List.length_take]; rfl)) ?_; (with_reducible refine (impl_TreeNew.calls  t1057 _ A10.out).mono ?_); rintro e w18 ⟨v1058, rfl, ho0, hb⟩; refine ⟨_, rfl, ?_⟩; have n0_ := Aside0.mk (Kd.R_below (by (with_reducible repeat (first | apply Kd.R_alloc | apply Kd.R_drewN | apply Kd.R_drew)); exact HO1044.out) hb); have n1_ := Aside0.mk (Kd.R_elder' (by (with_reducible repeat (first | apply Kd.R_alloc | apply Kd.R_drewN | apply Kd.R_drew)); exact HO1047.out) (Kd.R_base ho0) hb); have n2_ := Aside0.mk (Kd.R_elder' (by (with_reducible repeat (first | apply Kd.R_alloc | apply Kd.R_drewN | apply Kd.R_drew)); exact HO1050.out) (Kd.R_base ho0) hb); have n3_ := Aside0.mk (Kd.R_lower (Kd.R_new' (Kd.R_new' ho0 (Kd.R_lt (by (with_reducible repeat (first | apply Kd.R_alloc | apply Kd.R_drewN | apply Kd.R_drew)); exact HO1047.out))) (Kd.R_lt (by (with_reducible repeat (first | apply Kd.R_alloc | apply Kd.R_drewN | apply Kd.R_drew)); exact HO1050.out))) (below_size (by repeat (first | (with_reducible first | exact HB.out | apply below_alloc | apply pw_below_drewN | apply below_drew1) | exact HB.out)))); have n4_ := Aside0.mk (below_step (by repeat (first | (with_reducible first | exact HB.out | apply below_alloc | apply pw_below_drewN | apply below_drew1) | exact HB.out)) hb); clear HO1044; clear HO1047; clear HO1050; clear HB; have HO1044 := n0_; have HO1047 := n1_; have HO1050 := n2_; have HO1059 := n3_; have HB := n4_; clear n0_ n1_ n2_ n3_ n4_; (try clear hb); (try clear hb2); (try clear hk); (try clear hi); (try clear ho0)))
    go_loopg [5, 6] k (fun kq v5 v6 w' => ∃ (x5_1 : List (S69)) (x6_1 : Int), v6 = .int .i64 x6_1 ∧ Aside0 (laws_FnLogTree.l0 kq t1042 t1045 x5_1 x6_1 = some r) ∧ Aside0 (kq ≤ k) ∧ Aside0 (Kd.R k44 44 w' w.heap.size (fun _ => True) (.slice Ao12 t1042.length co12) t1042) ∧ Aside0 (Kd.R k69 69 w' w.heap.size (fun k_ => some k_ ≠ (v5 : Value).ownBlock) (.slice Ao15 t1045.length co15) t1045) ∧ Aside0 (Kd.R k69 69 w' w.heap.size (fun k_ => some k_ ≠ ((.slice Ao15 t1045.length co15) : Value).ownBlock) v5 x5_1) ∧ Aside0 (Below w.heap.size w w'))
    case atStart => exact ⟨(t1057), (0), (by first | rfl | (simp; done) | (simp [*]; done)), H', ⟨Nat.le_refl _⟩, ⟨by (with_reducible repeat (first | apply Kd.R_alloc | apply Kd.R_drewN | apply Kd.R_drew)); exact HO1044.out⟩, ⟨by (with_reducible repeat (first | apply Kd.R_alloc | apply Kd.R_drewN | apply Kd.R_drew)); exact Kd.R_mono HO1047.out (fun _ hk => hk.2)⟩, ⟨by (with_reducible repeat (first | apply Kd.R_alloc | apply Kd.R_drewN | apply Kd.R_drew)); exact Kd.R_mono HO1059.out (fun _ hk => hk.1.2)⟩, ⟨by repeat (first | (with_reducible first | exact HB.out | apply below_alloc | apply pw_below_drewN | apply below_drew1) | exact HB.out)⟩⟩
    case round =>
     clear H'
     try clear c1
     try clear c2
     try clear c2b0
     try clear c2b1
     try clear p2
     try clear c3
     try clear c4
     try clear c7
     try clear c9
     try clear c10
     obtain ⟨x5_1, x6_1, rfl, HA, HK1, HO_3, HO_4, HO_5, HB⟩ := hrel
     cases gk with
     | zero => exact absurd HA.out (by simp [laws_FnLogTree.l0])
     | succ k1 =>
      have H := HA.out
      clear HA
      simp only [laws_FnLogTree.l0] at H
      by_cases c19 : x6_1 < (t1042.length : Int)
      ·rw [if_pos c19] at H
       have c19b0 : decide (x6_1 < (t1042.length : Int)) = true := decide_eq_true c19
       clear c19
       by_cases c20 : 0 ≤ x6_1
       ·rw [if_pos c20] at H
        have c20b0 : decide (0 ≤ x6_1) = true := decide_eq_true c20
        clear c20
        replace H := Option.bind_eq_some_iff.mp H
        obtain ⟨t1061, A210, H⟩ := H
        replace H : (laws_FnLogTree.l0 k1 t1042 t1045 t1061 (wrap64 (x6_1 + 1))) = some r := H
        have A21 := Aside0.mk A210
        clear A210
        have H' := Aside0.mk H
        clear H
        have p1060 : 0 ≤ (x6_1 : Int) := of_decide_eq_true (by first | (with_reducible assumption) | assumption)
        have q1060 : x6_1 < (t1042.length : Int) := of_decide_eq_true (by first | (with_reducible assumption) | assumption)
        obtain ⟨ad1060, e1060, hx1060_0, hx1060_1, hx1060_2, hx1060_3, hx1060_4, hx1060_5, hx1060_6⟩ := at_T44 (Kd.R_reads' HO_3.out).2.2 x6_1 p1060 q1060
        cases e1060
        replace p1060 := eq_true p1060
        replace q1060 := eq_true q1060
        obtain ⟨Ao22, co22, eo22⟩ := Kd.R_slice HO_5.out
        subst eo22
        go_wp2_with (first | ((with_reducible refine gate_callee (f := 40) rfl ?_); refine goesL_ (some 42) rfl rfl Tryd.func40 (by kernel_rfl) rfl #[.slice Ao22 x5_1.length co22, .agg #[.int .i64 ((rd_T44 t1042 x6_1).f2.f0), .int .i64 ((rd_T44 t1042 x6_1).f2.f1), .int .i64 ((rd_T44 t1042 x6_1).f2.f2), .int .i64 ((rd_T44 t1042 x6_1).f2.f3), .string ((rd_T44 t1042 x6_1).f2.f4)]] rfl (by (try simp only [List.map_toArray, List.map_cons, List.map_nil]); first | done | rfl | (simp only [List.length_drop, List.length_take]; rfl)) ?_; (with_reducible refine (impl_OpDo.calls k1 _ _ x5_1 ((rd_T44 t1042 x6_1).f2.f0) ((rd_T44 t1042 x6_1).f2.f1) ((rd_T44 t1042 x6_1).f2.f2) ((rd_T44 t1042 x6_1).f2.f3) ((rd_T44 t1042 x6_1).f2.f4) t1061 _ ?side1 ?side2 A21.out ?side3).mono ?_); (case side1 => repeat (first | exact (Kd.R_reads' HO_5.out).2.2 | (with_reducible refine Kd.C_alloc ?_ _) | (with_reducible refine Kd.C_drewN ?_ _) | (with_reducible refine Kd.C_drew ?_))); (case side2 => exact (Kd.R_reads' HO_5.out).2.1); (case side3 => exact Glob.below HG.out (by repeat (first | (with_reducible first | exact HB.out | apply below_alloc | apply pw_below_drewN | apply below_drew1) | exact HB.out))); rintro e w23 ⟨v1062, rfl, ho0, hb⟩; refine ⟨_, rfl, ?_⟩; have n0_ := Aside0.mk (Kd.R_below (by (with_reducible repeat (first | apply Kd.R_alloc | apply Kd.R_drewN | apply Kd.R_drew)); exact HO_3.out) hb); have n1_ := Aside0.mk (Kd.R_elder' (by (with_reducible repeat (first | apply Kd.R_alloc | apply Kd.R_drewN | apply Kd.R_drew)); exact HO_4.out) (Kd.R_base ho0) hb); have n2_ := Aside0.mk (Kd.R_elder' (by (with_reducible repeat (first | apply Kd.R_alloc | apply Kd.R_drewN | apply Kd.R_drew)); exact HO_5.out) (Kd.R_base ho0) hb); have n3_ := Aside0.mk (Kd.R_lower (Kd.R_new' (Kd.R_new' ho0 (Kd.R_lt (by (with_reducible repeat (first | apply Kd.R_alloc | apply Kd.R_drewN | apply Kd.R_drew)); exact HO_4.out))) (Kd.R_lt (by (with_reducible repeat (first | apply Kd.R_alloc | apply Kd.R_drewN | apply Kd.R_drew)); exact HO_5.out))) (below_size (by repeat (first | (with_reducible first | exact HB.out | apply below_alloc | apply pw_below_drewN | apply below_drew1) | exact HB.out)))); have n4_ := Aside0.mk (below_step (by repeat (first | (with_reducible first | exact HB.out | apply below_alloc | apply pw_below_drewN | apply below_drew1) | exact HB.out)) hb); clear HO_3; clear HO_4; clear HO_5; clear HB; have HO_3 := n0_; have HO_4 := n1_; have HO_5 := n2_; have HO1063 := n3_; have HB := n4_; clear n0_ n1_ n2_ n3_ n4_; (try clear hb); (try clear hb2); (try clear hk); (try clear hi); (try clear ho0)))
        go_roundg k1
        case measure => have := HK1.out; omega
        case rel => exact ⟨(t1061), (wrap64 (x6_1 + 1)), (by first | rfl | (simp; done) | (simp [*]; done)), H', ⟨by have := HK1.out; omega⟩, ⟨by (with_reducible repeat (first | apply Kd.R_alloc | apply Kd.R_drewN | apply Kd.R_drew)); exact HO_3.out⟩, ⟨by (with_reducible repeat (first | apply Kd.R_alloc | apply Kd.R_drewN | apply Kd.R_drew)); exact Kd.R_mono HO_4.out (fun _ hk => hk.2)⟩, ⟨by (with_reducible repeat (first | apply Kd.R_alloc | apply Kd.R_drewN | apply Kd.R_drew)); exact Kd.R_mono HO1063.out (fun _ hk => hk.1.2)⟩, ⟨by repeat (first | (with_reducible first | exact HB.out | apply below_alloc | apply pw_below_drewN | apply below_drew1) | exact HB.out)⟩⟩
       ·rw [if_neg c20] at H
        exact absurd H (by simp)
      ·rw [if_neg c19] at H
       have c19b0 : decide (x6_1 < (t1042.length : Int)) = false := decide_eq_false c19
       clear c19
       have H' := Aside0.mk H
       clear H
       go_wp2
       go_loopg [7] k1 (fun kq v7 w' => ∃ (x7_2 : Int), v7 = .int .i64 x7_2 ∧ Aside0 (laws_FnLogTree.l1 kq t1042 t1045 x5_1 x7_2 = some r) ∧ Aside0 (kq ≤ k1) ∧ Aside0 (Kd.R k44 44 w' w.heap.size (fun _ => True) (.slice Ao12 t1042.length co12) t1042) ∧ Aside0 (Kd.R k69 69 w' w.heap.size (fun k_ => some k_ ≠ (u5 : Value).ownBlock) (.slice Ao15 t1045.length co15) t1045) ∧ Aside0 (Kd.R k69 69 w' w.heap.size (fun k_ => some k_ ≠ ((.slice Ao15 t1045.length co15) : Value).ownBlock) u5 x5_1) ∧ Aside0 (Below w.heap.size w w'))
       case atStart => exact ⟨(0), (by first | rfl | (simp; done) | (simp [*]; done)), H', ⟨Nat.le_refl _⟩, ⟨by (with_reducible repeat (first | apply Kd.R_alloc | apply Kd.R_drewN | apply Kd.R_drew)); exact HO_3.out⟩, ⟨by (with_reducible repeat (first | apply Kd.R_alloc | apply Kd.R_drewN | apply Kd.R_drew)); exact HO_4.out⟩, ⟨by (with_reducible repeat (first | apply Kd.R_alloc | apply Kd.R_drewN | apply Kd.R_drew)); exact HO_5.out⟩, ⟨by repeat (first | (with_reducible first | exact HB.out | apply below_alloc | apply pw_below_drewN | apply below_drew1) | exact HB.out)⟩⟩
       case round =>
        clear H'
        try clear c1
        try clear p1
        try clear q1
        try clear hx1
        try clear c2
        try clear c2b0
        try clear c2b1
        try clear p2
        try clear c3
        try clear c4
        try clear p6
        try clear c7
        try clear c9
        try clear c10
        try clear p10
        try clear q10
        try clear hx10
        try clear c19
        try clear c19b0
        try clear c20
        try clear c20b0
        try clear hx1060_0
        try clear hx1060_1
        try clear hx1060_2
        try clear hx1060_3
        try clear hx1060_4
        try clear hx1060_5
        try clear hx1060_6
        try clear p1060
        try clear p2
        try clear q1060
        obtain ⟨x7_2, rfl, HA, HK2, HO_3, HO_4, HO_5, HB⟩ := hrel
        cases gk with
        | zero => exact absurd HA.out (by simp [laws_FnLogTree.l1])
        | succ k2 =>
         have H := HA.out
         clear HA
         simp only [laws_FnLogTree.l1] at H
         by_cases c24 : x7_2 < (t1042.length : Int)
         ·rw [if_pos c24] at H
          have c24b0 : decide (x7_2 < (t1042.length : Int)) = true := decide_eq_true c24
          clear c24
          by_cases c25 : 0 ≤ x7_2
          ·rw [if_pos c25] at H
           have c25b0 : decide (0 ≤ x7_2) = true := decide_eq_true c25
           clear c25
           by_cases c26 : ((rd_T44 t1042 x7_2).f2.f0) = 1
           ·rw [if_pos c26] at H
            have c26b0 : (((rd_T44 t1042 x7_2).f2.f0) == 1) = true := beq_iff_eq.mpr c26
            have c26b1 : (((rd_T44 t1042 x7_2).f2.f0) != 1) = false := bne_eq_false_iff_eq.mpr c26
            clear c26
            replace H := Option.bind_eq_some_iff.mp H
            obtain ⟨t1066, A270, H⟩ := H
            replace H : (if t1066 < 0 then (none) else (laws_FnLogTree.l1 k2 t1042 t1045 x5_1 (wrap64 (x7_2 + 1)))) = some r := H
            have A27 := Aside0.mk A270
            clear A270
            by_cases c28 : t1066 < 0
            ·rw [if_pos c28] at H
             exact absurd H (by simp)
            ·rw [if_neg c28] at H
             have c28b0 : decide (t1066 < 0) = false := decide_eq_false c28
             clear c28
             have H' := Aside0.mk H
             clear H
             have p1064 : 0 ≤ (x7_2 : Int) := of_decide_eq_true (by first | (with_reducible assumption) | assumption)
             have q1064 : x7_2 < (t1042.length : Int) := of_decide_eq_true (by first | (with_reducible assumption) | assumption)
             obtain ⟨ad1064, e1064, hx1064_0, hx1064_1, hx1064_2, hx1064_3, hx1064_4, hx1064_5, hx1064_6⟩ := at_T44 (Kd.R_reads' HO_3.out).2.2 x7_2 p1064 q1064
             cases e1064
             replace p1064 := eq_true p1064
             replace q1064 := eq_true q1064
             have p1065 : 0 ≤ (x7_2 : Int) := of_decide_eq_true (by first | (with_reducible assumption) | assumption)
             have q1065 : x7_2 < (t1042.length : Int) := of_decide_eq_true (by first | (with_reducible assumption) | assumption)
             obtain ⟨ad1065, e1065, hx1065_0, hx1065_1, hx1065_2, hx1065_3, hx1065_4, hx1065_5, hx1065_6⟩ := at_T44 (Kd.R_reads' HO_3.out).2.2 x7_2 p1065 q1065
             obtain rfl : ad1064 = ad1065 := (by injection e1065)
             replace p1065 := eq_true p1065
             replace q1065 := eq_true q1065
             go_wp2_with (first | (go_at_call 44; (with_reducible refine (laws_lpAt.calls k2 _ _ t1045 ((rd_T44 t1042 x7_2).f2.f1) t1066 _ ?side1 ?side2 A27.out).mono ?_); (case side1 => repeat (first | exact (Kd.R_reads' HO_4.out).2.2 | (with_reducible refine Kd.C_alloc ?_ _) | (with_reducible refine Kd.C_drewN ?_ _) | (with_reducible refine Kd.C_drew ?_))); (case side2 => exact (Kd.R_reads' HO_4.out).2.1); rintro e w' ⟨rfl, ⟨nd, rfl⟩⟩))
             go_roundg k2
             case measure => have := HK1.out; have := HK2.out; omega
             case rel => exact ⟨(wrap64 (x7_2 + 1)), (by first | rfl | (simp; done) | (simp [*]; done)), H', ⟨by have := HK1.out; have := HK2.out; omega⟩, ⟨by (with_reducible repeat (first | apply Kd.R_alloc | apply Kd.R_drewN | apply Kd.R_drew)); exact HO_3.out⟩, ⟨by (with_reducible repeat (first | apply Kd.R_alloc | apply Kd.R_drewN | apply Kd.R_drew)); exact HO_4.out⟩, ⟨by (with_reducible repeat (first | apply Kd.R_alloc | apply Kd.R_drewN | apply Kd.R_drew)); exact HO_5.out⟩, ⟨by repeat (first | (with_reducible first | exact HB.out | apply below_alloc | apply pw_below_drewN | apply below_drew1) | exact HB.out)⟩⟩
           ·rw [if_neg c26] at H
            have c26b0 : (((rd_T44 t1042 x7_2).f2.f0) == 1) = false := beq_eq_false_iff_ne.mpr c26
            have c26b1 : (((rd_T44 t1042 x7_2).f2.f0) != 1) = true := bne_iff_ne.mpr c26
            have H' := Aside0.mk H
            clear H
            have p1064 : 0 ≤ (x7_2 : Int) := of_decide_eq_true (by first | (with_reducible assumption) | assumption)
            have q1064 : x7_2 < (t1042.length : Int) := of_decide_eq_true (by first | (with_reducible assumption) | assumption)
            obtain ⟨ad1064, e1064, hx1064_0, hx1064_1, hx1064_2, hx1064_3, hx1064_4, hx1064_5, hx1064_6⟩ := at_T44 (Kd.R_reads' HO_3.out).2.2 x7_2 p1064 q1064
            cases e1064
            replace p1064 := eq_true p1064
            replace q1064 := eq_true q1064
            go_wp2
            go_roundg k2
            case measure => have := HK1.out; have := HK2.out; omega
            case rel => exact ⟨(wrap64 (x7_2 + 1)), (by first | rfl | (simp; done) | (simp [*]; done)), H', ⟨by have := HK1.out; have := HK2.out; omega⟩, ⟨by (with_reducible repeat (first | apply Kd.R_alloc | apply Kd.R_drewN | apply Kd.R_drew)); exact HO_3.out⟩, ⟨by (with_reducible repeat (first | apply Kd.R_alloc | apply Kd.R_drewN | apply Kd.R_drew)); exact HO_4.out⟩, ⟨by (with_reducible repeat (first | apply Kd.R_alloc | apply Kd.R_drewN | apply Kd.R_drew)); exact HO_5.out⟩, ⟨by repeat (first | (with_reducible first | exact HB.out | apply below_alloc | apply pw_below_drewN | apply below_drew1) | exact HB.out)⟩⟩
          ·rw [if_neg c25] at H
           exact absurd H (by simp)
         ·rw [if_neg c24] at H
          have c24b0 : decide (x7_2 < (t1042.length : Int)) = false := decide_eq_false c24
          clear c24
          replace H := Option.bind_eq_some_iff.mp H
          obtain ⟨t1067, A290, H⟩ := H
          replace H : (if t1067 = true then ((impl_TreeOk.f k2 t1045).bind fun t1068 => (some t1068)) else (none)) = some r := H
          have A29 := Aside0.mk A290
          clear A290
          by_cases c30 : t1067 = true
          ·subst c30
           have H1 : ((impl_TreeOk.f k2 t1045).bind fun t1068 => (some t1068)) = some r := by rw [if_pos rfl] at H; exact H
           clear H
           have H := H1
           clear H1
           replace H := Option.bind_eq_some_iff.mp H
           obtain ⟨t1068, A310, H⟩ := H
           replace H : (some t1068) = some r := H
           have A31 := Aside0.mk A310
           clear A310
           obtain rfl := Option.some.inj H
           obtain ⟨Ao32, co32, eo32⟩ := Kd.R_slice HO_5.out
           subst eo32
           go_wp2_with (first | ((with_reducible refine gate_callee (f := 38) rfl ?_); refine goesL_ (some 69) rfl rfl Tryd.func38 (by kernel_rfl) rfl #[.slice Ao32 x5_1.length co32, .slice Ao15 t1045.length co15] rfl (by (try simp only [List.map_toArray, List.map_cons, List.map_nil]); first | done | rfl | (simp only [List.length_drop, List.length_take]; rfl)) ?_; (with_reducible refine (laws_lpRows.calls k2 _ _ x5_1 _ _ t1045 true _ ?side1 ?side2 ?side3 ?side4 A29.out).mono ?_); (case side1 => repeat (first | exact (Kd.R_reads' HO_5.out).2.2 | (with_reducible refine Kd.C_alloc ?_ _) | (with_reducible refine Kd.C_drewN ?_ _) | (with_reducible refine Kd.C_drew ?_))); (case side2 => exact (Kd.R_reads' HO_5.out).2.1); (case side3 => repeat (first | exact (Kd.R_reads' HO_4.out).2.2 | (with_reducible refine Kd.C_alloc ?_ _) | (with_reducible refine Kd.C_drewN ?_ _) | (with_reducible refine Kd.C_drew ?_))); (case side4 => exact (Kd.R_reads' HO_4.out).2.1); rintro e w' ⟨rfl, ⟨nd, rfl⟩⟩; refine ⟨_, rfl, ?_⟩) | (go_at_call 45; (with_reducible refine (impl_TreeOk.calls k2 _ _ t1045 t1068 _ ?side1 ?side2 A31.out ?side3).mono ?_); (case side1 => repeat (first | exact (Kd.R_reads' HO_4.out).2.2 | (with_reducible refine Kd.C_alloc ?_ _) | (with_reducible refine Kd.C_drewN ?_ _) | (with_reducible refine Kd.C_drew ?_))); (case side2 => exact (Kd.R_reads' HO_4.out).2.1); (case side3 => exact Glob.below HG.out (by repeat (first | (with_reducible first | exact HB.out | apply below_alloc | apply pw_below_drewN | apply below_drew1) | exact HB.out))); rintro e w33 ⟨rfl, hb⟩; have n0_ := Aside0.mk (Kd.R_below (by (with_reducible repeat (first | apply Kd.R_alloc | apply Kd.R_drewN | apply Kd.R_drew)); exact HO_3.out) hb); have n1_ := Aside0.mk (Kd.R_below (by (with_reducible repeat (first | apply Kd.R_alloc | apply Kd.R_drewN | apply Kd.R_drew)); exact HO_4.out) hb); have n2_ := Aside0.mk (Kd.R_below (by (with_reducible repeat (first | apply Kd.R_alloc | apply Kd.R_drewN | apply Kd.R_drew)); exact HO_5.out) hb); have n3_ := Aside0.mk (below_step (by repeat (first | (with_reducible first | exact HB.out | apply below_alloc | apply pw_below_drewN | apply below_drew1) | exact HB.out)) hb); clear HO_3; clear HO_4; clear HO_5; clear HB; have HO_3 := n0_; have HO_4 := n1_; have HO_5 := n2_; have HB := n3_; clear n0_ n1_ n2_ n3_; (try clear hb); (try clear hb2); (try clear hk); (try clear hi)))
           go_ret
           exact ⟨by first | rfl | (simp [errW_none, errW_some] <;> rfl) | (simp [*, errW_none, errW_some] <;> rfl), by repeat (first | (with_reducible first | exact HB.out | apply below_alloc | apply pw_below_drewN | apply below_drew1) | exact HB.out)⟩
          ·replace c30 := Bool.eq_false_iff.mpr c30
           subst c30
           have H1 : (none) = some r := by rw [if_neg (show ¬ (false = true) by decide)] at H; exact H
           clear H
           have H := H1
           clear H1
           exact absurd H (by simp)
   ·replace c9 := Bool.eq_false_iff.mpr c9
    subst c9
    have H1 : ((spec_LogTree.f k t1042).bind fun t1053 => ((laws_lpRows.f k t1045 t1053).bind fun t1056 => (some t1056))) = some r := by rw [if_neg (show ¬ (false = true) by decide)] at H; exact H
    clear H
    have H := H1
    clear H1
    replace H := Option.bind_eq_some_iff.mp H
    obtain ⟨t1053, A340, H⟩ := H
    replace H : ((laws_lpRows.f k t1045 t1053).bind fun t1056 => (some t1056)) = some r := H
    have A34 := Aside0.mk A340
    clear A340
    replace H := Option.bind_eq_some_iff.mp H
    obtain ⟨t1056, A350, H⟩ := H
    replace H : (some t1056) = some r := H
    have A35 := Aside0.mk A350
    clear A350
    obtain rfl := Option.some.inj H
    go_enter Tryd.func10, Tryd.ntmps10
    go_wp2_with (first | ((with_reducible refine gate_callee (f := 46) rfl ?_); refine goesL_ (some 12) rfl rfl Tryd.func46 (by kernel_rfl) rfl #[.slice A0 l0.length c0] rfl (by (try simp only [List.map_toArray, List.map_cons, List.map_nil]); first | done | rfl | (simp only [List.length_drop, List.length_take]; rfl)) ?_; (with_reducible refine (spec_DrawLogTree.calls k _ _ l0 t1042 _ ?side1 ?side2 A3.out).mono ?_); (case side1 => repeat (first | exact HR0.out | (with_reducible refine Kd.C_alloc ?_ _) | (with_reducible refine Kd.C_drewN ?_ _) | (with_reducible refine Kd.C_drew ?_))); (case side2 => exact HC0.out); rintro e w36 ⟨v1043, rfl, ho0, hb⟩; refine ⟨_, rfl, ?_⟩; have n0_ := Aside0.mk (Kd.R_lower ho0 (below_size (by repeat (first | (with_reducible first | exact HB.out | apply below_alloc | apply pw_below_drewN | apply below_drew1) | exact HB.out)))); have n1_ := Aside0.mk (below_step (by repeat (first | (with_reducible first | exact HB.out | apply below_alloc | apply pw_below_drewN | apply below_drew1) | exact HB.out)) hb); clear HB; have HO1044 := n0_; have HB := n1_; clear n0_ n1_; (try clear hb); (try clear hb2); (try clear hk); (try clear hi); (try clear ho0); obtain ⟨Ao37, co37, eo37⟩ := Kd.R_slice HO1044.out; subst eo37) | ((with_reducible refine gate_callee (f := 39) rfl ?_); refine goesL_ (some 14) rfl rfl Tryd.func39 (by kernel_rfl) rfl #[.slice Ao37 t1042.length co37] rfl (by (try simp only [List.map_toArray, List.map_cons, List.map_nil]); first | done | rfl | (simp only [List.length_drop, List.length_take]; rfl)) ?_; (with_reducible refine (impl_LogTree.calls k _ _ t1042 t1045 _ ?side1 ?side2 A4.out ?side3).mono ?_); (case side1 => repeat (first | exact (Kd.R_reads' HO1044.out).2.2 | (with_reducible refine Kd.C_alloc ?_ _) | (with_reducible refine Kd.C_drewN ?_ _) | (with_reducible refine Kd.C_drew ?_))); (case side2 => exact (Kd.R_reads' HO1044.out).2.1); (case side3 => exact Glob.below HG.out (by repeat (first | (with_reducible first | exact HB.out | apply below_alloc | apply pw_below_drewN | apply below_drew1) | exact HB.out))); rintro e w38 ⟨v1046, rfl, ho0, hb⟩; refine ⟨_, rfl, ?_⟩; have n0_ := Aside0.mk (Kd.R_below (by (with_reducible repeat (first | apply Kd.R_alloc | apply Kd.R_drewN | apply Kd.R_drew)); exact HO1044.out) hb); have n1_ := Aside0.mk (Kd.R_lower ho0 (below_size (by repeat (first | (with_reducible first | exact HB.out | apply below_alloc | apply pw_below_drewN | apply below_drew1) | exact HB.out)))); have n2_ := Aside0.mk (below_step (by repeat (first | (with_reducible first | exact HB.out | apply below_alloc | apply pw_below_drewN | apply below_drew1) | exact HB.out)) hb); clear HO1044; clear HB; have HO1044 := n0_; have HO1047 := n1_; have HB := n2_; clear n0_ n1_ n2_; (try clear hb); (try clear hb2); (try clear hk); (try clear hi); (try clear ho0)) | ((with_reducible refine gate_callee (f := 47) rfl ?_); refine goesL_ (some 17) rfl rfl Tryd.func47 (by kernel_rfl) rfl #[.slice Ao37 t1042.length co37] rfl (by (try simp only [List.map_toArray, List.map_cons, List.map_nil]); first | done | rfl | (simp only [List.length_drop, List.length_take]; rfl)) ?_; (with_reducible refine (spec_LogTree.calls k _ _ t1042 t1048 _ ?side1 ?side2 A5.out).mono ?_); (case side1 => repeat (first | exact (Kd.R_reads' HO1044.out).2.2 | (with_reducible refine Kd.C_alloc ?_ _) | (with_reducible refine Kd.C_drewN ?_ _) | (with_reducible refine Kd.C_drew ?_))); (case side2 => exact (Kd.R_reads' HO1044.out).2.1); rintro e w39 ⟨v1049, rfl, ho0, hb⟩; refine ⟨_, rfl, ?_⟩; have n0_ := Aside0.mk (Kd.R_below (by (with_reducible repeat (first | apply Kd.R_alloc | apply Kd.R_drewN | apply Kd.R_drew)); exact HO1044.out) hb); have n1_ := Aside0.mk (Kd.R_elder' (by (with_reducible repeat (first | apply Kd.R_alloc | apply Kd.R_drewN | apply Kd.R_drew)); exact HO1047.out) (Kd.R_base ho0) hb); have n2_ := Aside0.mk (Kd.R_lower (Kd.R_new' ho0 (Kd.R_lt (by (with_reducible repeat (first | apply Kd.R_alloc | apply Kd.R_drewN | apply Kd.R_drew)); exact HO1047.out))) (below_size (by repeat (first | (with_reducible first | exact HB.out | apply below_alloc | apply pw_below_drewN | apply below_drew1) | exact HB.out)))); have n3_ := Aside0.mk (below_step (by repeat (first | (with_reducible first | exact HB.out | apply below_alloc | apply pw_below_drewN | apply below_drew1) | exact HB.out)) hb); clear HO1044; clear HO1047; clear HB; have HO1044 := n0_; have HO1047 := n1_; have HO1050 := n2_; have HB := n3_; clear n0_ n1_ n2_ n3_; (try clear hb); (try clear hb2); (try clear hk); (try clear hi); (try clear ho0); obtain ⟨Ao40, co40, eo40⟩ := Kd.R_slice HO1047.out; subst eo40; obtain ⟨Ao41, co41, eo41⟩ := Kd.R_slice HO1050.out; subst eo41) | ((with_reducible refine gate_callee (f := 38) rfl ?_); refine goesL_ (some 18) rfl rfl Tryd.func38 (by kernel_rfl) rfl #[.slice Ao40 t1045.length co40, .slice Ao41 t1048.length co41] rfl (by (try simp only [List.map_toArray, List.map_cons, List.map_nil]); first | done | rfl | (simp only [List.length_drop, List.length_take]; rfl)) ?_; (with_reducible refine (laws_lpRows.calls k _ _ t1045 _ _ t1048 true _ ?side1 ?side2 ?side3 ?side4 A6.out).mono ?_); (case side1 => repeat (first | exact (Kd.R_reads' HO1047.out).2.2 | (with_reducible refine Kd.C_alloc ?_ _) | (with_reducible refine Kd.C_drewN ?_ _) | (with_reducible refine Kd.C_drew ?_))); (case side2 => exact (Kd.R_reads' HO1047.out).2.1); (case side3 => repeat (first | exact (Kd.R_reads' HO1050.out).2.2 | (with_reducible refine Kd.C_alloc ?_ _) | (with_reducible refine Kd.C_drewN ?_ _) | (with_reducible refine Kd.C_drew ?_))); (case side4 => exact (Kd.R_reads' HO1050.out).2.1); rintro e w' ⟨rfl, ⟨nd, rfl⟩⟩; refine ⟨_, rfl, ?_⟩) | (go_at_call 43; (with_reducible refine (spec_LogOk.calls k _ _ t1042 false _ ?side1 ?side2 A8.out).mono ?_); (case side1 => repeat (first | exact (Kd.R_reads' HO1044.out).2.2 | (with_reducible refine Kd.C_alloc ?_ _) | (with_reducible refine Kd.C_drewN ?_ _) | (with_reducible refine Kd.C_drew ?_))); (case side2 => exact (Kd.R_reads' HO1044.out).2.1); rintro e w42 ⟨rfl, hb⟩; have n0_ := Aside0.mk (Kd.R_below (by (with_reducible repeat (first | apply Kd.R_alloc | apply Kd.R_drewN | apply Kd.R_drew)); exact HO1044.out) hb); have n1_ := Aside0.mk (Kd.R_below (by (with_reducible repeat (first | apply Kd.R_alloc | apply Kd.R_drewN | apply Kd.R_drew)); exact HO1047.out) hb); have n2_ := Aside0.mk (Kd.R_below (by (with_reducible repeat (first | apply Kd.R_alloc | apply Kd.R_drewN | apply Kd.R_drew)); exact HO1050.out) hb); have n3_ := Aside0.mk (below_step (by repeat (first | (with_reducible first | exact HB.out | apply below_alloc | apply pw_below_drewN | apply below_drew1) | exact HB.out)) hb); clear HO1044; clear HO1047; clear HO1050; clear HB; have HO1044 := n0_; have HO1047 := n1_; have HO1050 := n2_; have HB := n3_; clear n0_ n1_ n2_ n3_; (try clear hb); (try clear hb2); (try clear hk); (try clear hi)) | ((with_reducible refine gate_callee (f := 47) rfl ?_); refine goesL_ (some 27) rfl rfl Tryd.func47 (by kernel_rfl) rfl #[.slice Ao37 t1042.length co37] rfl (by (try simp only [List.map_toArray, List.map_cons, List.map_nil]); first | done | rfl | (simp only [List.length_drop, List.length_take]; rfl)) ?_; (with_reducible refine (spec_LogTree.calls k _ _ t1042 t1053 _ ?side1 ?side2 A34.out).mono ?_); (case side1 => repeat (first | exact (Kd.R_reads' HO1044.out).2.2 | (with_reducible refine Kd.C_alloc ?_ _) | (with_reducible refine Kd.C_drewN ?_ _) | (with_reducible refine Kd.C_drew ?_))); (case side2 => exact (Kd.R_reads' HO1044.out).2.1); rintro e w43 ⟨v1054, rfl, ho0, hb⟩; refine ⟨_, rfl, ?_⟩; have n0_ := Aside0.mk (Kd.R_below (by (with_reducible repeat (first | apply Kd.R_alloc | apply Kd.R_drewN | apply Kd.R_drew)); exact HO1044.out) hb); have n1_ := Aside0.mk (Kd.R_elder' (by (with_reducible repeat (first | apply Kd.R_alloc | apply Kd.R_drewN | apply Kd.R_drew)); exact HO1047.out) (Kd.R_base ho0) hb); have n2_ := Aside0.mk (Kd.R_elder' (by (with_reducible repeat (first | apply Kd.R_alloc | apply Kd.R_drewN | apply Kd.R_drew)); exact HO1050.out) (Kd.R_base ho0) hb); have n3_ := Aside0.mk (Kd.R_lower (Kd.R_new' (Kd.R_new' ho0 (Kd.R_lt (by (with_reducible repeat (first | apply Kd.R_alloc | apply Kd.R_drewN | apply Kd.R_drew)); exact HO1047.out))) (Kd.R_lt (by (with_reducible repeat (first | apply Kd.R_alloc | apply Kd.R_drewN | apply Kd.R_drew)); exact HO1050.out))) (below_size (by repeat (first | (with_reducible first | exact HB.out | apply below_alloc | apply pw_below_drewN | apply below_drew1) | exact HB.out)))); have n4_ := Aside0.mk (below_step (by repeat (first | (with_reducible first | exact HB.out | apply below_alloc | apply pw_below_drewN | apply below_drew1) | exact HB.out)) hb); clear HO1044; clear HO1047; clear HO1050; clear HB; have HO1044 := n0_; have HO1047 := n1_; have HO1050 := n2_; have HO1055 := n3_; have HB := n4_; clear n0_ n1_ n2_ n3_ n4_; (try clear hb); (try clear hb2); (try clear hk); (try clear hi); (try clear ho0); obtain ⟨Ao44, co44, eo44⟩ := Kd.R_slice HO1055.out; subst eo44) | ((with_reducible refine gate_callee (f := 38) rfl ?_); refine goesL_ (some 28) rfl rfl Tryd.func38 (by kernel_rfl) rfl #[.slice Ao40 t1045.length co40, .slice Ao44 t1053.length co44] rfl (by (try simp only [List.map_toArray, List.map_cons, List.map_nil]); first | done | rfl | (simp only [List.length_drop, List.length_take]; rfl)) ?_; (with_reducible refine (laws_lpRows.calls k _ _ t1045 _ _ t1053 t1056 _ ?side1 ?side2 ?side3 ?side4 A35.out).mono ?_); (case side1 => repeat (first | exact (Kd.R_reads' HO1047.out).2.2 | (with_reducible refine Kd.C_alloc ?_ _) | (with_reducible refine Kd.C_drewN ?_ _) | (with_reducible refine Kd.C_drew ?_))); (case side2 => exact (Kd.R_reads' HO1047.out).2.1); (case side3 => repeat (first | exact (Kd.R_reads' HO1055.out).2.2 | (with_reducible refine Kd.C_alloc ?_ _) | (with_reducible refine Kd.C_drewN ?_ _) | (with_reducible refine Kd.C_drew ?_))); (case side4 => exact (Kd.R_reads' HO1055.out).2.1); rintro e w' ⟨rfl, ⟨nd, rfl⟩⟩; refine ⟨_, rfl, ?_⟩))
    go_ret
    exact ⟨by first | rfl | (simp [errW_none, errW_some] <;> rfl) | (simp [*, errW_none, errW_some] <;> rfl), by repeat (first | (with_reducible first | exact HB.out | apply below_alloc | apply pw_below_drewN | apply below_drew1) | exact HB.out)⟩
  ·replace c7 := Bool.eq_false_iff.mpr c7
   subst c7
   have H1 : (none) = some r := by rw [if_neg (show ¬ (false = true) by decide)] at H; exact H
   clear H
   have H := H1
   clear H1
   exact absurd H (by simp)

def laws_FnLogTree.Pure : Prop := ∀ (l0 : List Int), l0.length ≤ maxLen → l0.length * 1 ≤ 140737488351232 → (∀ x ∈ l0, (Lit.int .u8 x).wf = true) → ∃ k, laws_FnLogTree.f k l0 = some true
theorem laws_FnLogTree.walk (P : laws_FnLogTree.Pure) (a0 : Option Addr) (len0 cap0 : Nat) (z0 : List Int) (w : World) (w0 : (a0 = none ∧ len0 = 0 ∧ cap0 = 0 ∧ z0 = []) ∨ ∃ x, a0 = some x ∧ len0 ≤ cap0 ∧ cap0 ≤ maxLen ∧ z0.length = cap0 ∧ (∀ i, i < z0.length → w.cell? (x.add i) = some (.int .u8 (z0.getD i 0))) ∧ ∀ n ∈ z0, (Lit.int .u8 n).wf = true) (y0 : len0 * 1 ≤ 140737488351232) (hG : Glob w) :
  Calls Tryd.prog 10 #[.slice a0 len0 cap0] w fun e w' => e = .returned (.bool true) ∧ Below w.heap.size w w' := by
 obtain ⟨l0, rfl, hr0, hm0, hw0, hc0⟩ := ReadsInt.ofRowC w0
 obtain ⟨k, h⟩ := P l0 hm0 y0 hw0
 refine (laws_FnLogTree.calls k _ _ l0 true w (Kd.C_of_reads (d := (0 : Int)) (h1 := fun _ => rfl) hr0) hc0 h hG).mono ?_
 rintro e w' ⟨rfl, hd⟩
 exact ⟨rfl, hd⟩

end Go.Proofs.YtdpklbomhdpimaaDoor.P
namespace Go.Proofs.YtdpklbomhdpimaaDoor.PL
open Go.RowKit Go.Proofs.YtdpklbomhdpimaaDoor.P Go.Proofs.YtdpklbomhdpimaaDoorW.PrintWords Go.Proofs.YtdpklbomhdpimaaDoorW.PrintLast
def wfE (e : S44) : Prop := I64 e.f0 ∧ I64 e.f1 ∧ I64 e.f2.f0 ∧ I64 e.f2.f1 ∧ I64 e.f2.f2 ∧ I64 e.f2.f3 ∧ e.f2.f4.size ≤ 9223372036854775807
def entB (e : S44) : Bool :=
 decide (1 ≤ e.f0) && decide (e.f0 ≤ 3) && (decide (1 ≤ e.f1) && decide (e.f1 ≤ 40)) && opB e.f2.f0 e.f2.f1 e.f2.f2 e.f2.f3 e.f2.f4 && (decide (e.f2.f0 ≠ 1) || decide (ownI e.f2.f1 - 1 = e.f0))
theorem who_made (i : Int) (h : madeB i = true) : ownI i - 1 = wrap64 (Int.tdiv i 10) := by
 obtain ⟨h0, h1⟩ := made_small i h
 obtain ⟨n, rfl⟩ : ∃ n : Nat, i = n := ⟨i.toNat, by omega⟩
 rw [tdiv_wrap _ ⟨by omega, by omega⟩]
 exact small_who n (by omega) h
theorem ent_f (e : S44) (h : wfE e) : Ev (fun n => impl_EntryOk.f n e.f0 e.f1 e.f2.f0 e.f2.f1 e.f2.f2 e.f2.f3 e.f2.f4) (entB e) := by
 obtain ⟨h0, h1, h2, h3, h4, h5, h6⟩ := h
 unfold impl_EntryOk.f impl_whoOk.f entB
 by_cases a1 : e.f0 ≥ 1
 ·simp only [a1, if_true, Option.bind_some, ge_iff_le, decide_true, Bool.true_and]
  cases a2 : decide (e.f0 ≤ 3) with
  | false => simp only [Bool.false_eq_true, if_false, Bool.false_and]; exact evnow _
  | true =>
   simp only [if_true, Bool.true_and]
   by_cases a3 : e.f1 < 1
   ·have : decide (1 ≤ e.f1) = false := decide_eq_false (by omega)
    simp only [a3, if_true, this, Bool.false_and]; exact evnow _
   ·have e3 : decide (1 ≤ e.f1) = true := decide_eq_true (by omega)
    by_cases a4 : e.f1 > 40
    ·have : decide (e.f1 ≤ 40) = false := decide_eq_false (by omega)
     simp only [a3, if_false, a4, if_true, this, Bool.and_false, Bool.false_and]; exact evnow _
    ·have e4 : decide (e.f1 ≤ 40) = true := decide_eq_true (by omega)
     simp only [a3, if_false, a4, e3, e4, Bool.true_and]
     refine Ev.bind (opOk_f _ _ _ _ _ h6) ?_
     cases ho : opB e.f2.f0 e.f2.f1 e.f2.f2 e.f2.f3 e.f2.f4 with
     | false => simp only [Bool.false_eq_true, if_false, Bool.false_and]; exact evnow _
     | true =>
      simp only [if_true, Bool.true_and]
      have hm := opB_made _ _ _ _ _ ho
      unfold impl_RowWho.f
      have hn : ownI e.f2.f1 ≠ 0 := by
       intro hz
       unfold madeB at hm
       rw [hz] at hm
       simp at hm
      rw [if_neg hn]
      simp only [Option.bind_some]
      by_cases a5 : e.f2.f0 = 1
      ·simp only [a5, if_true, ne_eq, not_true, decide_false, Bool.false_or]
       have : (ownI e.f2.f1 - 1 == e.f0) = decide (ownI e.f2.f1 - 1 = e.f0) := by by_cases hq : ownI e.f2.f1 - 1 = e.f0 <;> simp [hq]
       rw [this]; exact evnow _
      ·simp only [a5, if_false, ne_eq, not_false_eq_true, decide_true, Bool.true_or]; exact evnow _
 ·have : decide (1 ≤ e.f0) = false := decide_eq_false (by omega)
  simp only [a1, if_false, Option.bind_some, Bool.false_eq_true, this, Bool.false_and]; exact evnow _
theorem sent_f (e : S44) (h : wfE e) : Ev (fun n => spec_EntryOk.f n e.f0 e.f1 e.f2.f0 e.f2.f1 e.f2.f2 e.f2.f3 e.f2.f4) (entB e) := by
 obtain ⟨h0, h1, h2, h3, h4, h5, h6⟩ := h
 unfold spec_EntryOk.f entB
 rw [in_f, in_f]
 simp only [Option.bind_some]
 cases (decide (1 ≤ e.f0) && decide (e.f0 ≤ 3)) with
 | false => simp only [Bool.false_eq_true, if_false, Bool.false_and]; exact evnow _
 | true =>
  cases (decide (1 ≤ e.f1) && decide (e.f1 ≤ 40)) with
  | false => simp only [Bool.false_eq_true, if_true, if_false, Bool.true_and, Bool.false_and]; exact evnow _
  | true =>
   simp only [if_true, Bool.true_and]
   refine Ev.bind (sop_f _ _ _ _ _ h3 h4 h5 h6) ?_
   cases ho : opB e.f2.f0 e.f2.f1 e.f2.f2 e.f2.f3 e.f2.f4 with
   | false => simp only [Bool.false_eq_true, if_false, Bool.false_and]; exact evnow _
   | true =>
    simp only [if_true, Bool.true_and]
    have hm := who_made _ (opB_made _ _ _ _ _ ho)
    by_cases a5 : e.f2.f0 = 1
    ·simp only [a5, if_true, ne_eq, not_true, decide_false, Bool.false_or]
     have : (wrap64 (Int.tdiv e.f2.f1 10) == e.f0) = decide (ownI e.f2.f1 - 1 = e.f0) := by rw [hm]; by_cases hq : wrap64 (Int.tdiv e.f2.f1 10) = e.f0 <;> simp [hq]
     rw [this]; exact evnow _
    ·simp only [a5, if_false, ne_eq, not_false_eq_true, decide_true, Bool.true_or]; exact evnow _
def goB : List S44 → List S44 → Bool
 | _, [] => true
 | pre, e :: rest => entB e && decide (cntE pre e.f0 + 1 = e.f1) && goB (pre ++ [e]) rest
def logB (l : List S44) : Bool := decide (l.length ≤ 40) && goB [] l
def wfL (l : List S44) : Prop := ∀ e ∈ l, wfE e
theorem log_go : ∀ (rest pre : List S44), wfL rest → Ev (fun n => impl_LogOk.go n pre rest) (goB pre rest)
 | [], _, _ => Ev.congr (f := fun _ => some true) (fun n => by unfold impl_LogOk.go; rfl) (evnow _)
 | e :: rest, pre, h => by
  unfold goB
  refine Ev.congr (f := fun k => (impl_EntryOk.f k e.f0 e.f1 e.f2.f0 e.f2.f1 e.f2.f2 e.f2.f3 e.f2.f4).bind fun t => if t = true then (if cntE pre e.f0 + 1 = e.f1 then impl_LogOk.go k (pre ++ [e]) rest else some false) else some false) (fun n => by rw [impl_LogOk.go]) ?_
  refine Ev.bind (ent_f e (h e (List.mem_cons_self))) ?_
  cases entB e with
  | false => simp only [Bool.false_eq_true, if_false, Bool.false_and]; exact evnow _
  | true =>
   simp only [if_true, Bool.true_and]
   by_cases hq : cntE pre e.f0 + 1 = e.f1
   ·simp only [hq, if_true, decide_true, Bool.true_and]; exact log_go rest _ (fun x hx => h x (List.mem_cons_of_mem _ hx))
   ·simp only [hq, if_false, decide_false, Bool.false_and]; exact evnow _
theorem log_f (l : List S44) (h : wfL l) : Ev (fun n => impl_LogOk.f n l) (logB l) := by
 unfold impl_LogOk.f logB
 by_cases h40 : (l.length : Int) > 40
 ·refine ev_pos h40 ?_
  have : decide (l.length ≤ 40) = false := decide_eq_false (by omega)
  rw [this, Bool.false_and]; exact evnow _
 ·refine ev_neg h40 ?_
  have : decide (l.length ≤ 40) = true := decide_eq_true (by omega)
  rw [this, Bool.true_and]; exact log_go l [] h
theorem rdE_get (l : List S44) (i : Nat) (h : i < l.length) : rd_T44 l i = l[i] := by
 unfold rd_T44
 rw [List.getD_eq_getElem?_getD, show ((i : Int)).toNat = i from rfl, List.getElem?_eq_getElem h]
 rfl
theorem seq_l0 (l : List S44) (who : Int) (hl : l.length ≤ 281474976710656) : ∀ (n : Nat) (i : Nat) (c : Int), i + n = l.length → 0 ≤ c → c ≤ i → Ev (fun k => spec_l12Seq.l0 k l who c i) (c + cntE (l.drop i) who)
 | 0, i, c, h, h0, h1 => by
  refine Ev.step (f := fun _ => some c) (fun k => ?_) ?_
  ·simp only [spec_l12Seq.l0]; rw [if_neg (by omega)]
  ·have : c + cntE (l.drop i) who = c := by rw [List.drop_eq_nil_of_le (by omega)]; unfold cntE; simp
   rw [this]; exact evnow _
 | n + 1, i, c, h, h0, h1 => by
  have hi : i < l.length := by omega
  have hd := List.drop_eq_getElem_cons hi
  have hc : cntE (l.drop i) who = cntE (l.drop (i + 1)) who + (if l[i].f0 = who then 1 else 0) := by
   rw [hd]
   unfold cntE
   rw [List.countP_cons]
   by_cases hq : l[i].f0 = who <;> simp [hq]
  rw [hc]
  by_cases hq : l[i].f0 = who
  ·rw [if_pos hq, show c + (cntE (l.drop (i + 1)) who + 1) = (c + 1) + cntE (l.drop (i + 1)) who by omega]
   refine Ev.step (fun k => ?_) (seq_l0 l who hl n (i + 1) (c + 1) (by omega) (by omega) (by omega))
   simp only [spec_l12Seq.l0]
   rw [if_pos (by omega), if_pos (by omega), rdE_get l i hi, if_pos hq, wrapS i (by omega) (by omega), wrapS c (by omega) (by omega)]
   rfl
  ·rw [if_neg hq, Int.add_zero]
   refine Ev.step (fun k => ?_) (seq_l0 l who hl n (i + 1) c (by omega) (by omega) (by omega))
   simp only [spec_l12Seq.l0]
   rw [if_pos (by omega), if_pos (by omega), rdE_get l i hi, if_neg hq, wrapS i (by omega) (by omega)]
   rfl
theorem seq_f (l : List S44) (who : Int) (hl : l.length ≤ 281474976710656) : Ev (fun k => spec_l12Seq.f k l who) (cntE l who) := by
 have := seq_l0 l who hl l.length 0 0 (by omega) (by omega) (by omega)
 rw [Int.zero_add] at this
 exact this
theorem slog_l0 (l : List S44) (h : wfL l) (hl : l.length ≤ 281474976710656) : ∀ (n : Nat) (i : Nat), i + n = l.length → Ev (fun k => spec_LogOk.l0 k l i) (goB (l.take i) (l.drop i) && decide (l.length ≤ 40))
 | 0, i, hn => by
  rw [List.drop_eq_nil_of_le (by omega)]
  refine Ev.step (f := fun _ => some (decide ((l.length : Int) ≤ 40))) (fun k => ?_) ?_
  ·simp only [spec_LogOk.l0]; rw [if_neg (by omega)]
  ·have : decide ((l.length : Int) ≤ 40) = (goB (l.take i) [] && decide (l.length ≤ 40)) := by unfold goB; simp; omega
   rw [this]; exact evnow _
 | n + 1, i, hn => by
  have hi : i < l.length := by omega
  rw [List.drop_eq_getElem_cons hi]
  unfold goB
  rw [← List.take_succ_eq_append_getElem hi]
  refine Ev.step (f := fun k => (spec_EntryOk.f k l[i].f0 l[i].f1 l[i].f2.f0 l[i].f2.f1 l[i].f2.f2 l[i].f2.f3 l[i].f2.f4).bind fun t127 => (if t127 = true then ((spec_l12Seq.f k (l.take i) l[i].f0).bind fun t134 => (if l[i].f1 = (wrap64 (t134 + 1)) then (spec_LogOk.l0 k l ((i + 1 : Nat) : Int)) else (some false))) else (some false))) (fun k => ?_) ?_
  ·simp only [spec_LogOk.l0]
   rw [if_pos (by omega), if_pos (by omega), rdE_get l i hi, if_pos (by omega), wrapS i (by omega) (by omega)]
   rfl
  ·refine Ev.bind (sent_f _ (h _ (List.getElem_mem hi))) ?_
   cases entB l[i] with
   | false => simp only [Bool.false_eq_true, if_false, Bool.false_and]; exact evnow _
   | true =>
    simp only [if_true, Bool.true_and]
    refine Ev.bind (seq_f (l.take i) l[i].f0 (by rw [List.length_take]; omega)) ?_
    have hcn := cntE_le (l.take i) l[i].f0
    have hw : wrap64 (cntE (l.take i) l[i].f0 + 1) = cntE (l.take i) l[i].f0 + 1 := wrapS _ hcn.1 (by have := hcn.2; rw [List.length_take] at this; omega)
    rw [hw]
    by_cases hq : cntE (l.take i) l[i].f0 + 1 = l[i].f1
    ·rw [decide_eq_true hq, Bool.true_and]
     refine ev_pos hq.symm ?_
     exact slog_l0 l h hl n (i + 1) (by omega)
    ·rw [decide_eq_false hq, Bool.false_and, Bool.false_and]
     refine ev_neg (fun e => hq e.symm) ?_
     exact evnow _
theorem slog_f (l : List S44) (h : wfL l) (hl : l.length ≤ 281474976710656) : Ev (fun k => spec_LogOk.f k l) (logB l) := by
 have := slog_l0 l h hl l.length 0 (by omega)
 unfold logB
 rw [Bool.and_comm]
 exact this
theorem logB_len {l : List S44} (h : logB l = true) : l.length ≤ 40 := by
 unfold logB at h
 simp only [Bool.and_eq_true, decide_eq_true_eq] at h
 exact h.1
def Bytes (b : List Int) : Prop := b.length ≤ 2000 ∧ ∀ x ∈ b, 0 ≤ x ∧ x ≤ 255
def Rd (p : Int) (m : Nat) : Prop := 0 ≤ p ∧ p + m ≤ 1000000
theorem Rd.less {p : Int} {m n : Nat} (h : Rd p m) (hn : n ≤ m) : Rd p n := ⟨h.1, by have := h.2; omega⟩
theorem wrap_id (x : Int) (h0 : -9223372036854775808 ≤ x) (h1 : x ≤ 9223372036854775807) : wrap64 x = x := by unfold wrap64; omega
theorem wraps_i64 (n : Int) (h0 : 0 ≤ n) (h1 : n < 2 ^ 62) : IntKind.i64.wrap n = n := by rw [IntKind.wrap_i64]; omega
theorem xor_pos (a b : Int) (ha : 0 ≤ a) (hb : 0 ≤ b) (ha' : a < 4611686018427387904) (hb' : b < 4611686018427387904) : 0 ≤ Go.bits .xor .i64 a b := by
 obtain ⟨m, rfl⟩ : ∃ m : Nat, a = m := ⟨a.toNat, by omega⟩
 obtain ⟨n, rfl⟩ : ∃ n : Nat, b = n := ⟨b.toNat, by omega⟩
 have hm : m < 2 ^ 62 := by omega
 have hn : n < 2 ^ 62 := by omega
 have e1 : m % 2 ^ 64 = m := Nat.mod_eq_of_lt (by omega)
 have e2 : n % 2 ^ 64 = n := Nat.mod_eq_of_lt (by omega)
 have hx : m ^^^ n < 2 ^ 62 := Nat.xor_lt_two_pow hm hn
 have hq : (BitVec.ofNat 64 m ^^^ BitVec.ofNat 64 n).toNat = m ^^^ n := by rw [BitVec.toNat_xor, BitVec.toNat_ofNat, BitVec.toNat_ofNat, e1, e2]
 have h2 : Go.bits .xor .i64 (m : Int) (n : Int) = IntKind.i64.wrap (((BitVec.ofNat 64 m ^^^ BitVec.ofNat 64 n).toNat : Nat) : Int) := by simp only [Go.bits, BitVec.ofInt_natCast]; rfl
 rw [h2, hq, wraps_i64 _ (by omega) (by omega)]
 omega
theorem rd_byte {b : List Int} (hb : Bytes b) (i : Int) : 0 ≤ rd b i ∧ rd b i ≤ 255 := by
 unfold rd
 rw [List.getD_eq_getElem?_getD]
 rcases Nat.lt_or_ge i.toNat b.length with h | h
 ·rw [List.getElem?_eq_getElem h]
  exact hb.2 _ (List.getElem_mem h)
 ·rw [List.getElem?_eq_none h]
  simp
theorem tmod_range (x n : Int) (hx : 0 ≤ x) (hn : 1 ≤ n) : 0 ≤ Int.tmod x n ∧ Int.tmod x n < n := by
 rw [Int.tmod_eq_emod_of_nonneg hx]
 exact ⟨Int.emod_nonneg _ (by omega), Int.emod_lt_of_pos _ (by omega)⟩
theorem pick_f (b : List Int) (p n : Int) (m : Nat) (hb : Bytes b) (hp : Rd p (m + 1)) : ∃ r : Int, Ev (fun k => spec_l6Rd_pick.f k b p n) (r, p + 1) ∧ Rd (p + 1) m ∧ 0 ≤ r ∧ (1 ≤ n → r < n) ∧ (n < 1 → r = 0) := by
 obtain ⟨h0, h1⟩ := hp
 have hR : Rd (p + 1) m := ⟨by omega, by omega⟩
 have w1 : wrap64 (p + 1) = p + 1 := wrap_id _ (by omega) (by omega)
 have w2 : wrap64 (p + 1 - 1) = p := by rw [wrap_id (p + 1 - 1) (by omega) (by omega)]; omega
 unfold spec_l6Rd_pick.f
 rw [w1]
 by_cases hn : n < 1
 ·refine ⟨0, ev_pos hn ?_, hR, Int.le_refl _, fun h => by omega, fun _ => rfl⟩
  refine Ev.step (f := fun _ => some (0, p + 1)) (fun k => ?_) (evnow _)
  simp only [spec_l6Rd_pick.j0, if_true]
 ·by_cases hl : b.length = 0
  ·refine ⟨0, ev_neg hn ?_, hR, Int.le_refl _, fun h => by omega, fun _ => rfl⟩
   refine Ev.step (f := fun _ => some (0, p + 1)) (fun k => ?_) (evnow _)
   have : ((b.length : Int) == 0) = true := by simp [hl]
   simp only [spec_l6Rd_pick.j0, this, if_true]
  ·have hf : ((b.length : Int) == 0) = false := beq_eq_false_iff_ne.2 (by omega)
   by_cases hk : p < (b.length : Int)
   ·have hx := rd_byte hb p
    have hr := tmod_range (wrap64 (rd b p)) n (by rw [wrap_id (rd b p) (by omega) (by omega)]; omega) (by omega)
    refine ⟨Int.tmod (wrap64 (rd b p)) n, ev_neg hn ?_, hR, hr.1, fun _ => hr.2, fun h => absurd h hn⟩
    refine Ev.step (f := fun _ => some (Int.tmod (wrap64 (rd b p)) n, p + 1)) (fun k => ?_) (evnow _)
    simp only [spec_l6Rd_pick.j0, hf, Bool.false_eq_true, if_false, w2]
    rw [if_pos hk, if_pos h0, if_neg (show ¬ n = 0 by omega)]
   ·have hlen : (1 : Int) ≤ b.length := by omega
    have m1 := tmod_range p b.length h0 hlen
    have e7 : wrap64 (p * 7) = p * 7 := wrap_id _ (by omega) (by omega)
    have e73 : wrap64 (p * 7 + 3) = p * 7 + 3 := wrap_id _ (by omega) (by omega)
    have m2 := tmod_range (p * 7 + 3) b.length (by omega) hlen
    have x1 := rd_byte hb (Int.tmod p b.length)
    have x2 := rd_byte hb (Int.tmod (p * 7 + 3) b.length)
    have d1 : 0 ≤ Int.tdiv p b.length ∧ Int.tdiv p b.length ≤ 1000000 := by
     rw [Int.tdiv_eq_ediv_of_nonneg h0]
     exact ⟨Int.ediv_nonneg h0 (by omega), Int.le_trans (Int.ediv_le_self _ h0) (by omega)⟩
    obtain ⟨r, hr⟩ : ∃ r, r = Int.tmod (Go.bits .xor .i64 (wrap64 ((wrap64 ((wrap64 ((wrap64 ((wrap64 (rd b (Int.tmod p (b.length : Int)))) * 131)) + (wrap64 ((wrap64 (rd b (Int.tmod (p * 7 + 3) (b.length : Int)))) * 1117)))) + (wrap64 (p * 29)))) + (wrap64 ((wrap64 (Int.tdiv p (b.length : Int))) * 53)))) (wrap64 (Int.tdiv (wrap64 ((wrap64 ((wrap64 ((wrap64 ((wrap64 (rd b (Int.tmod p (b.length : Int)))) * 131)) + (wrap64 ((wrap64 (rd b (Int.tmod (p * 7 + 3) (b.length : Int)))) * 1117)))) + (wrap64 (p * 29)))) + (wrap64 ((wrap64 (Int.tdiv p (b.length : Int))) * 53)))) 64))) n := ⟨_, rfl⟩
    have hrr : 0 ≤ r ∧ r < n := by
     rw [hr]
     refine tmod_range _ n ?_ (by omega)
     generalize rd b (Int.tmod p (b.length : Int)) = u at x1
     generalize rd b (Int.tmod (p * 7 + 3) (b.length : Int)) = v at x2
     generalize Int.tdiv p (b.length : Int) = d at d1
     rw [wrap_id u (by omega) (by omega), wrap_id v (by omega) (by omega), wrap_id d (by omega) (by omega)]
     rw [wrap_id (u * 131) (by omega) (by omega), wrap_id (v * 1117) (by omega) (by omega), wrap_id (p * 29) (by omega) (by omega), wrap_id (d * 53) (by omega) (by omega)]
     rw [wrap_id (u * 131 + v * 1117) (by omega) (by omega)]
     rw [wrap_id (u * 131 + v * 1117 + p * 29) (by omega) (by omega)]
     rw [wrap_id (u * 131 + v * 1117 + p * 29 + d * 53) (by omega) (by omega)]
     have hs : Int.tdiv (u * 131 + v * 1117 + p * 29 + d * 53) 64 = (u * 131 + v * 1117 + p * 29 + d * 53) / 64 := Int.tdiv_eq_ediv_of_nonneg (by omega)
     rw [hs, wrap_id _ (by omega) (by omega)]
     exact xor_pos _ _ (by omega) (by omega) (by omega) (by omega)
    refine ⟨r, ev_neg hn ?_, hR, hrr.1, fun _ => hrr.2, fun h => absurd h hn⟩
    refine Ev.step (f := fun _ => some (r, p + 1)) (fun k => ?_) (evnow _)
    simp only [spec_l6Rd_pick.j0, hf, Bool.false_eq_true, if_false, w2, e7, e73]
    rw [if_neg hk, if_neg (show ¬ (b.length : Int) = 0 by omega), if_pos m1.1, if_pos m1.2, if_pos m2.1, if_pos m2.2, if_neg (show ¬ n = 0 by omega), hr]
theorem rdR_get (t : List S69) (i : Nat) (h : i < t.length) : rd_T69 t i = t[i] := by
 unfold rd_T69
 rw [List.getD_eq_getElem?_getD, show ((i : Int)).toNat = i from rfl, List.getElem?_eq_getElem h]
 rfl
def atFrom (id : Int) : List S69 → Nat → Int
 | [], _ => -1
 | r :: rest, i => if r.f0 = id then (i : Int) else atFrom id rest (i + 1)
def atI (t : List S69) (id : Int) : Int := atFrom id t 0
theorem at_l0 (t : List S69) (id : Int) (hl : t.length ≤ 1099511627776) : ∀ (n i : Nat), i + n = t.length → Ev (fun k => spec_l2At.l0 k t id i) (atFrom id (t.drop i) i)
 | 0, i, h => by
  rw [List.drop_eq_nil_of_le (by omega)]
  refine Ev.step (f := fun _ => some (-1)) (fun k => ?_) (evnow _)
  simp only [spec_l2At.l0]; rw [if_neg (by omega)]
 | n + 1, i, h => by
  have hi : i < t.length := by omega
  rw [List.drop_eq_getElem_cons hi]
  unfold atFrom
  by_cases hq : t[i].f0 = id
  ·rw [if_pos hq]
   refine Ev.step (f := fun _ => some (i : Int)) (fun k => ?_) (evnow _)
   simp only [spec_l2At.l0]
   rw [if_pos (by omega), if_pos (by omega), rdR_get t i hi, if_pos hq]
  ·rw [if_neg hq]
   refine Ev.step (fun k => ?_) (at_l0 t id hl n (i + 1) (by omega))
   simp only [spec_l2At.l0]
   rw [if_pos (by omega), if_pos (by omega), rdR_get t i hi, if_neg hq, wrapS i (by omega) (by omega)]
   rfl
theorem at_f (t : List S69) (id : Int) (hl : t.length ≤ 1099511627776) : Ev (fun k => spec_l2At.f k t id) (atI t id) := at_l0 t id hl t.length 0 (by omega)
theorem atFrom_spec (id : Int) : ∀ (t : List S69) (i : Nat), (atFrom id t i = -1 ∧ ∀ x ∈ t, x.f0 ≠ id) ∨ ∃ (j : Nat) (h : j < t.length), atFrom id t i = ((i + j : Nat) : Int) ∧ t[j].f0 = id
 | [], i => Or.inl ⟨rfl, fun x hx => by cases hx⟩
 | r :: rest, i => by
  unfold atFrom
  by_cases hq : r.f0 = id
  ·rw [if_pos hq]
   exact Or.inr ⟨0, by simp, by simp, hq⟩
  ·rw [if_neg hq]
   rcases atFrom_spec id rest (i + 1) with ⟨h1, h2⟩ | ⟨j, h, h1, h2⟩
   ·refine Or.inl ⟨h1, fun x hx => ?_⟩
    rcases List.mem_cons.1 hx with rfl | hx
    ·exact hq
    ·exact h2 x hx
   ·exact Or.inr ⟨j + 1, by simp; omega, by rw [h1]; congr 1; omega, by simpa using h2⟩
theorem atI_spec (t : List S69) (id : Int) : (atI t id = -1 ∧ ∀ x ∈ t, x.f0 ≠ id) ∨ ∃ (j : Nat) (h : j < t.length), atI t id = (j : Int) ∧ t[j].f0 = id := by
 rcases atFrom_spec id t 0 with h | ⟨j, h, h1, h2⟩
 ·exact Or.inl h
 ·exact Or.inr ⟨j, h, by rw [atI, h1]; congr 1; omega, h2⟩
theorem atI_mem {t : List S69} {id : Int} {x : S69} (hx : x ∈ t) (h : x.f0 = id) : ∃ (j : Nat) (hj : j < t.length), atI t id = (j : Int) ∧ t[j].f0 = id := by
 rcases atI_spec t id with ⟨_, h2⟩ | h2
 ·exact absurd h (h2 x hx)
 ·exact h2
def endFrom (d : Int) : List S69 → Nat → Nat
 | [], e => e
 | r :: rest, e => if r.f1 > d then endFrom d rest (e + 1) else e
def endI (t : List S69) (i : Nat) : Nat := endFrom (t.getD i z69).f1 (t.drop (i + 1)) (i + 1)
theorem getD_get (t : List S69) (i : Nat) (h : i < t.length) : t.getD i z69 = t[i] := by
 rw [List.getD_eq_getElem?_getD, List.getElem?_eq_getElem h]
 rfl
theorem end_l0 (t : List S69) (a : Nat) (ha : a < t.length) (hl : t.length ≤ 1099511627776) : ∀ (n i : Nat), i + n = t.length → Ev (fun k => spec_l2End.l0 k t a i) (endFrom t[a].f1 (t.drop i) i : Int)
 | 0, i, h => by
  rw [List.drop_eq_nil_of_le (by omega)]
  refine Ev.step (f := fun _ => some (i : Int)) (fun k => ?_) (evnow _)
  simp only [spec_l2End.l0]; rw [if_neg (by omega)]
 | n + 1, i, h => by
  have hi : i < t.length := by omega
  rw [List.drop_eq_getElem_cons hi]
  unfold endFrom
  by_cases hq : t[i].f1 > t[a].f1
  ·rw [if_pos hq]
   refine Ev.step (fun k => ?_) (end_l0 t a ha hl n (i + 1) (by omega))
   simp only [spec_l2End.l0]
   rw [if_pos (by omega), if_pos (by omega), if_pos (by omega), if_pos (by omega), rdR_get t i hi, rdR_get t a ha, if_pos hq, wrapS i (by omega) (by omega)]
   rfl
  ·rw [if_neg hq]
   refine Ev.step (f := fun _ => some (i : Int)) (fun k => ?_) (evnow _)
   simp only [spec_l2End.l0]
   rw [if_pos (by omega), if_pos (by omega), if_pos (by omega), if_pos (by omega), rdR_get t i hi, rdR_get t a ha, if_neg hq]
theorem end_f (t : List S69) (a : Nat) (ha : a < t.length) (hl : t.length ≤ 1099511627776) : Ev (fun k => spec_l2End.f k t a) (endI t a : Int) := by
 have := end_l0 t a ha hl (t.length - (a + 1)) (a + 1) (by omega)
 unfold endI
 rw [getD_get t a ha]
 refine Ev.congr (fun k => ?_) this
 unfold spec_l2End.f
 rw [wrapS a (by omega) (by omega)]
 rfl
theorem endFrom_spec (d : Int) : ∀ (t : List S69) (e : Nat), e ≤ endFrom d t e ∧ endFrom d t e ≤ e + t.length ∧ (∀ (j : Nat) (hj : j < t.length), e + j < endFrom d t e → d < t[j].f1) ∧ (∀ (hj : endFrom d t e - e < t.length), t[endFrom d t e - e].f1 ≤ d)
 | [], e => ⟨Nat.le_refl _, by simp [endFrom], fun j hj => by simp at hj, fun hj => by simp at hj⟩
 | r :: rest, e => by
  by_cases hq : r.f1 > d
  ·have he : endFrom d (r :: rest) e = endFrom d rest (e + 1) := if_pos hq
   obtain ⟨h1, h2, h3, h4⟩ := endFrom_spec d rest (e + 1)
   refine ⟨by rw [he]; omega, by rw [he]; simp; omega, fun j hj hlt => ?_, fun hj => ?_⟩
   ·rw [he] at hlt
    cases j with
    | zero => exact hq
    | succ j => exact h3 j (by simpa using hj) (by omega)
   ·have e1 : endFrom d (r :: rest) e - e = (endFrom d rest (e + 1) - (e + 1)) + 1 := by rw [he]; omega
    have hj' : endFrom d rest (e + 1) - (e + 1) < rest.length := by rw [e1] at hj; simpa using hj
    have := h4 hj'
    simp only [e1, List.getElem_cons_succ]
    exact this
  ·have he : endFrom d (r :: rest) e = e := if_neg hq
   refine ⟨by rw [he]; exact Nat.le_refl _, by rw [he]; omega, fun j hj hlt => by rw [he] at hlt; omega, fun hj => ?_⟩
   have e1 : endFrom d (r :: rest) e - e = 0 := by rw [he]; omega
   simp only [e1, List.getElem_cons_zero]
   omega
theorem endI_spec (t : List S69) (a : Nat) (ha : a < t.length) : a < endI t a ∧ endI t a ≤ t.length ∧ (∀ (j : Nat) (hj : j < t.length), a < j → j < endI t a → t[a].f1 < t[j].f1) ∧ (∀ (hj : endI t a < t.length), t[endI t a].f1 ≤ t[a].f1) := by
 unfold endI
 rw [getD_get t a ha]
 obtain ⟨h1, h2, h3, h4⟩ := endFrom_spec t[a].f1 (t.drop (a + 1)) (a + 1)
 rw [List.length_drop] at h2
 refine ⟨by omega, by omega, fun j hj h5 h6 => ?_, fun hj => ?_⟩
 ·have := h3 (j - (a + 1)) (by rw [List.length_drop]; omega) (by omega)
  rw [List.getElem_drop] at this
  simpa [show a + 1 + (j - (a + 1)) = j by omega] using this
 ·have := h4 (by rw [List.length_drop]; omega)
  rw [List.getElem_drop] at this
  simpa [show a + 1 + (endFrom t[a].f1 (t.drop (a + 1)) (a + 1) - (a + 1)) = endFrom t[a].f1 (t.drop (a + 1)) (a + 1) by omega] using this
def KidOf (t : List S69) (a i : Nat) (x : Int) : Prop := ∃ (ha : a < t.length) (j : Nat) (hj : j < t.length), i ≤ j ∧ j < endI t a ∧ t[j].f0 = x ∧ t[j].f1 = wrap64 (t[a].f1 + 1)
theorem kids_l0 (t : List S69) (a : Nat) (ha : a < t.length) (hl : t.length ≤ 1099511627776) : ∀ (n i : Nat) (acc : List Int), i + n = endI t a → acc.length + n ≤ 1099511627776 →
  ∃ r : List Int, Ev (fun k => spec_l2Kids.l0 k t acc a i) (acc ++ r) ∧ r.length ≤ n ∧ ∀ x ∈ r, KidOf t a i x
 | 0, i, acc, h, hacc => by
  refine ⟨[], ?_, by simp, fun x hx => by cases hx⟩
  rw [List.append_nil]
  refine Ev.step (fun k => by simp only [spec_l2Kids.l0]; rfl) ?_
  refine Ev.bind (end_f t a ha hl) ?_
  refine ev_neg (by omega) ?_
  exact evnow _
 | n + 1, i, acc, h, hacc => by
  obtain ⟨e1, e2, _, _⟩ := endI_spec t a ha
  have hi : i < t.length := by omega
  by_cases hq : t[i].f1 = wrap64 (t[a].f1 + 1)
  ·obtain ⟨r, hr, hlen, hk⟩ := kids_l0 t a ha hl n (i + 1) (acc ++ [t[i].f0]) (by omega) (by simp; omega)
   refine ⟨t[i].f0 :: r, ?_, by simp; omega, fun x hx => ?_⟩
   ·rw [List.append_assoc] at hr
    refine Ev.step (fun k => by simp only [spec_l2Kids.l0]; rfl) ?_
    refine Ev.bind (end_f t a ha hl) ?_
    refine ev_pos (by omega) (ev_pos (by omega) (ev_pos (by omega) (ev_pos (by omega) (ev_pos (by omega) ?_))))
    rw [rdR_get t i hi, rdR_get t a ha, wrapS i (by omega) (by omega)]
    refine ev_pos hq (ev_pos (by omega) ?_)
    exact hr
   ·rcases List.mem_cons.1 hx with rfl | hx
    ·exact ⟨ha, i, hi, Nat.le_refl _, by omega, rfl, hq⟩
    ·obtain ⟨h1, j, hj, h2, h3, h4, h5⟩ := hk x hx
     exact ⟨h1, j, hj, by omega, h3, h4, h5⟩
  ·obtain ⟨r, hr, hlen, hk⟩ := kids_l0 t a ha hl n (i + 1) acc (by omega) (by omega)
   refine ⟨r, ?_, by omega, fun x hx => ?_⟩
   ·refine Ev.step (fun k => by simp only [spec_l2Kids.l0]; rfl) ?_
    refine Ev.bind (end_f t a ha hl) ?_
    refine ev_pos (by omega) (ev_pos (by omega) (ev_pos (by omega) (ev_pos (by omega) (ev_pos (by omega) ?_))))
    rw [rdR_get t i hi, rdR_get t a ha, wrapS i (by omega) (by omega)]
    refine ev_neg hq ?_
    exact hr
   ·obtain ⟨h1, j, hj, h2, h3, h4, h5⟩ := hk x hx
    exact ⟨h1, j, hj, by omega, h3, h4, h5⟩
theorem kids_f (t : List S69) (id : Int) (hl : t.length ≤ 1000000) : ∃ r : List Int, Ev (fun k => spec_l2Kids.f k t id) r ∧ r.length ≤ t.length ∧ ∀ x ∈ r, ∃ a : Nat, atI t id = (a : Int) ∧ KidOf t a (a + 1) x := by
 unfold spec_l2Kids.f
 simp only [Option.bind_some]
 rcases atI_spec t id with ⟨h1, _⟩ | ⟨a, ha, h1, _⟩
 ·refine ⟨[], ?_, by simp, fun x hx => by cases hx⟩
  refine Ev.bind (at_f t id (by omega)) ?_
  rw [h1]
  exact ev_pos (by omega) (evnow _)
 ·obtain ⟨e1, e2, _, _⟩ := endI_spec t a ha
  obtain ⟨r, hr, hlen, hk⟩ := kids_l0 t a ha (by omega) (endI t a - (a + 1)) (a + 1) [] (by omega) (by simp; omega)
  refine ⟨r, ?_, by omega, fun x hx => ⟨a, h1, hk x hx⟩⟩
  refine Ev.bind (at_f t id (by omega)) ?_
  rw [h1]
  refine ev_neg (by omega) ?_
  rw [wrapS a (by omega) (by omega)]
  exact hr
def shift (d : Int) (r : S69) : S69 := ⟨r.f0, wrap64 (r.f1 + d), r.f2⟩
theorem put_l0 (t rows : List S69) (d : Int) (p : Nat) (hp : p ≤ t.length) (hl : t.length ≤ 1000000) (hr : rows.length ≤ 1000000) : ∀ (n i : Nat) (acc : List S69), i + n = rows.length → acc.length + n ≤ 3000000 →
  Ev (fun k => spec_l3Put.l0 k t rows d p acc i) (acc ++ (rows.drop i).map (shift d) ++ t.drop p)
 | 0, i, acc, h, ha => by
  rw [List.drop_eq_nil_of_le (show rows.length ≤ i by omega), List.map_nil, List.append_nil]
  refine Ev.step (fun k => by simp only [spec_l3Put.l0]; rfl) ?_
  refine ev_neg (by omega) (ev_pos (by omega) (ev_pos (by omega) ?_))
  simp only [Option.bind_some]
  refine ev_pos (by rw [List.length_drop]; omega) ?_
  exact evnow _
 | n + 1, i, acc, h, ha => by
  have hi : i < rows.length := by omega
  rw [List.drop_eq_getElem_cons hi, List.map_cons]
  have ih := put_l0 t rows d p hp hl hr n (i + 1) (acc ++ [shift d rows[i]]) (by omega) (by simp; omega)
  rw [List.append_assoc acc] at ih
  refine Ev.step (fun k => by simp only [spec_l3Put.l0]; rfl) ?_
  refine ev_pos (by omega) (ev_pos (by omega) (ev_pos (by omega) ?_))
  rw [rdR_get rows i hi, wrapS i (by omega) (by omega)]
  exact ih
theorem put_f (t rows : List S69) (u a : Int) (hl : t.length ≤ 1000000) (hr : rows.length ≤ 1000000) (h0 : 0 < rows.length) (hu : ∃ x ∈ t, x.f0 = u) (ha : a > 0 → ∃ x ∈ t, x.f0 = a) :
  ∃ (y : S69) (p : Nat), y ∈ t ∧ y.f0 = u ∧ p ≤ t.length ∧ Ev (fun k => spec_l3Put.f k t rows u a) (t.take p ++ rows.map (shift (wrap64 (wrap64 (y.f1 + 1) - rows[0].f1))) ++ t.drop p) := by
 obtain ⟨x, hx, hxu⟩ := hu
 obtain ⟨j, hj, e1, e2⟩ := atI_mem hx hxu
 have fin : ∀ (p : Nat), p ≤ t.length → Ev (fun k => spec_l3Put.j0 k t rows (wrap64 (wrap64 (t[j].f1 + 1) - rows[0].f1)) p) (t.take p ++ rows.map (shift (wrap64 (wrap64 (t[j].f1 + 1) - rows[0].f1))) ++ t.drop p) := fun p hp => by
  refine Ev.step (fun k => by simp only [spec_l3Put.j0]; rfl) ?_
  simp only [Option.bind_some]
  refine ev_pos (by omega) (ev_pos (by omega) ?_)
  refine ev_pos (by simp; omega) ?_
  simp only [List.nil_append, Int.toNat_natCast]
  have := put_l0 t rows (wrap64 (wrap64 (t[j].f1 + 1) - rows[0].f1)) p hp hl hr rows.length 0 (t.take p) (by omega) (by rw [List.length_take]; omega)
  simpa using this
 have r0 : rd_T69 rows 0 = rows[0] := rdR_get rows 0 h0
 by_cases h : a > 0
 ·obtain ⟨x2, hx2, hxa⟩ := ha h
  obtain ⟨i, hi, e3, e4⟩ := atI_mem hx2 hxa
  obtain ⟨_, e5, _, _⟩ := endI_spec t i hi
  refine ⟨t[j], endI t i, List.getElem_mem hj, e2, e5, ?_⟩
  unfold spec_l3Put.f
  refine Ev.bind (at_f t u (by omega)) ?_
  rw [e1]
  refine ev_pos (by omega) (ev_pos (by omega) (ev_pos (by omega) (ev_pos h ?_)))
  refine Ev.bind (at_f t a (by omega)) ?_
  rw [e3]
  refine Ev.bind (end_f t i hi (by omega)) ?_
  rw [rdR_get t j hj, r0]
  exact fin _ e5
 ·refine ⟨t[j], j + 1, List.getElem_mem hj, e2, by omega, ?_⟩
  unfold spec_l3Put.f
  refine Ev.bind (at_f t u (by omega)) ?_
  rw [e1]
  refine ev_pos (by omega) (ev_pos (by omega) (ev_pos (by omega) (ev_neg h ?_)))
  rw [rdR_get t j hj, r0, wrapS j (by omega) (by omega)]
  exact fin (j + 1) (by omega)
theorem under_f (t : List S69) (u id : Int) (k : Nat) (hk : k < t.length) (hi : atI t id = (k : Int)) (hl : t.length ≤ 1000000) :
  Ev (fun n => spec_l2Under.f n t u id) (decide (0 ≤ atI t u) && (decide ((k : Int) ≤ atI t u) && decide (atI t u ≤ (endI t k : Int) - 1))) := by
 obtain ⟨e1, e2, _, _⟩ := endI_spec t k hk
 unfold spec_l2Under.f
 refine Ev.bind (at_f t u (by omega)) ?_
 refine Ev.bind (at_f t id (by omega)) ?_
 rw [hi]
 by_cases h : atI t u ≥ 0
 ·refine ev_pos h (ev_pos (by omega) ?_)
  refine Ev.bind (end_f t k hk (by omega)) ?_
  have hw : wrap64 ((endI t k : Int) - 1) = (endI t k : Int) - 1 := by unfold wrap64; omega
  rw [hw, in_f, decide_eq_true (show 0 ≤ atI t u from h), Bool.true_and]
  simp only [Option.bind_some]
  exact evnow _
 ·rw [decide_eq_false (show ¬ 0 ≤ atI t u from h), Bool.false_and]
  exact ev_neg h (evnow _)
theorem where_l0 (u : Int) (ks : List Int) (kd id up at_ : Int) (s : ByteArray) (hl : ks.length ≤ 1000000) : ∀ (n i : Nat) (a : Int), i + n = ks.length → (a > 0 → a ∈ ks ∧ a ≠ id) → ∃ a' : Int, Ev (fun k => spec_l3Where.l0 k u a ks i kd id up at_ s) (u, a', true) ∧ (a' > 0 → a' ∈ ks ∧ a' ≠ id)
 | 0, i, a, h, ha => ⟨a, by
   refine Ev.step (fun k => by simp only [spec_l3Where.l0]; rfl) ?_
   exact ev_neg (by omega) (evnow _), ha⟩
 | n + 1, i, a, h, ha => by
  have hi : i < ks.length := by omega
  have hrd : rd ks i = ks[i] := by
   unfold rd
   rw [List.getD_eq_getElem?_getD, show ((i : Int)).toNat = i from rfl, List.getElem?_eq_getElem hi]
   rfl
  by_cases hq : ks[i] = at_ ∧ at_ ≠ id
  ·obtain ⟨a', h1, h2⟩ := where_l0 u ks kd id up at_ s hl n (i + 1) at_ (by omega) (fun _ => ⟨hq.1 ▸ List.getElem_mem hi, hq.2⟩)
   refine ⟨a', ?_, h2⟩
   refine Ev.step (fun k => by simp only [spec_l3Where.l0]; rfl) ?_
   rw [hrd, wrapS i (by omega) (by omega)]
   exact ev_pos (by omega) (ev_pos (by omega) (ev_pos hq.1 (ev_neg hq.2 h1)))
  ·obtain ⟨a', h1, h2⟩ := where_l0 u ks kd id up at_ s hl n (i + 1) a (by omega) ha
   refine ⟨a', ?_, h2⟩
   refine Ev.step (fun k => by simp only [spec_l3Where.l0]; rfl) ?_
   rw [hrd, wrapS i (by omega) (by omega)]
   refine ev_pos (by omega) (ev_pos (by omega) ?_)
   by_cases h3 : ks[i] = at_
   ·refine ev_pos h3 (ev_pos ?_ h1)
    by_cases h4 : at_ = id
    ·exact h4
    ·exact absurd ⟨h3, h4⟩ hq
   ·exact ev_neg h3 h1
structure Inv (t : List S69) (B : Int) : Prop where
 deep : ∀ x ∈ t, 0 ≤ x.f1 ∧ x.f1 ≤ B
 root : ∀ x ∈ t, x.f0 = 3 → x.f1 = 0
 found : ∃ x ∈ t, x.f0 = 3
 ids : ∀ x ∈ t, I64 x.f0 ∧ x.f2.size ≤ 2000
def Fits (t : List S69) (kd id : Int) (u a : Int) : Prop :=
 kd ≠ 2 ∧ (kd ≠ 3 → atI t id = -1) ∧ (kd = 3 → ∃ k : Nat, k < t.length ∧ atI t id = (k : Int)) ∧
 ∃ (p : Nat) (hp : p < t.length), t[p].f0 = u ∧ (a > 0 → ∃ (q : Nat) (hq : q < t.length), t[q].f0 = a ∧ ∀ k : Nat, kd = 3 → atI t id = (k : Int) → ¬ (k ≤ q ∧ q < endI t k)) ∧
  ∀ k : Nat, kd = 3 → atI t id = (k : Int) → ¬ (k ≤ p ∧ p < endI t k)
theorem where_f (t : List S69) (B kd id up at_ : Int) (s : ByteArray) (hI : Inv t B) (hB : B ≤ 1099511627776) (hid : id ≠ 3) (hl : t.length ≤ 1000000) :
  ∃ (u a : Int) (ok : Bool), Ev (fun n => spec_l3Where.f n t kd id up at_ s) (u, a, ok) ∧ (ok = true → Fits t kd id u a) := by
 have none_ : ∀ f : Nat → Option (Int × Int × Bool), (∀ n, f n = spec_l3Where.j0 n t true kd id up at_ s) → Ev f (0, 0, false) := fun f hf =>
  Ev.congr hf (Ev.step (f := fun _ => some (0, 0, false)) (fun n => by simp only [spec_l3Where.j0, if_true]) (evnow _))
 unfold spec_l3Where.f
 by_cases h2 : kd = 2
 ·exact ⟨0, 0, false, Ev.bind (at_f t id (by omega)) (ev_pos h2 (none_ _ (fun n => rfl))), fun h => by cases h⟩
 ·by_cases h3 : ((decide (atI t id ≥ 0)) != (kd == 3)) = true
  ·exact ⟨0, 0, false, Ev.bind (at_f t id (by omega)) (ev_neg h2 (ev_pos h3 (none_ _ (fun n => rfl)))), fun h => by cases h⟩
  ·have h3' : decide (atI t id ≥ 0) = (kd == 3) := by simpa using h3
   -- the rest: 'up' is there, or it isn't
   have rest : (∀ (p k : Nat), atI t up = (p : Int) → kd = 3 → atI t id = (k : Int) → ¬ (k ≤ p ∧ p < endI t k)) → ∃ (u a : Int), Ev (fun n => spec_l3Where.j0 n t false kd id up at_ s) (u, a, true) ∧ Fits t kd id u a := by
    intro hout
    have c1 : kd ≠ 3 → atI t id = -1 := fun hk => by
     have : (kd == 3) = false := beq_eq_false_iff_ne.2 hk
     rw [this] at h3'
     have h4 := of_decide_eq_false h3'
     rcases atI_spec t id with ⟨h5, _⟩ | ⟨j, hj, h5, _⟩
     ·exact h5
     ·omega
    have c2 : kd = 3 → ∃ k : Nat, k < t.length ∧ atI t id = (k : Int) := fun hk => by
     have : (kd == 3) = true := beq_iff_eq.2 hk
     rw [this] at h3'
     have h4 := of_decide_eq_true h3'
     rcases atI_spec t id with ⟨h5, _⟩ | ⟨j, hj, h5, _⟩
     ·omega
     ·exact ⟨j, hj, h5⟩
    rcases atI_spec t up with ⟨h5, _⟩ | ⟨p, hp, h5, h6⟩
    ·obtain ⟨x, hx, hx3⟩ := hI.found
     obtain ⟨p, hp, rfl⟩ := List.getElem_of_mem hx
     refine ⟨3, 0, ?_, h2, c1, c2, p, hp, hx3, fun h => by omega, fun k hk hik hin => ?_⟩
     ·refine Ev.step (fun n => by simp only [spec_l3Where.j0]; rfl) ?_
      refine ev_neg (by decide) ?_
      refine Ev.bind (at_f t up (by omega)) ?_
      exact ev_pos (by omega) (evnow _)
     ·obtain ⟨k', hk', e⟩ := c2 hk
      obtain rfl : k' = k := by omega
      rcases Nat.eq_or_lt_of_le hin.1 with e6 | e6
      ·subst e6
       rcases atI_spec t id with ⟨h7, _⟩ | ⟨j, hj, h7, h8⟩
       ·omega
       ·obtain rfl : j = k' := by omega
        exact hid (h8.symm.trans hx3)
      ·have := (endI_spec t k' hk').2.2.1 p hp e6 hin.2
       have d1 := (hI.deep _ (List.getElem_mem hk')).1
       have d2 := hI.root _ hx hx3
       omega
    ·obtain ⟨ks, hks, hkl, hkk⟩ := kids_f t up hl
     obtain ⟨a, ha, hak⟩ := where_l0 up ks kd id up at_ s (by omega) ks.length 0 0 (by omega) (fun h => by omega)
     refine ⟨up, a, ?_, h2, c1, c2, p, hp, h6, fun hpos => ?_, fun k hk hik => hout p k h5 hk hik⟩
     ·refine Ev.step (fun n => by simp only [spec_l3Where.j0]; rfl) ?_
      refine ev_neg (by decide) ?_
      refine Ev.bind (at_f t up (by omega)) ?_
      refine ev_neg (by omega) ?_
      exact Ev.bind hks ha
     ·obtain ⟨hmem, hne⟩ := hak hpos
      obtain ⟨p', hp', hpl, q, hq, hq1, hq2, hq3, hq4⟩ := hkk a hmem
      obtain rfl : p' = p := by omega
      refine ⟨q, hq, hq3, fun k hk hik hin => ?_⟩
      obtain ⟨k', hk', e⟩ := c2 hk
      obtain rfl : k' = k := by omega
      have out := hout p' k' h5 hk hik
      have hkq : k' ≠ q := by
       rintro rfl
       rcases atI_spec t id with ⟨h7, _⟩ | ⟨j, hj, h7, h8⟩
       ·omega
       ·obtain rfl : j = k' := by omega
        exact hne (hq3.symm.trans h8)
      have dq := (endI_spec t k' hk').2.2.1 q hq (by omega) hin.2
      have dB := hI.deep _ (List.getElem_mem hp)
      have hw : wrap64 (t[p'].f1 + 1) = t[p'].f1 + 1 := wrap_id _ (by omega) (by omega)
      rw [hw] at hq4
      rcases Nat.lt_or_ge p' k' with h9 | h9
      ·have := (endI_spec t p' hp).2.2.1 k' hk' h9 (by omega)
       omega
      ·exact out ⟨h9, by omega⟩
   by_cases h4 : atI t id ≥ 0
   ·have h33 : kd = 3 := by
     rw [decide_eq_true h4] at h3'
     exact beq_iff_eq.1 h3'.symm
    rcases atI_spec t id with ⟨h5, _⟩ | ⟨k, hk, h5, h6⟩
    ·omega
    have hu := under_f t up id k hk h5 hl
    cases hd : (decide (0 ≤ atI t up) && (decide ((k : Int) ≤ atI t up) && decide (atI t up ≤ (endI t k : Int) - 1))) with
    | true =>
     rw [hd] at hu
     exact ⟨0, 0, false, Ev.bind (at_f t id (by omega)) (ev_neg h2 (ev_neg h3 (ev_pos h4 (Ev.bind hu (none_ _ (fun n => rfl)))))), fun h => by cases h⟩
    | false =>
     rw [hd] at hu
     obtain ⟨u, a, h7, h8⟩ := rest (fun p k2 hp _ hk2 hin => by
      obtain rfl : k2 = k := by omega
      have : (decide (0 ≤ atI t up) && (decide ((k2 : Int) ≤ atI t up) && decide (atI t up ≤ (endI t k2 : Int) - 1))) = true := by
       simp only [Bool.and_eq_true, decide_eq_true_eq]
       omega
      rw [this] at hd
      cases hd)
     exact ⟨u, a, true, Ev.bind (at_f t id (by omega)) (ev_neg h2 (ev_neg h3 (ev_pos h4 (Ev.bind hu h7)))), fun _ => h8⟩
   ·obtain ⟨u, a, h7, h8⟩ := rest (fun p k2 hp _ hk2 hin => by omega)
    exact ⟨u, a, true, Ev.bind (at_f t id (by omega)) (ev_neg h2 (ev_neg h3 (ev_neg h4 h7))), fun _ => h8⟩
theorem mem_rest {t : List S69} {k e j : Nat} (hj : j < t.length) (h : ¬ (k ≤ j ∧ j < e)) (hk : k ≤ e) : t[j] ∈ t.take k ++ t.drop e := by
 rcases Nat.lt_or_ge j k with h1 | h1
 ·exact List.mem_append_left _ (List.mem_take_iff_getElem.2 ⟨j, by omega, rfl⟩)
 ·exact List.mem_append_right _ (List.mem_drop_iff_getElem.2 ⟨j - e, by omega, by congr 1; omega⟩)
theorem rest_mem {t : List S69} {k e : Nat} {x : S69} (h : x ∈ t.take k ++ t.drop e) : x ∈ t := by
 rcases List.mem_append.1 h with h | h
 ·exact List.mem_of_mem_take h
 ·exact List.mem_of_mem_drop h
theorem Inv.more {t : List S69} {B C : Int} (h : Inv t B) (hc : B ≤ C) : Inv t C := ⟨fun x hx => ⟨(h.deep x hx).1, Int.le_trans (h.deep x hx).2 hc⟩, h.root, h.found, h.ids⟩
theorem do_f (t : List S69) (B kd id up at_ : Int) (s : ByteArray) (hI : Inv t B) (hB0 : 0 ≤ B) (hB : B ≤ 1099511627776) (hk : kd = 1 ∨ kd = 2 ∨ kd = 3) (hid : id ≠ 3) (hid64 : I64 id) (hl : t.length ≤ 100000) (hs : s.size ≤ 2000) :
  ∃ t' : List S69, Ev (fun n => spec_l3Do.f n t kd id up at_ s) t' ∧ Inv t' (2 * B + 1) ∧ (t'.length ≤ t.length + 1 ∧ t.length ≤ t'.length) := by
 have same : ∀ y : List S69, y = t → Inv y (2 * B + 1) ∧ (y.length ≤ t.length + 1 ∧ t.length ≤ y.length) := fun y hy => by
  subst hy
  exact ⟨hI.more (by omega), by omega⟩
 unfold spec_l3Do.f
 by_cases h2 : kd = 2
 ·rcases atI_spec t id with ⟨h5, _⟩ | ⟨k, hk', h5, h6⟩
  ·refine ⟨[] ++ t, Ev.bind (at_f t id (by omega)) (ev_pos h2 ?_), same _ (by simp)⟩
   simp only [Option.bind_some]
   refine ev_pos (by simp; omega) ?_
   rw [h5]
   exact ev_neg (by omega) (evnow _)
  ·refine ⟨t.set k ⟨t[k].f0, t[k].f1, s⟩, Ev.bind (at_f t id (by omega)) (ev_pos h2 ?_), ?_, by rw [List.length_set]; omega⟩
   ·simp only [Option.bind_some]
    refine ev_pos (by simp; omega) ?_
    rw [h5]
    simp only [List.nil_append, Int.toNat_natCast, rdR_get t k hk']
    exact ev_pos (by omega) (ev_pos (by omega) (ev_pos (by omega) (evnow _)))
   ·have hm : ∀ x ∈ t.set k ⟨t[k].f0, t[k].f1, s⟩, ∃ y ∈ t, x.f0 = y.f0 ∧ x.f1 = y.f1 ∧ (x.f2 = s ∨ x.f2 = y.f2) := fun x hx => by
     obtain ⟨i, hi, rfl⟩ := List.getElem_of_mem hx
     rw [List.length_set] at hi
     rw [List.getElem_set]
     split
     ·exact ⟨t[k], List.getElem_mem hk', rfl, rfl, Or.inl rfl⟩
     ·exact ⟨t[i], List.getElem_mem hi, rfl, rfl, Or.inr rfl⟩
    refine ⟨fun x hx => ?_, fun x hx h3 => ?_, ?_, fun x hx => ?_⟩
    ·obtain ⟨y, hy, _, e, _⟩ := hm x hx
     have := hI.deep y hy
     rw [e]; omega
    ·obtain ⟨y, hy, e0, e, _⟩ := hm x hx
     rw [e]
     exact hI.root y hy (e0 ▸ h3)
    ·obtain ⟨x, hx, h3⟩ := hI.found
     obtain ⟨i, hi, rfl⟩ := List.getElem_of_mem hx
     refine ⟨(t.set k ⟨t[k].f0, t[k].f1, s⟩)[i]'(by rw [List.length_set]; exact hi), List.getElem_mem _, ?_⟩
     rw [List.getElem_set]
     split
     ·rename_i e; subst e; exact h3
     ·exact h3
    ·obtain ⟨y, hy, e0, _, e2⟩ := hm x hx
     rw [e0]
     refine ⟨(hI.ids y hy).1, ?_⟩
     rcases e2 with e2 | e2 <;> rw [e2]
     ·exact hs
     ·exact (hI.ids y hy).2
 ·obtain ⟨u, a, ok, hw, hfit⟩ := where_f t B kd id up at_ s hI hB hid (by omega)
  cases ok with
  | false =>
   refine ⟨[] ++ t, Ev.bind (at_f t id (by omega)) (ev_neg h2 (Ev.bind hw (ev_neg (by simp) ?_))), same _ (by simp)⟩
   simp only [Option.bind_some]
   exact ev_pos (by simp; omega) (evnow _)
  | true =>
   obtain ⟨_, c1, c2, p, hp, hpu, hpa, hpo⟩ := hfit rfl
   by_cases h1 : kd = 1
   ·obtain ⟨y, q, hy, hyu, hq, hev⟩ := put_f t [⟨id, 0, s⟩] u a (by omega) (by simp) (by simp) ⟨t[p], List.getElem_mem hp, hpu⟩ (fun h => by
     obtain ⟨q, hq, e, _⟩ := hpa h
     exact ⟨t[q], List.getElem_mem hq, e⟩)
    refine ⟨_, Ev.bind (at_f t id (by omega)) (ev_neg h2 (Ev.bind hw (ev_pos rfl (ev_pos h1 (Ev.bind hev (evnow _)))))), ?_, by simp; omega⟩
    have dy := hI.deep y hy
    have hw1 : wrap64 (wrap64 (y.f1 + 1) - 0) = y.f1 + 1 := by rw [wrap_id (y.f1 + 1) (by omega) (by omega), wrap_id _ (by omega) (by omega)]; omega
    have hmem : ∀ x ∈ t.take q ++ [(⟨id, 0, s⟩ : S69)].map (shift (wrap64 (wrap64 (y.f1 + 1) - ([(⟨id, 0, s⟩ : S69)])[0].f1))) ++ t.drop q, x ∈ t ∨ (x.f0 = id ∧ x.f1 = y.f1 + 1 ∧ x.f2 = s) := fun x hx => by
     rcases List.mem_append.1 hx with hx | hx
     ·rcases List.mem_append.1 hx with hx | hx
      ·exact Or.inl (List.mem_of_mem_take hx)
      ·right
       simp only [List.map_cons, List.map_nil, List.mem_singleton] at hx
       subst hx
       refine ⟨rfl, ?_, rfl⟩
       show wrap64 (0 + wrap64 (wrap64 (y.f1 + 1) - 0)) = y.f1 + 1
       rw [hw1, wrap_id _ (by omega) (by omega)]
       omega
     ·exact Or.inl (List.mem_of_mem_drop hx)
    refine ⟨fun x hx => ?_, fun x hx h3 => ?_, ?_, fun x hx => ?_⟩
    ·rcases hmem x hx with h | ⟨_, h, _⟩
     ·have := hI.deep x h
      omega
     ·rw [h]; omega
    ·rcases hmem x hx with h | ⟨h, _⟩
     ·exact hI.root x h h3
     ·exact absurd (h.symm.trans h3) hid
    ·obtain ⟨x, hx, h3⟩ := hI.found
     rw [← List.take_append_drop q t] at hx
     rcases List.mem_append.1 hx with hx | hx
     ·exact ⟨x, List.mem_append_left _ (List.mem_append_left _ hx), h3⟩
     ·exact ⟨x, List.mem_append_right _ hx, h3⟩
    ·rcases hmem x hx with h | ⟨h, _, h2⟩
     ·exact hI.ids x h
     ·rw [h, h2]; exact ⟨hid64, hs⟩
   ·have h33 : kd = 3 := by
     rcases hk with h | h | h
     ·exact absurd h h1
     ·exact absurd h h2
     ·exact h
    obtain ⟨k, hk', h5⟩ := c2 h33
    obtain ⟨e1, e2, e3, _⟩ := endI_spec t k hk'
    have hkid : t[k].f0 = id := by
     rcases atI_spec t id with ⟨h7, _⟩ | ⟨j, hj, h7, h8⟩
     ·omega
     ·obtain rfl : j = k := by omega
      exact h8
    have hout := hpo k h33 h5
    obtain ⟨rest, hrest⟩ : ∃ r, r = t.take k ++ t.drop (endI t k) := ⟨_, rfl⟩
    obtain ⟨rows, hrows⟩ : ∃ r, r = (t.take (endI t k)).drop k := ⟨_, rfl⟩
    have hrl : rows.length = endI t k - k := by rw [hrows, List.length_drop, List.length_take]; omega
    have hsl : rest.length = k + (t.length - endI t k) := by rw [hrest, List.length_append, List.length_take, List.length_drop]; omega
    have hr0 : rows[0]'(by omega) = t[k] := by
     simp only [hrows, List.getElem_drop, List.getElem_take]
     rfl
    have hrm : ∀ x ∈ rows, ∃ (j : Nat) (hj : j < t.length), k ≤ j ∧ j < endI t k ∧ x = t[j] := fun x hx => by
     rw [hrows] at hx
     obtain ⟨i, hi, rfl⟩ := List.getElem_of_mem hx
     rw [List.length_drop, List.length_take] at hi
     refine ⟨k + i, by omega, by omega, by omega, ?_⟩
     rw [List.getElem_drop, List.getElem_take]
    obtain ⟨y, q, hy, hyu, hq, hev⟩ := put_f rest rows u a (by omega) (by omega) (by omega) ⟨t[p], by rw [hrest]; exact mem_rest hp hout (by omega), hpu⟩ (fun h => by
     obtain ⟨q, hq, e, ho⟩ := hpa h
     exact ⟨t[q], by rw [hrest]; exact mem_rest hq (ho k h33 h5) (by omega), e⟩)
    refine ⟨rest.take q ++ rows.map (shift (wrap64 (wrap64 (y.f1 + 1) - (rows[0]'(by omega)).f1))) ++ rest.drop q, Ev.bind (at_f t id (by omega)) (ev_neg h2 (Ev.bind hw (ev_pos rfl (ev_neg h1 ?_)))), ?_, ?_⟩
    rotate_left
    ·have hyt : y ∈ t := rest_mem (hrest ▸ hy)
     have dy := hI.deep y hyt
     have dk := hI.deep _ (List.getElem_mem hk')
     have hw1 : wrap64 (wrap64 (y.f1 + 1) - (rows[0]'(by omega)).f1) = y.f1 + 1 - t[k].f1 := by rw [hr0, wrap_id (y.f1 + 1) (by omega) (by omega), wrap_id _ (by omega) (by omega)]
     rw [hw1]
     have hmem : ∀ x ∈ rest.take q ++ rows.map (shift (y.f1 + 1 - t[k].f1)) ++ rest.drop q, x ∈ t ∨ (x.f0 ≠ 3 ∧ (0 ≤ x.f1 ∧ x.f1 ≤ 2 * B + 1) ∧ I64 x.f0 ∧ x.f2.size ≤ 2000) := fun x hx => by
      rcases List.mem_append.1 hx with hx | hx
      ·rcases List.mem_append.1 hx with hx | hx
       ·exact Or.inl (rest_mem (hrest ▸ List.mem_of_mem_take hx))
       ·right
        obtain ⟨z, hz, rfl⟩ := List.mem_map.1 hx
        obtain ⟨j, hj, hkj, hje, rfl⟩ := hrm z hz
        have dj := hI.deep _ (List.getElem_mem hj)
        have hge : t[k].f1 ≤ t[j].f1 := by
         rcases Nat.eq_or_lt_of_le hkj with e | e
         ·subst e; exact Int.le_refl _
         ·exact Int.le_of_lt (e3 j hj e hje)
        have hf : (shift (y.f1 + 1 - t[k].f1) t[j]).f1 = t[j].f1 + (y.f1 + 1 - t[k].f1) := wrap_id _ (by omega) (by omega)
        refine ⟨?_, ⟨by rw [hf]; omega, by rw [hf]; omega⟩, hI.ids t[j] (List.getElem_mem hj)⟩
        show t[j].f0 ≠ 3
        intro h3
        rcases Nat.eq_or_lt_of_le hkj with e | e
        ·subst e; exact hid (hkid.symm.trans h3)
        ·have := e3 j hj e hje
         have := hI.root _ (List.getElem_mem hj) h3
         omega
      ·exact Or.inl (rest_mem (hrest ▸ List.mem_of_mem_drop hx))
     refine ⟨fun x hx => ?_, fun x hx h3 => ?_, ?_, fun x hx => ?_⟩
     ·rcases hmem x hx with h | ⟨_, h, _⟩
      ·have := hI.deep x h
       omega
      ·exact h
     ·rcases hmem x hx with h | ⟨h, _⟩
      ·exact hI.root x h h3
      ·exact absurd h3 h
     ·obtain ⟨x, hx, h3⟩ := hI.found
      obtain ⟨j, hj, rfl⟩ := List.getElem_of_mem hx
      have hj3 : ¬ (k ≤ j ∧ j < endI t k) := by
       rintro ⟨g1, g2⟩
       rcases Nat.eq_or_lt_of_le g1 with e | e
       ·subst e; exact hid (hkid.symm.trans h3)
       ·have := e3 j hj e g2
        have := hI.root _ (List.getElem_mem hj) h3
        omega
      have hxr : t[j] ∈ rest := by rw [hrest]; exact mem_rest hj hj3 (by omega)
      rw [← List.take_append_drop q rest] at hxr
      rcases List.mem_append.1 hxr with hx | hx
      ·exact ⟨_, List.mem_append_left _ (List.mem_append_left _ hx), h3⟩
      ·exact ⟨_, List.mem_append_right _ hx, h3⟩
     ·rcases hmem x hx with h | ⟨_, _, h⟩
      ·exact hI.ids x h
      ·exact h
    ·rw [List.length_append, List.length_append, List.length_map, List.length_take, List.length_drop]
     omega
    ·rw [h5]
     refine Ev.bind (end_f t k hk' (by omega)) ?_
     simp only [Option.bind_some, Int.toNat_natCast]
     refine ev_pos (by omega) (ev_pos (by omega) (ev_pos (by omega) ?_))
     refine ev_pos (by rw [List.length_drop, List.length_take]; simp; omega) ?_
     refine ev_pos (by omega) ?_
     refine ev_pos (by rw [List.length_take]; simp; omega) ?_
     refine ev_pos (by omega) ?_
     refine ev_pos (by rw [List.length_append, List.length_take, List.length_drop]; simp; omega) ?_
     simp only [List.nil_append]
     rw [← hrest, ← hrows]
     exact Ev.bind hev (evnow _)
theorem of_f (b : List Int) (p : Int) (m : Nat) (l : List ByteArray) (hb : Bytes b) (hp : Rd p (m + 1)) (h1 : 1 ≤ l.length) (h2 : l.length ≤ 1000) : ∃ (s : ByteArray), Ev (fun k => spec_l6Rd_of.f k b p l) (s, p + 1) ∧ s ∈ l := by
 obtain ⟨r, hr, _, h0, hlt, _⟩ := pick_f b p (l.length : Int) m hb hp
 have hlt := hlt (by omega)
 have hi : r.toNat < l.length := by omega
 refine ⟨l[r.toNat], ?_, List.getElem_mem hi⟩
 unfold spec_l6Rd_of.f
 refine Ev.bind hr ?_
 refine ev_pos h0 (ev_pos hlt ?_)
 have : rdOf ByteArray.empty l r = l[r.toNat] := by
  unfold rdOf
  rw [List.getD_eq_getElem?_getD, List.getElem?_eq_getElem hi]
  rfl
 rw [this]
 exact evnow _
theorem text_l0_f (b : List Int) (hb : Bytes b) : ∀ (n : Nat) (s : ByteArray) (p : Int) (m : Nat), s.size + n ≤ 1000 → Rd p (m + n + 2) → ∃ (s' : ByteArray) (p' : Int), Ev (fun k => spec_l71Text.l0 k s n b p) (s', p') ∧ Rd p' m ∧ s'.size ≤ 1010
 | 0, s, p, m, hs, hp => by
  obtain ⟨r, hr, hR, _, _, _⟩ := pick_f b p 40 (m + 1) hb hp
  by_cases h0 : r = 0
  ·obtain ⟨u, hu, hm⟩ := of_f b (p + 1) m [(⟨#[101]⟩ : ByteArray), (⟨#[32]⟩ : ByteArray), (⟨#[97, 97, 97, 97]⟩ : ByteArray), (⟨#[39]⟩ : ByteArray)] hb hR (by simp) (by simp)
   have hz : u.size ≤ 4 := by
    simp only [List.mem_cons, List.not_mem_nil, or_false] at hm
    rcases hm with rfl | rfl | rfl | rfl <;> decide
   refine ⟨s ++ u, p + 1 + 1, ?_, ⟨by have := hR.1; omega, by have := hR.2; omega⟩, by rw [ByteArray.size_append]; omega⟩
   refine Ev.step (fun k => by simp only [spec_l71Text.l0]; rfl) ?_
   refine ev_neg (by omega) (Ev.bind hr (ev_pos h0 (Ev.bind hu (ev_pos (show s.size + u.size ≤ 9223372036854775807 by omega) (evnow _)))))
  ·refine ⟨s, p + 1, ?_, hR.less (by omega), by omega⟩
   refine Ev.step (fun k => by simp only [spec_l71Text.l0]; rfl) ?_
   exact ev_neg (by omega) (Ev.bind hr (ev_neg h0 (evnow _)))
 | n + 1, s, p, m, hs, hp => by
  obtain ⟨u, hu, hm⟩ := of_f b p (m + n + 2) [(⟨#[97]⟩ : ByteArray), (⟨#[98]⟩ : ByteArray), (⟨#[99]⟩ : ByteArray), (⟨#[100]⟩ : ByteArray)] hb (hp.less (by omega)) (by simp) (by simp)
  have hz : u.size = 1 := by
   simp only [List.mem_cons, List.not_mem_nil, or_false] at hm
   rcases hm with rfl | rfl | rfl | rfl <;> decide
  obtain ⟨s', p', h1, h2, h3⟩ := text_l0_f b hb n (s ++ u) (p + 1) m (by rw [ByteArray.size_append]; omega) ⟨by have := hp.1; omega, by have := hp.2; omega⟩
  refine ⟨s', p', ?_, h2, h3⟩
  refine Ev.step (fun k => by simp only [spec_l71Text.l0]; rfl) ?_
  refine ev_pos (by omega) (Ev.bind hu (ev_pos (show s.size + u.size ≤ 9223372036854775807 by omega) ?_))
  have hw : wrap64 (((n + 1 : Nat) : Int) - 1) = n := by rw [wrap_id _ (by omega) (by have := hs; omega)]; omega
  rw [hw]
  exact h1
theorem dtext_f (b : List Int) (p : Int) (m : Nat) (hb : Bytes b) (hp : Rd p (m + 6)) : ∃ (s : ByteArray) (p' : Int), Ev (fun k => spec_l71Text.f k b p) (s, p') ∧ Rd p' m ∧ s.size ≤ 1010 := by
 obtain ⟨r, hr, hR, h0, hlt, _⟩ := pick_f b p 4 (m + 5) hb hp
 have hlt := hlt (by omega)
 obtain ⟨n, rfl⟩ : ∃ n : Nat, r = n := ⟨r.toNat, by omega⟩
 obtain ⟨s', p', h1, h2, h3⟩ := text_l0_f b hb n ⟨#[]⟩ (p + 1) m (by show 0 + n ≤ 1000; omega) (hR.less (by omega))
 refine ⟨s', p', ?_, h2, h3⟩
 unfold spec_l71Text.f
 exact Ev.bind hr h1
theorem did_f (b : List Int) (p : Int) (m : Nat) (hb : Bytes b) (hp : Rd p (m + 2)) : ∃ r p' : Int, Ev (fun k => spec_l71Id.f k b p) (r, p') ∧ Rd p' m ∧ 11 ≤ r ∧ r ≤ 44 := by
 obtain ⟨x, hx, hR, x0, x1, _⟩ := pick_f b p 3 (m + 1) hb hp
 obtain ⟨y, hy, hR2, y0, y1, _⟩ := pick_f b (p + 1) 4 m hb hR
 have x1 := x1 (by omega)
 have y1 := y1 (by omega)
 have e : wrap64 (wrap64 (wrap64 (10 * wrap64 (1 + x)) + 1) + y) = 10 * (1 + x) + 1 + y := by
  rw [wrap_id (1 + x) (by omega) (by omega), wrap_id (10 * (1 + x)) (by omega) (by omega), wrap_id (10 * (1 + x) + 1) (by omega) (by omega), wrap_id _ (by omega) (by omega)]
 refine ⟨10 * (1 + x) + 1 + y, p + 1 + 1, ?_, hR2, by omega, by omega⟩
 unfold spec_l71Id.f
 refine Ev.bind hx (Ev.bind hy ?_)
 rw [e]
 exact evnow _
theorem rowMade_f (w n : Int) : ∃ r : Int, spec_RowMade.f w n = some r ∧ (r = 0 ∨ 11 ≤ r ∧ r ≤ 36) := by
 unfold spec_RowMade.f
 simp only [in_f, Option.bind_some]
 cases h1 : (decide (1 ≤ w) && decide (w ≤ 3)) with
 | false => exact ⟨0, by simp, Or.inl rfl⟩
 | true =>
  cases h2 : (decide (1 ≤ n) && decide (n ≤ 6)) with
  | false => exact ⟨0, by simp, Or.inl rfl⟩
  | true =>
   simp only [Bool.and_eq_true, decide_eq_true_eq] at h1 h2
   refine ⟨10 * w + n, ?_, Or.inr ⟨by omega, by omega⟩⟩
   simp only [if_true]
   rw [wrap_id (10 * w) (by omega) (by omega), wrap_id _ (by omega) (by omega)]
def OpD (k i u a : Int) (s : ByteArray) : Prop := (k = 1 ∨ k = 2 ∨ k = 3) ∧ i ≠ 3 ∧ I64 i ∧ I64 u ∧ I64 a ∧ s.size ≤ 2000
theorem i64_small {x : Int} (h0 : -1000 ≤ x) (h1 : x ≤ 1000) : I64 x := ⟨by omega, by omega⟩
theorem made_ne {i : Int} (h : madeB i = true) : i ≠ 3 := by
 rintro rfl
 exact absurd h (by decide)
theorem op_j4 (b : List Int) (hb : Bytes b) (w md id up at_ : Int) (s : ByteArray) (f : Bool) (p : Int) (m : Nat) (hi : I64 id) (hu : I64 up) (ha : I64 at_) (hs : s.size ≤ 2000) (hp : Rd p (m + 3)) :
  ∃ (k i u a : Int) (s' : ByteArray) (p' : Int), Ev (fun n => spec_l72Op.j4 n w md id up at_ s f b p) (k, i, u, a, s', p') ∧ OpD k i u a s' ∧ Rd p' m := by
 cases f with
 | true =>
  obtain ⟨r, hr, hrr⟩ := rowMade_f w (wrap64 (md + 1))
  refine ⟨1, r, up, at_, s, p, ?_, ⟨Or.inl rfl, by omega, i64_small (by omega) (by omega), hu, ha, hs⟩, hp.less (by omega)⟩
  refine Ev.step (fun n => by simp only [spec_l72Op.j4]; rfl) ?_
  refine ev_pos (by simp) ?_
  rw [hr]
  simp only [Option.bind_some]
  exact evnow _
 | false =>
  cases hm : madeB id with
  | true =>
   obtain ⟨r, hr, hR, _, _, _⟩ := pick_f b p 3 (m + 2) hb hp
   by_cases h0 : r = 0
   ·refine ⟨2, id, 0, 0, s, p + 1, ?_, ⟨Or.inr (Or.inl rfl), made_ne hm, hi, i64_small (by omega) (by omega), i64_small (by omega) (by omega), hs⟩, hR.less (by omega)⟩
    refine Ev.step (fun n => by simp only [spec_l72Op.j4]; rfl) ?_
    refine ev_neg (by decide) ?_
    rw [made_f id hi, hm]
    simp only [Option.bind_some]
    exact ev_pos (by simp) (Ev.bind hr (ev_pos h0 (evnow _)))
   ·refine ⟨3, id, up, at_, ⟨#[]⟩, p + 1, ?_, ⟨Or.inr (Or.inr rfl), made_ne hm, hi, hu, ha, by decide⟩, hR.less (by omega)⟩
    refine Ev.step (fun n => by simp only [spec_l72Op.j4]; rfl) ?_
    refine ev_neg (by decide) ?_
    rw [made_f id hi, hm]
    simp only [Option.bind_some]
    exact ev_pos (by simp) (Ev.bind hr (ev_neg h0 (evnow _)))
  | false =>
   obtain ⟨x, p1, hx, hR1, x0, x1⟩ := did_f b p (m + 1) hb hp
   obtain ⟨r, hr, hR, _, _, _⟩ := pick_f b p1 3 m hb hR1
   by_cases h0 : r = 0
   ·refine ⟨2, x, 0, 0, s, p1 + 1, ?_, ⟨Or.inr (Or.inl rfl), by omega, i64_small (by omega) (by omega), i64_small (by omega) (by omega), i64_small (by omega) (by omega), hs⟩, hR⟩
    refine Ev.step (fun n => by simp only [spec_l72Op.j4]; rfl) ?_
    refine ev_neg (by decide) ?_
    rw [made_f id hi, hm]
    simp only [Option.bind_some]
    exact ev_neg (by decide) (Ev.bind hx (Ev.bind hr (ev_pos h0 (evnow _))))
   ·refine ⟨3, x, up, at_, ⟨#[]⟩, p1 + 1, ?_, ⟨Or.inr (Or.inr rfl), by omega, i64_small (by omega) (by omega), hu, ha, by decide⟩, hR⟩
    refine Ev.step (fun n => by simp only [spec_l72Op.j4]; rfl) ?_
    refine ev_neg (by decide) ?_
    rw [made_f id hi, hm]
    simp only [Option.bind_some]
    exact ev_neg (by decide) (Ev.bind hx (Ev.bind hr (ev_neg h0 (evnow _))))
theorem op_j3 (b : List Int) (hb : Bytes b) (w md id up at_ : Int) (s : ByteArray) (p : Int) (m : Nat) (hi : I64 id) (hu : I64 up) (ha : I64 at_) (hs : s.size ≤ 2000) (hp : Rd p (m + 4)) :
  ∃ (k i u a : Int) (s' : ByteArray) (p' : Int), Ev (fun n => spec_l72Op.j3 n w md id up at_ s b p) (k, i, u, a, s', p') ∧ OpD k i u a s' ∧ Rd p' m := by
 by_cases h6 : md < 6
 ·obtain ⟨r, hr, hR, _, _, _⟩ := pick_f b p 3 (m + 3) hb hp
  by_cases h0 : r = 0
  ·obtain ⟨k, i, u, a, s', p', h1, h2, h3⟩ := op_j4 b hb w md id up at_ s true (p + 1) m hi hu ha hs hR
   refine ⟨k, i, u, a, s', p', ?_, h2, h3⟩
   refine Ev.step (fun n => by simp only [spec_l72Op.j3]; rfl) ?_
   exact ev_pos h6 (Ev.bind hr (ev_pos h0 h1))
  ·obtain ⟨k, i, u, a, s', p', h1, h2, h3⟩ := op_j4 b hb w md id up at_ s (!(madeB id)) (p + 1) m hi hu ha hs hR
   refine ⟨k, i, u, a, s', p', ?_, h2, h3⟩
   refine Ev.step (fun n => by simp only [spec_l72Op.j3]; rfl) ?_
   rw [made_f id hi]
   simp only [Option.bind_some]
   exact ev_pos h6 (Ev.bind hr (ev_neg h0 h1))
 ·obtain ⟨k, i, u, a, s', p', h1, h2, h3⟩ := op_j4 b hb w md id up at_ s false p m hi hu ha hs (hp.less (by omega))
  refine ⟨k, i, u, a, s', p', ?_, h2, h3⟩
  refine Ev.step (fun n => by simp only [spec_l72Op.j3]; rfl) ?_
  exact ev_neg h6 h1
theorem op_j2 (b : List Int) (hb : Bytes b) (w md id up at_ : Int) (s : ByteArray) (p : Int) (m : Nat) (hi : I64 id) (hu : I64 up) (ha : I64 at_) (hs : s.size ≤ 2000) (hp : Rd p (m + 7)) :
  ∃ (k i u a : Int) (s' : ByteArray) (p' : Int), Ev (fun n => spec_l72Op.j2 n w md id up at_ s b p) (k, i, u, a, s', p') ∧ OpD k i u a s' ∧ Rd p' m := by
 obtain ⟨r, hr, hR, _, _, _⟩ := pick_f b p 6 (m + 6) hb hp
 by_cases h0 : r = 0
 ·obtain ⟨x, p1, hx, hR1, x0, x1⟩ := did_f b (p + 1) (m + 4) hb hR
  obtain ⟨k, i, u, a, s', p', h1, h2, h3⟩ := op_j3 b hb w md id x at_ s p1 m hi (i64_small (by omega) (by omega)) ha hs hR1
  refine ⟨k, i, u, a, s', p', ?_, h2, h3⟩
  refine Ev.step (fun n => by simp only [spec_l72Op.j2]; rfl) ?_
  exact Ev.bind hr (ev_pos h0 (Ev.bind hx h1))
 ·obtain ⟨k, i, u, a, s', p', h1, h2, h3⟩ := op_j3 b hb w md id up at_ s (p + 1) m hi hu ha hs (hR.less (by omega))
  refine ⟨k, i, u, a, s', p', ?_, h2, h3⟩
  refine Ev.step (fun n => by simp only [spec_l72Op.j2]; rfl) ?_
  exact Ev.bind hr (ev_neg h0 h1)
theorem op_j1 (b : List Int) (hb : Bytes b) (w md id up at_ : Int) (p : Int) (m : Nat) (hi : I64 id) (hu : I64 up) (ha : I64 at_) (hp : Rd p (m + 13)) :
  ∃ (k i u a : Int) (s' : ByteArray) (p' : Int), Ev (fun n => spec_l72Op.j1 n w md id up at_ b p) (k, i, u, a, s', p') ∧ OpD k i u a s' ∧ Rd p' m := by
 obtain ⟨s, p1, hx, hR1, hs⟩ := dtext_f b p (m + 7) hb hp
 have ht := text_f s (by omega)
 cases hB : textB s with
 | true =>
  rw [hB] at ht
  obtain ⟨k, i, u, a, s', p', h1, h2, h3⟩ := op_j2 b hb w md id up at_ s p1 m hi hu ha (by omega) hR1
  refine ⟨k, i, u, a, s', p', ?_, h2, h3⟩
  refine Ev.step (fun n => by simp only [spec_l72Op.j1]; rfl) ?_
  exact Ev.bind hx (Ev.bind ht (ev_pos rfl h1))
 | false =>
  rw [hB] at ht
  obtain ⟨k, i, u, a, s', p', h1, h2, h3⟩ := op_j2 b hb w md id up at_ ⟨#[97]⟩ p1 m hi hu ha (by decide) hR1
  refine ⟨k, i, u, a, s', p', ?_, h2, h3⟩
  refine Ev.step (fun n => by simp only [spec_l72Op.j1]; rfl) ?_
  exact Ev.bind hx (Ev.bind ht (ev_neg (by decide) h1))
theorem op_j0 (b : List Int) (hb : Bytes b) (w md id up at_ : Int) (ks : List Int) (f : Bool) (p : Int) (m : Nat) (hi : I64 id) (hu : I64 up) (ha : I64 at_) (hk : ∀ x ∈ ks, I64 x) (hk0 : f = true → 0 < ks.length) (hp : Rd p (m + 14)) :
  ∃ (k i u a : Int) (s' : ByteArray) (p' : Int), Ev (fun n => spec_l72Op.j0 n w md id up ks at_ f b p) (k, i, u, a, s', p') ∧ OpD k i u a s' ∧ Rd p' m := by
 cases f with
 | true =>
  have h0 := hk0 rfl
  obtain ⟨r, hr, hR, r0, r1, _⟩ := pick_f b p (ks.length : Int) (m + 13) hb hp
  have r1 := r1 (by omega)
  have hi' : r.toNat < ks.length := by omega
  have hrd : rd ks r = ks[r.toNat] := by
   unfold rd
   rw [List.getD_eq_getElem?_getD, List.getElem?_eq_getElem hi']
   rfl
  obtain ⟨k, i, u, a, s', p', h1, h2, h3⟩ := op_j1 b hb w md id up (ks[r.toNat]) (p + 1) m hi hu (hk _ (List.getElem_mem hi')) hR
  refine ⟨k, i, u, a, s', p', ?_, h2, h3⟩
  refine Ev.step (fun n => by simp only [spec_l72Op.j0]; rfl) ?_
  refine ev_pos (by simp) (Ev.bind hr (ev_pos r0 (ev_pos r1 ?_)))
  rw [hrd]
  exact h1
 | false =>
  obtain ⟨k, i, u, a, s', p', h1, h2, h3⟩ := op_j1 b hb w md id up at_ p m hi hu ha (hp.less (by omega))
  refine ⟨k, i, u, a, s', p', ?_, h2, h3⟩
  refine Ev.step (fun n => by simp only [spec_l72Op.j0]; rfl) ?_
  exact ev_neg (by decide) h1
theorem op72_f (b : List Int) (hb : Bytes b) (t : List S69) (B w md p : Int) (m : Nat) (hI : Inv t B) (hl : t.length ≤ 1000000) (hp : Rd p (m + 17)) :
  ∃ (k i u a : Int) (s' : ByteArray) (p' : Int), Ev (fun n => spec_l72Op.f n b p t w md) (k, i, u, a, s', p') ∧ OpD k i u a s' ∧ Rd p' m := by
 obtain ⟨x, hx, _⟩ := hI.found
 have h0 : 0 < t.length := List.length_pos_of_mem hx
 obtain ⟨r, hr, hR, r0, r1, _⟩ := pick_f b p (t.length : Int) (m + 16) hb hp
 have r1 := r1 (by omega)
 obtain ⟨q, hq, hQ, q0, q1, _⟩ := pick_f b (p + 1) (t.length : Int) (m + 15) hb hR
 have q1 := q1 (by omega)
 obtain ⟨rn, rfl⟩ : ∃ n : Nat, r = n := ⟨r.toNat, by omega⟩
 obtain ⟨qn, rfl⟩ : ∃ n : Nat, q = n := ⟨q.toNat, by omega⟩
 have hrn : rn < t.length := by omega
 have hqn : qn < t.length := by omega
 have ir := (hI.ids _ (List.getElem_mem hrn)).1
 have iq := (hI.ids _ (List.getElem_mem hqn)).1
 obtain ⟨ks, hks, hkl, hkk⟩ := kids_f t t[qn].f0 hl
 have hk64 : ∀ x ∈ ks, I64 x := fun x hx => by
  obtain ⟨_, _, _, j, hj, _, _, e, _⟩ := hkk x hx
  rw [← e]
  exact (hI.ids _ (List.getElem_mem hj)).1
 by_cases hz : (ks.length : Int) > 0
 ·obtain ⟨z, hz', hZ, _, _, _⟩ := pick_f b (p + 1 + 1) 2 (m + 14) hb hQ
  obtain ⟨k, i, u, a, s', p', h1, h2, h3⟩ := op_j0 b hb w md t[rn].f0 t[qn].f0 0 ks (z == 0) (p + 1 + 1 + 1) m ir iq (i64_small (by omega) (by omega)) hk64 (fun _ => by omega) hZ
  refine ⟨k, i, u, a, s', p', ?_, h2, h3⟩
  unfold spec_l72Op.f
  refine Ev.bind hr (ev_pos r0 (ev_pos r1 (Ev.bind hq (ev_pos q0 (ev_pos q1 ?_)))))
  simp only [rdR_get t rn hrn, rdR_get t qn hqn]
  exact Ev.bind hks (ev_pos hz (Ev.bind hz' h1))
 ·obtain ⟨k, i, u, a, s', p', h1, h2, h3⟩ := op_j0 b hb w md t[rn].f0 t[qn].f0 0 ks false (p + 1 + 1) m ir iq (i64_small (by omega) (by omega)) hk64 (fun h => by cases h) (hQ.less (by omega))
  refine ⟨k, i, u, a, s', p', ?_, h2, h3⟩
  unfold spec_l72Op.f
  refine Ev.bind hr (ev_pos r0 (ev_pos r1 (Ev.bind hq (ev_pos q0 (ev_pos q1 ?_)))))
  simp only [rdR_get t rn hrn, rdR_get t qn hqn]
  exact Ev.bind hks (ev_neg hz h1)
theorem wrap_I64 (x : Int) : I64 (wrap64 x) := by unfold wrap64; exact ⟨by omega, by omega⟩
def OpX (k i u a : Int) (s : ByteArray) : Prop := I64 k ∧ I64 i ∧ I64 u ∧ I64 a ∧ s.size ≤ 2000
theorem opx_j1 (b : List Int) (hb : Bytes b) (k i u a p : Int) (s : ByteArray) (m : Nat) (h : OpX k i u a s) (hp : Rd p (m + 2)) :
  ∃ (k' i' u' a' : Int) (s' : ByteArray) (p' : Int), Ev (fun n => spec_l71Op.j1 n b p k i u a s) (k', i', u', a', s', p') ∧ OpX k' i' u' a' s' ∧ Rd p' m := by
 obtain ⟨h1, h2, h3, h4, h5⟩ := h
 obtain ⟨r, hr, hR, r0, r1, _⟩ := pick_f b p 30 (m + 1) hb hp
 obtain ⟨x, hx, hX, x0, x1, _⟩ := pick_f b (p + 1) 5 m hb hR
 obtain ⟨y, hy, hY, y0, y1, _⟩ := pick_f b (p + 1) 50 m hb hR
 have x1 := x1 (by omega)
 have y1 := y1 (by omega)
 have ix : I64 x := i64_small (by omega) (by omega)
 have iy : I64 y := i64_small (by omega) (by omega)
 by_cases e0 : r = 0
 ·refine ⟨x, i, u, a, s, p + 1 + 1, ?_, ⟨ix, h2, h3, h4, h5⟩, hX⟩
  refine Ev.step (fun n => by simp only [spec_l71Op.j1]; rfl) ?_
  exact Ev.bind hr (ev_pos e0 (Ev.bind hx (evnow _)))
 ·by_cases e1 : r = 1
  ·refine ⟨k, y, u, a, s, p + 1 + 1, ?_, ⟨h1, iy, h3, h4, h5⟩, hX⟩
   refine Ev.step (fun n => by simp only [spec_l71Op.j1]; rfl) ?_
   exact Ev.bind hr (ev_neg e0 (ev_pos e1 (Ev.bind hy (evnow _))))
  ·by_cases e2 : r = 2
   ·refine ⟨k, i, y, a, s, p + 1 + 1, ?_, ⟨h1, h2, iy, h4, h5⟩, hX⟩
    refine Ev.step (fun n => by simp only [spec_l71Op.j1]; rfl) ?_
    exact Ev.bind hr (ev_neg e0 (ev_neg e1 (ev_pos e2 (Ev.bind hy (evnow _)))))
   ·by_cases e3 : r = 3
    ·refine ⟨k, i, u, y, s, p + 1 + 1, ?_, ⟨h1, h2, h3, iy, h5⟩, hX⟩
     refine Ev.step (fun n => by simp only [spec_l71Op.j1]; rfl) ?_
     exact Ev.bind hr (ev_neg e0 (ev_neg e1 (ev_neg e2 (ev_pos e3 (Ev.bind hy (evnow _))))))
    ·refine ⟨k, i, u, a, s, p + 1, ?_, ⟨h1, h2, h3, h4, h5⟩, hR.less (by omega)⟩
     refine Ev.step (fun n => by simp only [spec_l71Op.j1]; rfl) ?_
     exact Ev.bind hr (ev_neg e0 (ev_neg e1 (ev_neg e2 (ev_neg e3 (evnow _)))))
theorem opx_j0 (b : List Int) (hb : Bytes b) (up at_ w : Int) (f : Bool) (k i u a p : Int) (s : ByteArray) (m : Nat) (h : OpX k i u a s) (hu : I64 up) (ha : I64 at_) (hp : Rd p (m + 2)) :
  ∃ (k' i' u' a' : Int) (s' : ByteArray) (p' : Int), Ev (fun n => spec_l71Op.j0 n up at_ w f b p k i u a s) (k', i', u', a', s', p') ∧ OpX k' i' u' a' s' ∧ Rd p' m := by
 obtain ⟨h1, h2, h3, h4, h5⟩ := h
 have j1 : I64 1 := i64_small (by omega) (by omega)
 have j3 : I64 3 := i64_small (by omega) (by omega)
 cases f with
 | true =>
  obtain ⟨k', i', u', a', s', p', g1, g2, g3⟩ := opx_j1 b hb 1 i up at_ p s m ⟨j1, h2, hu, ha, h5⟩ hp
  refine ⟨k', i', u', a', s', p', ?_, g2, g3⟩
  refine Ev.step (fun n => by simp only [spec_l71Op.j0]; rfl) ?_
  exact ev_pos (by simp) g1
 | false =>
  obtain ⟨k', i', u', a', s', p', g1, g2, g3⟩ := opx_j1 b hb 3 i up at_ p ⟨#[]⟩ m ⟨j3, h2, hu, ha, by decide⟩ hp
  by_cases w2 : w = 2
  ·refine ⟨k', i', u', a', s', p', ?_, g2, g3⟩
   refine Ev.step (fun n => by simp only [spec_l71Op.j0]; rfl) ?_
   exact ev_neg (by decide) (ev_pos w2 g1)
  ·by_cases w3 : w = 3
   ·refine ⟨k', i', u', a', s', p', ?_, g2, g3⟩
    refine Ev.step (fun n => by simp only [spec_l71Op.j0]; rfl) ?_
    exact ev_neg (by decide) (ev_neg w2 (ev_pos w3 g1))
   ·obtain ⟨k', i', u', a', s', p', g1, g2, g3⟩ := opx_j1 b hb k i u a p s m ⟨h1, h2, h3, h4, h5⟩ hp
    refine ⟨k', i', u', a', s', p', ?_, g2, g3⟩
    refine Ev.step (fun n => by simp only [spec_l71Op.j0]; rfl) ?_
    exact ev_neg (by decide) (ev_neg w2 (ev_neg w3 g1))
theorem rd_mem (l : List Int) (r : Int) (h0 : 0 ≤ r) (h1 : r < l.length) : rd l r ∈ l := by
 have hi : r.toNat < l.length := by omega
 unfold rd
 rw [List.getD_eq_getElem?_getD, List.getElem?_eq_getElem hi]
 exact List.getElem_mem hi
theorem op71_f (b : List Int) (hb : Bytes b) (p : Int) (m : Nat) (hp : Rd p (m + 17)) :
  ∃ (k i u a : Int) (s : ByteArray) (p' : Int), Ev (fun n => spec_l71Op.f n b p) (k, i, u, a, s, p') ∧ OpX k i u a s ∧ Rd p' m := by
 obtain ⟨i, p1, hi, R1, i0, i1⟩ := did_f b p (m + 15) hb hp
 obtain ⟨s, p2, hs, R2, s0⟩ := dtext_f b p1 (m + 9) hb R1
 obtain ⟨u, p3, hu, R3, u0, u1⟩ := did_f b p2 (m + 7) hb R2
 obtain ⟨x, hx, R4, x0, x1, _⟩ := pick_f b p3 5 (m + 6) hb R3
 have x1 := x1 (by omega)
 obtain ⟨v, p5, hv, R5, v0, v1⟩ := did_f b (p3 + 1) (m + 4) hb R4
 obtain ⟨y, hy, R6, y0, y1, _⟩ := pick_f b p5 2 (m + 3) hb R5
 have y1 := y1 (by omega)
 obtain ⟨z, hz, R7, z0, z1, _⟩ := pick_f b (p5 + 1) 5 (m + 2) hb R6
 have iu : I64 (rd ([1, 1, u, 2, 3] : List Int) x) := by
  have := rd_mem ([1, 1, u, 2, 3] : List Int) x x0 (by simpa using x1)
  simp only [List.mem_cons, List.not_mem_nil, or_false] at this
  exact i64_small (by omega) (by omega)
 have ia : I64 (rd ([0, v] : List Int) y) := by
  have := rd_mem ([0, v] : List Int) y y0 (by simpa using y1)
  simp only [List.mem_cons, List.not_mem_nil, or_false] at this
  exact i64_small (by omega) (by omega)
 have hX : OpX 2 i 0 0 s := ⟨i64_small (by omega) (by omega), i64_small (by omega) (by omega), i64_small (by omega) (by omega), i64_small (by omega) (by omega), by omega⟩
 unfold spec_l71Op.f
 by_cases e0 : z = 0
 ·obtain ⟨k', i', u', a', s', p', g1, g2, g3⟩ := opx_j0 b hb _ _ z (z == 0) 2 i 0 0 (p5 + 1 + 1) s m hX iu ia R7
  refine ⟨k', i', u', a', s', p', ?_, g2, g3⟩
  refine Ev.bind hi (Ev.bind hs (Ev.bind hu ?_))
  simp only [Option.bind_some]
  refine Ev.bind hx (ev_pos x0 (ev_pos (by simpa using x1) (Ev.bind hv ?_)))
  refine Ev.bind hy (ev_pos y0 (ev_pos (by simpa using y1) (Ev.bind hz (ev_pos e0 g1))))
 ·obtain ⟨k', i', u', a', s', p', g1, g2, g3⟩ := opx_j0 b hb _ _ z (z == 1) 2 i 0 0 (p5 + 1 + 1) s m hX iu ia R7
  refine ⟨k', i', u', a', s', p', ?_, g2, g3⟩
  refine Ev.bind hi (Ev.bind hs (Ev.bind hu ?_))
  simp only [Option.bind_some]
  refine Ev.bind hx (ev_pos x0 (ev_pos (by simpa using x1) (Ev.bind hv ?_)))
  refine Ev.bind hy (ev_pos y0 (ev_pos (by simpa using y1) (Ev.bind hz (ev_neg e0 g1))))
theorem wfL_snoc {l : List S44} (h : wfL l) {e : S44} (he : wfE e) : wfL (l ++ [e]) := by
 intro x hx
 rcases List.mem_append.1 hx with hx | hx
 ·exact h x hx
 ·rw [List.mem_singleton.1 hx]; exact he
theorem log_end (b : List Int) (hb : Bytes b) (l : List S44) (t : List S69) (md : List Int) (p : Int) (m : Nat) (hw : wfL l) (hl : l.length ≤ 20) (hp : Rd p (m + 20)) :
  ∃ (l' : List S44) (p' : Int), Ev (fun k => spec_l72Log.l0 k l t md 0 b p) (l', p') ∧ wfL l' ∧ l'.length ≤ 21 ∧ Rd p' m := by
 obtain ⟨r, hr, hR, r0, r1, _⟩ := pick_f b p 24 (m + 19) hb hp
 by_cases e0 : r = 0
 ·obtain ⟨x, hx, hX, x0, x1, _⟩ := pick_f b (p + 1) 3 (m + 18) hb hR
  obtain ⟨y, hy, hY, y0, y1, _⟩ := pick_f b (p + 1 + 1) 4 (m + 17) hb hX
  obtain ⟨k, i, u, a, s, p', h1, ⟨g1, g2, g3, g4, g5⟩, h3⟩ := op71_f b hb (p + 1 + 1 + 1) m hY
  refine ⟨l ++ [⟨wrap64 (1 + x), wrap64 (1 + y), ⟨k, i, u, a, s⟩⟩], p', ?_, wfL_snoc hw ⟨wrap_I64 _, wrap_I64 _, g1, g2, g3, g4, by show s.size ≤ _; omega⟩, by simp; omega, h3⟩
  refine Ev.step (fun n => by simp only [spec_l72Log.l0]; rfl) ?_
  exact ev_neg (by omega) (Ev.bind hr (ev_pos e0 (Ev.bind hx (Ev.bind hy (Ev.bind h1 (ev_pos (by omega) (evnow _)))))))
 ·by_cases e1 : r = 1
  ·by_cases hz : (l.length : Int) > 0
   ·obtain ⟨x, hx, hX, x0, x1, _⟩ := pick_f b (p + 1) (l.length : Int) (m + 18) hb hR
    obtain ⟨y, hy, hY, y0, y1, _⟩ := pick_f b (p + 1 + 1) 4 (m + 17) hb hX
    have x1 := x1 (by omega)
    have y1 := y1 (by omega)
    obtain ⟨j, rfl⟩ : ∃ n : Nat, x = n := ⟨x.toNat, by omega⟩
    have hj : j < l.length := by omega
    have hwj := hw _ (List.getElem_mem hj)
    refine ⟨l.set j ⟨l[j].f0, y, ⟨l[j].f2.f0, l[j].f2.f1, l[j].f2.f2, l[j].f2.f3, l[j].f2.f4⟩⟩, p + 1 + 1 + 1, ?_, ?_, by rw [List.length_set]; omega, hY.less (by omega)⟩
    ·refine Ev.step (fun n => by simp only [spec_l72Log.l0]; rfl) ?_
     refine ev_neg (by omega) (Ev.bind hr (ev_neg e0 (ev_pos e1 (ev_pos hz (Ev.bind hx (Ev.bind hy (ev_pos x0 (ev_pos x1 ?_))))))))
     simp only [rdE_get l j hj, Int.toNat_natCast]
     exact evnow _
    ·intro e he
     rcases List.mem_or_eq_of_mem_set he with he | rfl
     ·exact hw e he
     ·obtain ⟨q0, q1, q2, q3, q4, q5, q6⟩ := hwj
      have iy : I64 y := i64_small (by omega) (by omega)
      exact ⟨q0, iy, q2, q3, q4, q5, q6⟩
   ·refine ⟨l, p + 1, ?_, hw, by omega, hR.less (by omega)⟩
    refine Ev.step (fun n => by simp only [spec_l72Log.l0]; rfl) ?_
    exact ev_neg (by omega) (Ev.bind hr (ev_neg e0 (ev_pos e1 (ev_neg hz (evnow _)))))
  ·refine ⟨l, p + 1, ?_, hw, by omega, hR.less (by omega)⟩
   refine Ev.step (fun n => by simp only [spec_l72Log.l0]; rfl) ?_
   exact ev_neg (by omega) (Ev.bind hr (ev_neg e0 (ev_neg e1 (evnow _))))
theorem log_l0 (b : List Int) (hb : Bytes b) : ∀ (n : Nat) (l : List S44) (t : List S69) (B : Nat) (md : List Int) (p : Int) (m : Nat), wfL l → l.length + n ≤ 20 → Inv t B → (B + 1) * 2 ^ n ≤ 16384 → t.length + n ≤ 100 → md.length = 3 → Rd p (m + 18 * n + 20) →
  ∃ (l' : List S44) (p' : Int), Ev (fun k => spec_l72Log.l0 k l t md n b p) (l', p') ∧ wfL l' ∧ l'.length ≤ 21 ∧ Rd p' m
 | 0, l, t, B, md, p, m, hw, hl, hI, hB, ht, hm, hp => log_end b hb l t md p m hw (by omega) (hp.less (by omega))
 | n + 1, l, t, B, md, p, m, hw, hl, hI, hB, ht, hm, hp => by
  obtain ⟨r, hr, hR, r0, r1, _⟩ := pick_f b p 3 (m + 18 * n + 37) hb (hp.less (by omega))
  have r1 := r1 (by omega)
  have w1 : wrap64 (1 + r) = 1 + r := wrap_id _ (by omega) (by omega)
  have w2 : wrap64 (1 + r - 1) = r := by rw [wrap_id _ (by omega) (by omega)]; omega
  obtain ⟨k, i, u, a, s, p', h1, ⟨hk, hi3, g2, g3, g4, g5⟩, h3⟩ := op72_f b hb t B (1 + r) (rd md r) (p + 1) (m + 18 * n + 20) hI (by omega) hR
  have hB2 : B + 1 ≤ 16384 := Nat.le_trans (Nat.le_mul_of_pos_right _ (Nat.two_pow_pos _)) hB
  obtain ⟨t', ht', hI', hlt⟩ := do_f t B k i u a s hI (by omega) (by omega) hk hi3 g2 (by omega) g5
  have hI2 : Inv t' ((2 * B + 1 : Nat) : Int) := hI'.more (by omega)
  have hB3 : (2 * B + 1 + 1) * 2 ^ n ≤ 16384 := by
   have e : (2 * B + 1 + 1) * 2 ^ n = (B + 1) * 2 ^ (n + 1) := by rw [Nat.pow_succ, show 2 * B + 1 + 1 = (B + 1) * 2 by omega, Nat.mul_assoc, Nat.mul_comm 2]
   rw [e]; exact hB
  have hs := seq_f l (1 + r) (by omega)
  have hkx : I64 k := by rcases hk with rfl | rfl | rfl <;> exact i64_small (by omega) (by omega)
  have ir : I64 (1 + r) := i64_small (by omega) (by omega)
  have hwe : wfE (⟨1 + r, wrap64 (cntE l (1 + r) + 1), ⟨k, i, u, a, s⟩⟩ : S44) := ⟨ir, wrap_I64 _, hkx, g2, g3, g4, by show s.size ≤ _; omega⟩
  have wn : wrap64 (((n + 1 : Nat) : Int) - 1) = n := by rw [wrap_id _ (by omega) (by omega)]; omega
  by_cases e1 : k = 1
  ·obtain ⟨l', q, f1, f2, f3, f4⟩ := log_l0 b hb n (l ++ [⟨1 + r, wrap64 (cntE l (1 + r) + 1), ⟨k, i, u, a, s⟩⟩]) t' (2 * B + 1) (md.set r.toNat (wrap64 (rd md r + 1))) p' m (wfL_snoc hw hwe) (by simp; omega) hI2 hB3 (by omega) (by rw [List.length_set]; exact hm) h3
   refine ⟨l', q, ?_, f2, f3, f4⟩
   refine Ev.step (fun n => by simp only [spec_l72Log.l0]; rfl) ?_
   refine ev_pos (by omega) (Ev.bind hr ?_)
   simp only [w1, w2]
   refine ev_pos r0 (ev_pos (by omega) (Ev.bind h1 (ev_pos e1 (Ev.bind hs (ev_pos (by omega) (Ev.bind ht' ?_))))))
   rw [wn]
   exact f1
  ·obtain ⟨l', q, f1, f2, f3, f4⟩ := log_l0 b hb n (l ++ [⟨1 + r, wrap64 (cntE l (1 + r) + 1), ⟨k, i, u, a, s⟩⟩]) t' (2 * B + 1) md p' m (wfL_snoc hw hwe) (by simp; omega) hI2 hB3 (by omega) hm h3
   refine ⟨l', q, ?_, f2, f3, f4⟩
   refine Ev.step (fun n => by simp only [spec_l72Log.l0]; rfl) ?_
   refine ev_pos (by omega) (Ev.bind hr ?_)
   simp only [w1, w2]
   refine ev_pos r0 (ev_pos (by omega) (Ev.bind h1 (ev_neg e1 (Ev.bind hs (ev_pos (by omega) (Ev.bind ht' ?_))))))
   rw [wn]
   exact f1
theorem log72_f (b : List Int) (hb : Bytes b) (p : Int) (m : Nat) (hp : Rd p (m + 300)) : ∃ (l : List S44) (p' : Int), Ev (fun k => spec_l72Log.f k b p) (l, p') ∧ wfL l ∧ l.length ≤ 21 ∧ Rd p' m := by
 obtain ⟨r, hr, hR, r0, r1, _⟩ := pick_f b p 14 (m + 299) hb hp
 have r1 := r1 (by omega)
 obtain ⟨n, rfl⟩ : ∃ n : Nat, r = n := ⟨r.toNat, by omega⟩
 have hI : Inv ([⟨1, 0, ⟨#[]⟩⟩, ⟨2, 0, ⟨#[]⟩⟩, ⟨3, 0, ⟨#[]⟩⟩] : List S69) ((0 : Nat) : Int) := by
  refine ⟨fun x hx => ?_, fun x hx h3 => ?_, ⟨⟨3, 0, ⟨#[]⟩⟩, by simp, rfl⟩, fun x hx => ?_⟩
  all_goals simp only [List.mem_cons, List.not_mem_nil, or_false] at hx
  ·rcases hx with rfl | rfl | rfl <;> exact ⟨Int.le_refl _, Int.le_refl _⟩
  ·rcases hx with rfl | rfl | rfl <;> rfl
  ·rcases hx with rfl | rfl | rfl <;> exact ⟨i64_small (by decide) (by decide), by decide⟩
 have hpow : (0 + 1) * 2 ^ n ≤ 16384 := by
  have : 2 ^ n ≤ 2 ^ 14 := Nat.pow_le_pow_right (by decide) (by omega)
  omega
 obtain ⟨l, p', h1, h2, h3, h4⟩ := log_l0 b hb n [] _ 0 [0, 0, 0] (p + 1) m (fun e he => by cases he) (by simp; omega) hI hpow (by simp; omega) rfl (hR.less (by omega))
 refine ⟨l, p', ?_, h2, h3, h4⟩
 unfold spec_l72Log.f spec_TreeNew.f
 simp only [Option.bind_some]
 exact Ev.bind hr h1
theorem open_f (code : List Int) (h : ∀ x ∈ code, 0 ≤ x ∧ x ≤ 255) : ∃ b : List Int, spec_l6Open.f code = some (b, 0) ∧ Bytes b := by
 unfold spec_l6Open.f
 by_cases hl : (code.length : Int) > 2000
 ·refine ⟨code.take 2000, by rw [if_pos hl, if_pos (by omega)], by rw [List.length_take]; omega, fun x hx => h x (List.mem_of_mem_take hx)⟩
 ·exact ⟨code, by rw [if_neg hl], by omega, h⟩
theorem byte_of {x : Int} (h : (Lit.int .u8 x).wf = true) : 0 ≤ x ∧ x ≤ 255 := by
 simp only [Lit.wf, Bool.and_eq_true, decide_eq_true_eq] at h
 exact ⟨h.1, h.2⟩
theorem drawLogTree_f (code : List Int) (h : ∀ x ∈ code, (Lit.int .u8 x).wf = true) : ∃ l : List S44, Ev (fun k => spec_DrawLogTree.f k code) l ∧ wfL l ∧ l.length ≤ 22 := by
 obtain ⟨b, hb, hB⟩ := open_f code (fun x hx => byte_of (h x hx))
 obtain ⟨l, p, h1, h2, h3, h4⟩ := log72_f b hB 0 30 ⟨by omega, by omega⟩
 refine ⟨l, ?_, h2, by omega⟩
 unfold spec_DrawLogTree.f
 rw [hb]
 simp only [Option.bind_some]
 exact Ev.bind h1 (evnow _)
end Go.Proofs.YtdpklbomhdpimaaDoor.PL
namespace Go.Proofs.YtdpklbomhdpimaaDoor.FP
open Go.Proofs.YtdpklbomhdpimaaDoor.P
def dep (x : Nat) (d : Nat) : Fo → Nat
 | .nil => d
 | .nd j _ k n => if j = x then d else if x ∈ k.ids then dep x (d + 1) k else dep x d n
theorem setF_id (x : Nat) (t : ByteArray) : ∀ {F : Fo}, x ∉ F.ids → setF x t F = F
 | .nil, _ => rfl
 | .nd j u k n, h => by
  simp only [Fo.ids, List.mem_cons, List.mem_append, not_or] at h
  rw [setF, if_neg (fun e => h.1 e.symm), setF_id x t h.2.1, setF_id x t h.2.2]
theorem fl_ids : ∀ (F : Fo) (d : Nat) {r : S69}, r ∈ F.fl d → ∃ i ∈ F.ids, r.f0 = (i : Int)
 | .nil, d, r, h => by simp [Fo.fl] at h
 | .nd j t k n, d, r, h => by
  simp only [Fo.fl, List.mem_cons, List.mem_append] at h
  rcases h with rfl | h | h
  ·exact ⟨j, by simp [Fo.ids], rfl⟩
  ·obtain ⟨i, hi, e⟩ := fl_ids k (d + 1) h; exact ⟨i, by simp [Fo.ids, hi], e⟩
  ·obtain ⟨i, hi, e⟩ := fl_ids n d h; exact ⟨i, by simp [Fo.ids, hi], e⟩
theorem fl_map : ∀ (F : Fo) (d : Nat), (F.fl d).map (·.f0) = F.ids.map Int.ofNat
 | .nil, d => rfl
 | .nd j t k n, d => by simp [Fo.fl, Fo.ids, fl_map k, fl_map n]
theorem fl_len (F : Fo) (d : Nat) : (F.fl d).length = F.ids.length := by
 have := congrArg List.length (fl_map F d)
 simpa using this
structure Spot (x d : Nat) (G : Fo) (pre post : List S69) : Prop where
 all : G.fl d = pre ++ (⟨(x : Int), (dep x d G : Int), txtF x G⟩ :: ((sub x G).fl (dep x d G + 1) ++ post))
 out : ∀ r ∈ pre, r.f0 ≠ (x : Int)
 high : post = [] ∨ ∃ r rest, post = r :: rest ∧ r.f1 ≤ (dep x d G : Int)
 ge : d ≤ dep x d G
 del : (del x G).fl d = pre ++ post
 first : ∀ i t s, (insFirst x i t s G).fl d = pre ++ (⟨(x : Int), (dep x d G : Int), txtF x G⟩ :: (⟨(i : Int), ((dep x d G + 1 : Nat) : Int), t⟩ :: (s.fl (dep x d G + 2) ++ ((sub x G).fl (dep x d G + 1) ++ post))))
 after : ∀ i t s, (insAfter x i t s G).fl d = pre ++ (⟨(x : Int), (dep x d G : Int), txtF x G⟩ :: ((sub x G).fl (dep x d G + 1) ++ (⟨(i : Int), (dep x d G : Int), t⟩ :: (s.fl (dep x d G + 1) ++ post))))
 text : ∀ t', (setF x t' G).fl d = pre ++ (⟨(x : Int), (dep x d G : Int), t'⟩ :: ((sub x G).fl (dep x d G + 1) ++ post))
theorem spot (x : Nat) : ∀ (G : Fo) (d : Nat), G.ids.Nodup → x ∈ G.ids → ∃ pre post, Spot x d G pre post
 | .nil, d, _, hx => by simp [Fo.ids] at hx
 | .nd j u k n, d, hn, hx => by
  obtain ⟨n1, n2, n3, n4, n5⟩ := nodup_nd hn
  simp only [Fo.ids, List.mem_cons, List.mem_append] at hx
  by_cases e : j = x
  ·subst e
   refine ⟨[], n.fl d, ?_, by simp, ?_, ?_, ?_, fun i t s => ?_, fun i t s => ?_, fun t' => ?_⟩
   ·simp [Fo.fl, dep, txtF, sub]
   ·rcases fl_head n d with h | ⟨r, rest, h, h2⟩
    ·exact Or.inl h
    ·refine Or.inr ⟨r, rest, h, ?_⟩; simp [dep, h2]
   ·simp [dep]
   ·simp [FP.del]
   ·simp [insFirst, Fo.fl, dep, txtF, sub]
   ·simp [insAfter, Fo.fl, dep, txtF, sub]
   ·simp [setF, Fo.fl, dep, sub, setF_id j t' n1, setF_id j t' n2]
  ·have e' : x ≠ j := fun g => e g.symm
   by_cases hk : x ∈ k.ids
   ·have hxn : x ∉ n.ids := n5 x hk
    obtain ⟨pre, post, s⟩ := spot x k (d + 1) n3 hk
    have hd : dep x d (.nd j u k n) = dep x (d + 1) k := by rw [dep, if_neg e, if_pos hk]
    have ht : txtF x (.nd j u k n) = txtF x k := by rw [txtF, if_neg e, if_pos hk]
    have hs : sub x (.nd j u k n) = sub x k := by rw [sub, if_neg e, if_pos hk]
    refine ⟨⟨(j : Int), (d : Int), u⟩ :: pre, post ++ n.fl d, ?_, ?_, ?_, ?_, ?_, fun i t s' => ?_, fun i t s' => ?_, fun t' => ?_⟩
    ·rw [hd, ht, hs, Fo.fl, s.all]; simp
    ·intro r hr
     rcases List.mem_cons.1 hr with rfl | hr
     ·show (j : Int) ≠ (x : Int); omega
     ·exact s.out r hr
    ·rw [hd]
     have hge := s.ge
     rcases s.high with h | ⟨r, rest, h, h2⟩
     ·rw [h, List.nil_append]
      rcases fl_head n d with h | ⟨r, rest, h, h2⟩
      ·exact Or.inl h
      ·exact Or.inr ⟨r, rest, h, by omega⟩
     ·exact Or.inr ⟨r, rest ++ n.fl d, by rw [h]; rfl, h2⟩
    ·rw [hd]; have := s.ge; omega
    ·rw [FP.del, if_neg e, Fo.fl, s.del, del_id x hxn]; simp
    ·rw [hd, ht, hs, insFirst, if_neg e, Fo.fl, s.first, insFirst_id x i t s' hxn]; simp
    ·rw [hd, ht, hs, insAfter, if_neg e, Fo.fl, s.after, insAfter_id x i t s' hxn]; simp
    ·rw [hd, hs, setF, if_neg e, Fo.fl, s.text, setF_id x t' hxn]; simp
   ·have hxn : x ∈ n.ids := by rcases hx with g | g | g; exact absurd g e'; exact absurd g hk; exact g
    obtain ⟨pre, post, s⟩ := spot x n d n4 hxn
    have hd : dep x d (.nd j u k n) = dep x d n := by rw [dep, if_neg e, if_neg hk]
    have ht : txtF x (.nd j u k n) = txtF x n := by rw [txtF, if_neg e, if_neg hk]
    have hs : sub x (.nd j u k n) = sub x n := by rw [sub, if_neg e, if_neg hk]
    refine ⟨⟨(j : Int), (d : Int), u⟩ :: (k.fl (d + 1) ++ pre), post, ?_, ?_, ?_, ?_, ?_, fun i t s' => ?_, fun i t s' => ?_, fun t' => ?_⟩
    ·rw [hd, ht, hs, Fo.fl, s.all]; simp
    ·intro r hr
     rcases List.mem_cons.1 hr with rfl | hr
     ·show (j : Int) ≠ (x : Int); omega
     ·rcases List.mem_append.1 hr with hr | hr
      ·obtain ⟨i, hi, e2⟩ := fl_ids k (d + 1) hr
       rw [e2]
       intro e3
       exact hk ((show i = x by omega) ▸ hi)
      ·exact s.out r hr
    ·rw [hd]; exact s.high
    ·rw [hd]; exact s.ge
    ·rw [FP.del, if_neg e, Fo.fl, s.del, del_id x hk]; simp
    ·rw [hd, ht, hs, insFirst, if_neg e, Fo.fl, s.first, insFirst_id x i t s' hk]; simp
    ·rw [hd, ht, hs, insAfter, if_neg e, Fo.fl, s.after, insAfter_id x i t s' hk]; simp
    ·rw [hd, hs, setF, if_neg e, Fo.fl, s.text, setF_id x t' hk]; simp
theorem dep_par (x : Nat) : ∀ (G : Fo) (d up : Nat), G.ids.Nodup → x ∈ G.ids → (x ∈ G.tops ∧ dep x d G = d ∧ par x up G = up) ∨ (par x up G ∈ G.ids ∧ dep x d G = dep (par x up G) d G + 1)
 | .nil, d, up, _, hx => by simp [Fo.ids] at hx
 | .nd j u k n, d, up, hn, hx => by
  obtain ⟨n1, n2, n3, n4, n5⟩ := nodup_nd hn
  simp only [Fo.ids, List.mem_cons, List.mem_append] at hx
  by_cases e : j = x
  ·left
   exact ⟨by simp [Fo.tops, e], by rw [dep, if_pos e], by rw [par, if_pos e]⟩
  ·by_cases hk : x ∈ k.ids
   ·right
    have hp : par x up (.nd j u k n) = par x j k := by rw [par, if_neg e, if_pos hk]
    have hd : dep x d (.nd j u k n) = dep x (d + 1) k := by rw [dep, if_neg e, if_pos hk]
    rw [hp, hd]
    rcases dep_par x k (d + 1) j n3 hk with ⟨_, h2, h3⟩ | ⟨h2, h3⟩
    ·rw [h3, h2]
     refine ⟨by simp [Fo.ids], ?_⟩
     rw [dep, if_pos rfl]
    ·refine ⟨by simp [Fo.ids, h2], ?_⟩
     rw [h3, dep, if_neg (fun (g : j = par x j k) => n1 (by rw [g]; exact h2)), if_pos h2]
   ·have hxn : x ∈ n.ids := by rcases hx with g | g | g; exact absurd g.symm e; exact absurd g hk; exact g
    have hp : par x up (.nd j u k n) = par x up n := by rw [par, if_neg e, if_neg hk]
    have hd : dep x d (.nd j u k n) = dep x d n := by rw [dep, if_neg e, if_neg hk]
    rw [hp, hd]
    rcases dep_par x n d up n4 hxn with ⟨h1, h2, h3⟩ | ⟨h2, h3⟩
    ·exact Or.inl ⟨by simp [Fo.tops, h1], h2, h3⟩
    ·refine Or.inr ⟨by simp [Fo.ids, h2], ?_⟩
     rw [h3, dep, if_neg (fun (g : j = par x up n) => n2 (by rw [g]; exact h2)), if_neg (fun g => n5 _ g h2)]
theorem del_ids_sub (i : Nat) : ∀ {F : Fo} {y : Nat}, y ∈ (del i F).ids → y ∈ F.ids
 | .nil, y, h => h
 | .nd j t k n, y, h => by
  rw [FP.del] at h
  split at h
  ·simp [Fo.ids, h]
  ·simp only [Fo.ids, List.mem_cons, List.mem_append] at h ⊢
   exact h.imp id (Or.imp (del_ids_sub i) (del_ids_sub i))
theorem par_del (i a : Nat) : ∀ (G : Fo) (up : Nat), G.ids.Nodup → a ∈ (del i G).ids → par a up (del i G) = par a up G
 | .nil, up, _, h => rfl
 | .nd j u k n, up, hn, h => by
  obtain ⟨n1, n2, n3, n4, n5⟩ := nodup_nd hn
  rw [FP.del] at h ⊢
  by_cases e : j = i
  ·rw [if_pos e] at h ⊢
   rw [par, if_neg (fun (g : j = a) => n2 (by rw [g]; exact h)), if_neg (fun g => n5 a g h)]
  ·rw [if_neg e] at h ⊢
   simp only [Fo.ids, List.mem_cons, List.mem_append] at h
   rw [par, par]
   by_cases e2 : j = a
   ·rw [if_pos e2, if_pos e2]
   ·rw [if_neg e2, if_neg e2]
    by_cases hk : a ∈ (FP.del i k).ids
    ·rw [if_pos hk, if_pos (del_ids_sub i hk)]; exact par_del i a k j n3 hk
    ·have hn' : a ∈ (FP.del i n).ids := by rcases h with g | g | g; exact absurd g.symm e2; exact absurd g hk; exact g
     rw [if_neg hk, if_neg (fun g => n5 a g (del_ids_sub i hn'))]; exact par_del i a n up n4 hn'
theorem rep_ex : ∀ (G : Fo) (up : Nat), G.ids.Nodup → (∀ x ∈ G.ids, x ≠ 0) → ∃ h, Rep h up G
 | .nil, up, _, _ => ⟨fun _ => ⟨ByteArray.empty, 0, 0, 0⟩, trivial⟩
 | .nd j u k n, up, hn, h0 => by
  obtain ⟨n1, n2, n3, n4, n5⟩ := nodup_nd hn
  obtain ⟨hk, rk⟩ := rep_ex k j n3 fun x hx => h0 x (by simp [Fo.ids, hx])
  obtain ⟨hm, rm⟩ := rep_ex n up n4 fun x hx => h0 x (by simp [Fo.ids, hx])
  refine ⟨fun x => if x = j then ⟨u, up, k.hd, n.hd⟩ else if x ∈ k.ids then hk x else hm x, h0 j (by simp [Fo.ids]), if_pos rfl, rk.ext fun x hx => ?_, rm.ext fun x hx => ?_⟩
  ·rw [if_neg (fun (e : x = j) => n1 (e ▸ hx)), if_pos hx]
  ·rw [if_neg (fun (e : x = j) => n2 (e ▸ hx)), if_neg (fun g => n5 x g hx)]
theorem reptop_ex : ∀ (G : Fo), G.ids.Nodup → (∀ x ∈ G.ids, x ≠ 0) → ∃ h, RepTop h G
 | .nil, _, _ => ⟨fun _ => ⟨ByteArray.empty, 0, 0, 0⟩, trivial⟩
 | .nd j u k n, hn, h0 => by
  obtain ⟨n1, n2, n3, n4, n5⟩ := nodup_nd hn
  obtain ⟨hk, rk⟩ := rep_ex k j n3 fun x hx => h0 x (by simp [Fo.ids, hx])
  obtain ⟨hm, rm⟩ := reptop_ex n n4 fun x hx => h0 x (by simp [Fo.ids, hx])
  refine ⟨fun x => if x = j then ⟨u, 0, k.hd, 0⟩ else if x ∈ k.ids then hk x else hm x, h0 j (by simp [Fo.ids]), if_pos rfl, rk.ext fun x hx => ?_, rm.ext fun x hx => ?_⟩
  ·rw [if_neg (fun (e : x = j) => n1 (e ▸ hx)), if_pos hx]
  ·rw [if_neg (fun (e : x = j) => n2 (e ▸ hx)), if_neg (fun g => n5 x g hx)]
theorem kids_par {G : Fo} (hn : G.ids.Nodup) (h0 : ∀ x ∈ G.ids, x ≠ 0) {u x : Nat} (hu : u ∈ G.ids) : x ∈ (sub u G).tops ↔ x ∈ G.ids ∧ par x 0 G = u := by
 obtain ⟨h, hr⟩ := reptop_ex G hn h0
 obtain ⟨r1, _⟩ := reptop_sub hr hn hu
 constructor
 ·intro hx
  have hxs := tops_ids hx
  have hxG := sub_ids u hxs
  refine ⟨hxG, ?_⟩
  rw [← reptop_par hr hn hxG]
  rcases rep_at r1 (sub_nodup u hn) hxs with ⟨_, g⟩ | ⟨g, _⟩
  ·exact g
  ·exact absurd hx g
 ·rintro ⟨hxG, hp⟩
  have ht := par_top h hr hn hxG (by rw [hp]; exact h0 u hu)
  have := (sibT_pv hr hn hxG ht).2
  rwa [reptop_par hr hn hxG, hp] at this
theorem mem_insFirst (p i : Nat) (t : ByteArray) (s : Fo) (y : Nat) : ∀ (F : Fo), y ∈ (insFirst p i t s F).ids ↔ y ∈ F.ids ∨ (p ∈ F.ids ∧ (y = i ∨ y ∈ s.ids))
 | .nil => by simp [insFirst, Fo.ids]
 | .nd j u k n => by
  rw [insFirst]
  have h1 := mem_insFirst p i t s y k
  have h2 := mem_insFirst p i t s y n
  by_cases e : j = p
  ·rw [if_pos e]
   simp only [Fo.ids, List.mem_cons, List.mem_append, e]
   grind
  ·rw [if_neg e]
   simp only [Fo.ids, List.mem_cons, List.mem_append, h1, h2]
   grind
theorem mem_insAfter (a i : Nat) (t : ByteArray) (s : Fo) (y : Nat) : ∀ (F : Fo), y ∈ (insAfter a i t s F).ids ↔ y ∈ F.ids ∨ (a ∈ F.ids ∧ (y = i ∨ y ∈ s.ids))
 | .nil => by simp [insAfter, Fo.ids]
 | .nd j u k n => by
  rw [insAfter]
  have h1 := mem_insAfter a i t s y k
  have h2 := mem_insAfter a i t s y n
  by_cases e : j = a
  ·rw [if_pos e]
   simp only [Fo.ids, List.mem_cons, List.mem_append, e]
   grind
  ·rw [if_neg e]
   simp only [Fo.ids, List.mem_cons, List.mem_append, h1, h2]
   grind
theorem del_insFirst (p i : Nat) (t : ByteArray) (s : Fo) : ∀ {F : Fo}, i ∉ F.ids → del i (insFirst p i t s F) = F
 | .nil, _ => rfl
 | .nd j u k n, h => by
  simp only [Fo.ids, List.mem_cons, List.mem_append, not_or] at h
  have hj : ¬ j = i := fun e => h.1 e.symm
  rw [insFirst]
  by_cases e : j = p
  ·rw [if_pos e, del, if_neg hj, del, if_pos rfl, del_id i h.2.2]
  ·rw [if_neg e, del, if_neg hj, del_insFirst p i t s h.2.1, del_insFirst p i t s h.2.2]
theorem del_insAfter (a i : Nat) (t : ByteArray) (s : Fo) : ∀ {F : Fo}, i ∉ F.ids → del i (insAfter a i t s F) = F
 | .nil, _ => rfl
 | .nd j u k n, h => by
  simp only [Fo.ids, List.mem_cons, List.mem_append, not_or] at h
  have hj : ¬ j = i := fun e => h.1 e.symm
  rw [insAfter]
  by_cases e : j = a
  ·rw [if_pos e, del, if_neg hj, del, if_pos rfl, del_id i h.2.1]
  ·rw [if_neg e, del, if_neg hj, del_insAfter a i t s h.2.1, del_insAfter a i t s h.2.2]
theorem sub_insFirst_new (p i : Nat) (t : ByteArray) (s : Fo) : ∀ {F : Fo}, i ∉ F.ids → p ∈ F.ids → sub i (insFirst p i t s F) = s
 | .nil, _, h => by simp [Fo.ids] at h
 | .nd j u k n, h, hp => by
  simp only [Fo.ids, List.mem_cons, List.mem_append, not_or] at h hp
  have hj : ¬ j = i := fun e => h.1 e.symm
  rw [insFirst]
  by_cases e : j = p
  ·rw [if_pos e, sub, if_neg hj, if_pos (by simp [Fo.ids]), sub, if_pos rfl]
  ·rw [if_neg e, sub, if_neg hj]
   by_cases hk : p ∈ k.ids
   ·rw [if_pos ((mem_insFirst p i t s i k).2 (Or.inr ⟨hk, Or.inl rfl⟩)), sub_insFirst_new p i t s h.2.1 hk]
   ·rw [if_neg (by rw [mem_insFirst]; grind), sub_insFirst_new p i t s h.2.2 (by grind)]
theorem sub_insAfter_new (a i : Nat) (t : ByteArray) (s : Fo) : ∀ {F : Fo}, i ∉ F.ids → a ∈ F.ids → sub i (insAfter a i t s F) = s
 | .nil, _, h => by simp [Fo.ids] at h
 | .nd j u k n, h, hp => by
  simp only [Fo.ids, List.mem_cons, List.mem_append, not_or] at h hp
  have hj : ¬ j = i := fun e => h.1 e.symm
  rw [insAfter]
  by_cases e : j = a
  ·rw [if_pos e, sub, if_neg hj, if_neg h.2.1, sub, if_pos rfl]
  ·rw [if_neg e, sub, if_neg hj]
   by_cases hk : a ∈ k.ids
   ·rw [if_pos ((mem_insAfter a i t s i k).2 (Or.inr ⟨hk, Or.inl rfl⟩)), sub_insAfter_new a i t s h.2.1 hk]
   ·rw [if_neg (by rw [mem_insAfter]; grind), sub_insAfter_new a i t s h.2.2 (by grind)]
theorem txt_insFirst_new (p i : Nat) (t : ByteArray) (s : Fo) : ∀ {F : Fo}, i ∉ F.ids → p ∈ F.ids → txtF i (insFirst p i t s F) = t
 | .nil, _, h => by simp [Fo.ids] at h
 | .nd j u k n, h, hp => by
  simp only [Fo.ids, List.mem_cons, List.mem_append, not_or] at h hp
  have hj : ¬ j = i := fun e => h.1 e.symm
  rw [insFirst]
  by_cases e : j = p
  ·rw [if_pos e, txtF, if_neg hj, if_pos (by simp [Fo.ids]), txtF, if_pos rfl]
  ·rw [if_neg e, txtF, if_neg hj]
   by_cases hk : p ∈ k.ids
   ·rw [if_pos ((mem_insFirst p i t s i k).2 (Or.inr ⟨hk, Or.inl rfl⟩)), txt_insFirst_new p i t s h.2.1 hk]
   ·rw [if_neg (by rw [mem_insFirst]; grind), txt_insFirst_new p i t s h.2.2 (by grind)]
theorem txt_insAfter_new (a i : Nat) (t : ByteArray) (s : Fo) : ∀ {F : Fo}, i ∉ F.ids → a ∈ F.ids → txtF i (insAfter a i t s F) = t
 | .nil, _, h => by simp [Fo.ids] at h
 | .nd j u k n, h, hp => by
  simp only [Fo.ids, List.mem_cons, List.mem_append, not_or] at h hp
  have hj : ¬ j = i := fun e => h.1 e.symm
  rw [insAfter]
  by_cases e : j = a
  ·rw [if_pos e, txtF, if_neg hj, if_neg h.2.1, txtF, if_pos rfl]
  ·rw [if_neg e, txtF, if_neg hj]
   by_cases hk : a ∈ k.ids
   ·rw [if_pos ((mem_insAfter a i t s i k).2 (Or.inr ⟨hk, Or.inl rfl⟩)), txt_insAfter_new a i t s h.2.1 hk]
   ·rw [if_neg (by rw [mem_insAfter]; grind), txt_insAfter_new a i t s h.2.2 (by grind)]
theorem par_insFirst_new (p i : Nat) (t : ByteArray) (s : Fo) : ∀ {F : Fo} (up : Nat), i ∉ F.ids → p ∈ F.ids → par i up (insFirst p i t s F) = p
 | .nil, _, _, h => by simp [Fo.ids] at h
 | .nd j u k n, up, h, hp => by
  simp only [Fo.ids, List.mem_cons, List.mem_append, not_or] at h hp
  have hj : ¬ j = i := fun e => h.1 e.symm
  rw [insFirst]
  by_cases e : j = p
  ·rw [if_pos e, par, if_neg hj, if_pos (by simp [Fo.ids]), par, if_pos rfl, e]
  ·rw [if_neg e, par, if_neg hj]
   by_cases hk : p ∈ k.ids
   ·rw [if_pos ((mem_insFirst p i t s i k).2 (Or.inr ⟨hk, Or.inl rfl⟩)), par_insFirst_new p i t s j h.2.1 hk]
   ·rw [if_neg (by rw [mem_insFirst]; grind), par_insFirst_new p i t s up h.2.2 (by grind)]
theorem par_insAfter_new (a i : Nat) (t : ByteArray) (s : Fo) : ∀ {F : Fo} (up : Nat), i ∉ F.ids → a ∈ F.ids → par i up (insAfter a i t s F) = par a up F
 | .nil, _, _, h => by simp [Fo.ids] at h
 | .nd j u k n, up, h, hp => by
  simp only [Fo.ids, List.mem_cons, List.mem_append, not_or] at h hp
  have hj : ¬ j = i := fun e => h.1 e.symm
  rw [insAfter]
  by_cases e : j = a
  ·rw [if_pos e, par, if_neg hj, if_neg h.2.1, par, if_pos rfl, par, if_pos e]
  ·rw [if_neg e, par, if_neg hj, par, if_neg e]
   by_cases hk : a ∈ k.ids
   ·rw [if_pos ((mem_insAfter a i t s i k).2 (Or.inr ⟨hk, Or.inl rfl⟩)), if_pos hk, par_insAfter_new a i t s j h.2.1 hk]
   ·rw [if_neg (by rw [mem_insAfter]; grind), if_neg hk, par_insAfter_new a i t s up h.2.2 (by grind)]
theorem par_insFirst_in (p i : Nat) (t : ByteArray) (s : Fo) {x : Nat} (hx : x ∈ s.ids) (hxi : x ≠ i) : ∀ {F : Fo} (up : Nat), x ∉ F.ids → p ∈ F.ids → par x up (insFirst p i t s F) = par x i s
 | .nil, _, _, h => by simp [Fo.ids] at h
 | .nd j u k n, up, h, hp => by
  simp only [Fo.ids, List.mem_cons, List.mem_append, not_or] at h hp
  have hj : ¬ j = x := fun e => h.1 e.symm
  rw [insFirst]
  by_cases e : j = p
  ·rw [if_pos e, par, if_neg hj, if_pos (by simp [Fo.ids, hx]), par, if_neg (fun e => hxi e.symm), if_pos hx]
  ·rw [if_neg e, par, if_neg hj]
   by_cases hk : p ∈ k.ids
   ·rw [if_pos ((mem_insFirst p i t s x k).2 (Or.inr ⟨hk, Or.inr hx⟩)), par_insFirst_in p i t s hx hxi j h.2.1 hk]
   ·rw [if_neg (by rw [mem_insFirst]; grind), par_insFirst_in p i t s hx hxi up h.2.2 (by grind)]
theorem par_insAfter_in (a i : Nat) (t : ByteArray) (s : Fo) {x : Nat} (hx : x ∈ s.ids) (hxi : x ≠ i) : ∀ {F : Fo} (up : Nat), x ∉ F.ids → a ∈ F.ids → par x up (insAfter a i t s F) = par x i s
 | .nil, _, _, h => by simp [Fo.ids] at h
 | .nd j u k n, up, h, hp => by
  simp only [Fo.ids, List.mem_cons, List.mem_append, not_or] at h hp
  have hj : ¬ j = x := fun e => h.1 e.symm
  rw [insAfter]
  by_cases e : j = a
  ·rw [if_pos e, par, if_neg hj, if_neg h.2.1, par, if_neg (fun e => hxi e.symm), if_pos hx]
  ·rw [if_neg e, par, if_neg hj]
   by_cases hk : a ∈ k.ids
   ·rw [if_pos ((mem_insAfter a i t s x k).2 (Or.inr ⟨hk, Or.inr hx⟩)), par_insAfter_in a i t s hx hxi j h.2.1 hk]
   ·rw [if_neg (by rw [mem_insAfter]; grind), par_insAfter_in a i t s hx hxi up h.2.2 (by grind)]
theorem txt_insFirst_in (p i : Nat) (t : ByteArray) (s : Fo) {x : Nat} (hx : x ∈ s.ids) (hxi : x ≠ i) : ∀ {F : Fo}, x ∉ F.ids → p ∈ F.ids → txtF x (insFirst p i t s F) = txtF x s
 | .nil, _, h => by simp [Fo.ids] at h
 | .nd j u k n, h, hp => by
  simp only [Fo.ids, List.mem_cons, List.mem_append, not_or] at h hp
  have hj : ¬ j = x := fun e => h.1 e.symm
  rw [insFirst]
  by_cases e : j = p
  ·rw [if_pos e, txtF, if_neg hj, if_pos (by simp [Fo.ids, hx]), txtF, if_neg (fun e => hxi e.symm), if_pos hx]
  ·rw [if_neg e, txtF, if_neg hj]
   by_cases hk : p ∈ k.ids
   ·rw [if_pos ((mem_insFirst p i t s x k).2 (Or.inr ⟨hk, Or.inr hx⟩)), txt_insFirst_in p i t s hx hxi h.2.1 hk]
   ·rw [if_neg (by rw [mem_insFirst]; grind), txt_insFirst_in p i t s hx hxi h.2.2 (by grind)]
theorem txt_insAfter_in (a i : Nat) (t : ByteArray) (s : Fo) {x : Nat} (hx : x ∈ s.ids) (hxi : x ≠ i) : ∀ {F : Fo}, x ∉ F.ids → a ∈ F.ids → txtF x (insAfter a i t s F) = txtF x s
 | .nil, _, h => by simp [Fo.ids] at h
 | .nd j u k n, h, hp => by
  simp only [Fo.ids, List.mem_cons, List.mem_append, not_or] at h hp
  have hj : ¬ j = x := fun e => h.1 e.symm
  rw [insAfter]
  by_cases e : j = a
  ·rw [if_pos e, txtF, if_neg hj, if_neg h.2.1, txtF, if_neg (fun e => hxi e.symm), if_pos hx]
  ·rw [if_neg e, txtF, if_neg hj]
   by_cases hk : a ∈ k.ids
   ·rw [if_pos ((mem_insAfter a i t s x k).2 (Or.inr ⟨hk, Or.inr hx⟩)), txt_insAfter_in a i t s hx hxi h.2.1 hk]
   ·rw [if_neg (by rw [mem_insAfter]; grind), txt_insAfter_in a i t s hx hxi h.2.2 (by grind)]
theorem par_insFirst_old (p i : Nat) (t : ByteArray) (s : Fo) {x : Nat} (hx : x ∉ s.ids) (hxi : x ≠ i) : ∀ (F : Fo) (up : Nat), par x up (insFirst p i t s F) = par x up F
 | .nil, _ => rfl
 | .nd j u k n, up => by
  have m1 : x ∈ (insFirst p i t s k).ids ↔ x ∈ k.ids := by rw [mem_insFirst]; grind
  have m2 : x ∈ (Fo.nd i t s k).ids ↔ x ∈ k.ids := by simp only [Fo.ids, List.mem_cons, List.mem_append]; grind
  rw [insFirst]
  by_cases e : j = p
  ·rw [if_pos e]
   simp only [par, m2, if_neg (fun e : i = x => hxi e.symm), if_neg hx]
  ·rw [if_neg e]
   simp only [par, m1, par_insFirst_old p i t s hx hxi k, par_insFirst_old p i t s hx hxi n]
theorem par_insAfter_old (a i : Nat) (t : ByteArray) (s : Fo) {x : Nat} (hx : x ∉ s.ids) (hxi : x ≠ i) : ∀ (F : Fo) (up : Nat), par x up (insAfter a i t s F) = par x up F
 | .nil, _ => rfl
 | .nd j u k n, up => by
  have m1 : x ∈ (insAfter a i t s k).ids ↔ x ∈ k.ids := by rw [mem_insAfter]; grind
  rw [insAfter]
  by_cases e : j = a
  ·rw [if_pos e]
   simp only [par, if_neg (fun e : i = x => hxi e.symm), if_neg hx]
  ·rw [if_neg e]
   simp only [par, m1, par_insAfter_old a i t s hx hxi k, par_insAfter_old a i t s hx hxi n]
theorem txt_insFirst_old (p i : Nat) (t : ByteArray) (s : Fo) {x : Nat} (hx : x ∉ s.ids) (hxi : x ≠ i) : ∀ (F : Fo), txtF x (insFirst p i t s F) = txtF x F
 | .nil => rfl
 | .nd j u k n => by
  have m1 : x ∈ (insFirst p i t s k).ids ↔ x ∈ k.ids := by rw [mem_insFirst]; grind
  have m2 : x ∈ (Fo.nd i t s k).ids ↔ x ∈ k.ids := by simp only [Fo.ids, List.mem_cons, List.mem_append]; grind
  rw [insFirst]
  by_cases e : j = p
  ·rw [if_pos e]
   simp only [txtF, m2, if_neg (fun e : i = x => hxi e.symm), if_neg hx]
  ·rw [if_neg e]
   simp only [txtF, m1, txt_insFirst_old p i t s hx hxi k, txt_insFirst_old p i t s hx hxi n]
theorem txt_insAfter_old (a i : Nat) (t : ByteArray) (s : Fo) {x : Nat} (hx : x ∉ s.ids) (hxi : x ≠ i) : ∀ (F : Fo), txtF x (insAfter a i t s F) = txtF x F
 | .nil => rfl
 | .nd j u k n => by
  have m1 : x ∈ (insAfter a i t s k).ids ↔ x ∈ k.ids := by rw [mem_insAfter]; grind
  rw [insAfter]
  by_cases e : j = a
  ·rw [if_pos e]
   simp only [txtF, if_neg (fun e : i = x => hxi e.symm), if_neg hx]
  ·rw [if_neg e]
   simp only [txtF, m1, txt_insAfter_old a i t s hx hxi k, txt_insAfter_old a i t s hx hxi n]
theorem txt_del (i a : Nat) : ∀ (G : Fo), G.ids.Nodup → a ∈ (del i G).ids → txtF a (del i G) = txtF a G
 | .nil, _, h => rfl
 | .nd j u k n, hn, h => by
  obtain ⟨n1, n2, n3, n4, n5⟩ := nodup_nd hn
  rw [FP.del] at h ⊢
  by_cases e : j = i
  ·rw [if_pos e] at h ⊢
   rw [txtF, if_neg (fun (g : j = a) => n2 (by rw [g]; exact h)), if_neg (fun g => n5 a g h)]
  ·rw [if_neg e] at h ⊢
   simp only [Fo.ids, List.mem_cons, List.mem_append] at h
   rw [txtF, txtF]
   by_cases e2 : j = a
   ·rw [if_pos e2, if_pos e2]
   ·rw [if_neg e2, if_neg e2]
    by_cases hk : a ∈ (FP.del i k).ids
    ·rw [if_pos hk, if_pos (del_ids_sub i hk)]; exact txt_del i a k n3 hk
    ·have hn' : a ∈ (FP.del i n).ids := by rcases h with g | g | g; exact absurd g.symm e2; exact absurd g hk; exact g
     rw [if_neg hk, if_neg (fun g => n5 a g (del_ids_sub i hn'))]; exact txt_del i a n n4 hn'
theorem par_sub (i a : Nat) : ∀ (G : Fo) (up : Nat), G.ids.Nodup → a ∈ (sub i G).ids → par a up G = par a i (sub i G)
 | .nil, up, _, h => by simp [sub, Fo.ids] at h
 | .nd j u k n, up, hn, h => by
  obtain ⟨n1, n2, n3, n4, n5⟩ := nodup_nd hn
  rw [sub] at h ⊢
  by_cases e : j = i
  ·rw [if_pos e] at h ⊢
   rw [par, if_neg (fun (g : j = a) => n1 (by rw [g]; exact h)), if_pos h, e]
  ·rw [if_neg e] at h ⊢
   by_cases hk : i ∈ k.ids
   ·rw [if_pos hk] at h ⊢
    have ha := sub_ids i h
    rw [par, if_neg (fun (g : j = a) => n1 (by rw [g]; exact ha)), if_pos ha]
    exact par_sub i a k j n3 h
   ·rw [if_neg hk] at h ⊢
    have ha := sub_ids i h
    rw [par, if_neg (fun (g : j = a) => n2 (by rw [g]; exact ha)), if_neg (fun g => n5 a g ha)]
    exact par_sub i a n up n4 h
theorem txt_sub (i a : Nat) : ∀ (G : Fo), G.ids.Nodup → a ∈ (sub i G).ids → txtF a G = txtF a (sub i G)
 | .nil, _, h => by simp [sub, Fo.ids] at h
 | .nd j u k n, hn, h => by
  obtain ⟨n1, n2, n3, n4, n5⟩ := nodup_nd hn
  rw [sub] at h ⊢
  by_cases e : j = i
  ·rw [if_pos e] at h ⊢
   rw [txtF, if_neg (fun (g : j = a) => n1 (by rw [g]; exact h)), if_pos h]
  ·rw [if_neg e] at h ⊢
   by_cases hk : i ∈ k.ids
   ·rw [if_pos hk] at h ⊢
    have ha := sub_ids i h
    rw [txtF, if_neg (fun (g : j = a) => n1 (by rw [g]; exact ha)), if_pos ha]
    exact txt_sub i a k n3 h
   ·rw [if_neg hk] at h ⊢
    have ha := sub_ids i h
    rw [txtF, if_neg (fun (g : j = a) => n2 (by rw [g]; exact ha)), if_neg (fun g => n5 a g ha)]
    exact txt_sub i a n n4 h
theorem set_txt_ne (x : Nat) (t' : ByteArray) {i : Nat} (h : i ≠ x) : ∀ (F : Fo), txtF i (setF x t' F) = txtF i F
 | .nil => rfl
 | .nd j u k n => by
  rw [setF, txtF, txtF, setF_ids, set_txt_ne x t' h k, set_txt_ne x t' h n]
  by_cases e : j = i
  ·rw [if_pos e, if_pos e, if_neg (fun g => h (e ▸ g))]
  ·rw [if_neg e, if_neg e]
theorem set_txt_eq (x : Nat) (t' : ByteArray) : ∀ {F : Fo}, x ∈ F.ids → txtF x (setF x t' F) = t'
 | .nil, h => by simp [Fo.ids] at h
 | .nd j u k n, h => by
  simp only [Fo.ids, List.mem_cons, List.mem_append] at h
  rw [setF, txtF, setF_ids]
  by_cases e : j = x
  ·rw [if_pos e, if_pos e]
  ·rw [if_neg e]
   by_cases hk : x ∈ k.ids
   ·rw [if_pos hk]; exact set_txt_eq x t' hk
   ·rw [if_neg hk]; exact set_txt_eq x t' (by grind)
end Go.Proofs.YtdpklbomhdpimaaDoor.FP
namespace Go.Proofs.YtdpklbomhdpimaaDoor.FP
open Go.Proofs.YtdpklbomhdpimaaDoor.P
structure PutOk (H : Fo) (q : Nat × Nat) (i : Nat) (s : Fo) : Prop where
 nd : H.ids.Nodup
 snd : s.ids.Nodup
 iH : i ∉ H.ids
 is : i ∉ s.ids
 dis : ∀ x ∈ s.ids, x ∉ H.ids
 up : q.1 ∈ H.ids
 at_ : q.2 = 0 ∨ (q.2 ∈ H.ids ∧ par q.2 0 H = q.1)
section
variable {H : Fo} {q : Nat × Nat} {i : Nat} {s : Fo} {t : ByteArray}
theorem PutOk.del (o : PutOk H q i s) : del i (putF H q i t s) = H := by
 unfold putF
 split
 ·exact del_insFirst _ _ _ _ o.iH
 ·exact del_insAfter _ _ _ _ o.iH
theorem PutOk.sub (o : PutOk H q i s) : sub i (putF H q i t s) = s := by
 unfold putF
 split
 ·exact sub_insFirst_new _ _ _ _ o.iH o.up
 ·rename_i h; exact sub_insAfter_new _ _ _ _ o.iH (o.at_.resolve_left h).1
theorem PutOk.txt (o : PutOk H q i s) : txtF i (putF H q i t s) = t := by
 unfold putF
 split
 ·exact txt_insFirst_new _ _ _ _ o.iH o.up
 ·rename_i h; exact txt_insAfter_new _ _ _ _ o.iH (o.at_.resolve_left h).1
theorem PutOk.par (o : PutOk H q i s) : par i 0 (putF H q i t s) = q.1 := by
 unfold putF
 split
 ·exact par_insFirst_new _ _ _ _ _ o.iH o.up
 ·rename_i h
  rw [par_insAfter_new _ _ _ _ _ o.iH (o.at_.resolve_left h).1]; exact (o.at_.resolve_left h).2
theorem PutOk.mem (o : PutOk H q i s) (y : Nat) : y ∈ (putF H q i t s).ids ↔ y = i ∨ y ∈ s.ids ∨ y ∈ H.ids := by
 unfold putF
 split
 ·rw [mem_insFirst]; have := o.up; grind
 ·rename_i h; rw [mem_insAfter]; have := (o.at_.resolve_left h).1; grind
theorem PutOk.perm (o : PutOk H q i s) : (putF H q i t s).ids.Perm (i :: (s.ids ++ H.ids)) := putF_ids o.nd o.up (o.at_.imp id And.left)
theorem PutOk.nodup (o : PutOk H q i s) : (putF H q i t s).ids.Nodup := by
 refine o.perm.nodup_iff.2 (List.nodup_cons.2 ⟨?_, List.nodup_append.2 ⟨o.snd, o.nd, fun a ha b hb e => o.dis a ha (e ▸ hb)⟩⟩)
 rw [List.mem_append]
 exact fun h => h.elim o.is o.iH
theorem PutOk.ne {x : Nat} (o : PutOk H q i s) (hx : x ∈ H.ids) : x ≠ i ∧ x ∉ s.ids := ⟨fun e => o.iH (e ▸ hx), fun g => o.dis x g hx⟩
theorem PutOk.par_old (o : PutOk H q i s) {x : Nat} (hx : x ∈ H.ids) : FP.par x 0 (putF H q i t s) = FP.par x 0 H := by
 obtain ⟨h1, h2⟩ := o.ne hx
 unfold putF
 split
 ·exact par_insFirst_old _ _ _ _ h2 h1 _ _
 ·exact par_insAfter_old _ _ _ _ h2 h1 _ _
theorem PutOk.txt_old (o : PutOk H q i s) {x : Nat} (hx : x ∈ H.ids) : txtF x (putF H q i t s) = txtF x H := by
 obtain ⟨h1, h2⟩ := o.ne hx
 unfold putF
 split
 ·exact txt_insFirst_old _ _ _ _ h2 h1 _
 ·exact txt_insAfter_old _ _ _ _ h2 h1 _
theorem PutOk.par_in (o : PutOk H q i s) {x : Nat} (hx : x ∈ s.ids) : FP.par x 0 (putF H q i t s) = FP.par x i s := by
 have h1 : x ≠ i := fun e => o.is (e ▸ hx)
 unfold putF
 split
 ·exact par_insFirst_in _ _ _ _ hx h1 _ (o.dis x hx) o.up
 ·rename_i h; exact par_insAfter_in _ _ _ _ hx h1 _ (o.dis x hx) (o.at_.resolve_left h).1
theorem PutOk.txt_in (o : PutOk H q i s) {x : Nat} (hx : x ∈ s.ids) : txtF x (putF H q i t s) = txtF x s := by
 have h1 : x ≠ i := fun e => o.is (e ▸ hx)
 unfold putF
 split
 ·exact txt_insFirst_in _ _ _ _ hx h1 (o.dis x hx) o.up
 ·rename_i h; exact txt_insAfter_in _ _ _ _ hx h1 (o.dis x hx) (o.at_.resolve_left h).1
end
theorem fnd_congr {G G' : Fo} (h : ∀ y, y ∈ G'.ids ↔ y ∈ G.ids) (x : Int) : fndF G' x = fndF G x := by
 unfold fndF; simp only [h]
theorem mem_del {i y : Nat} {G : Fo} (hn : G.ids.Nodup) (hi : i ∈ G.ids) : y ∈ (del i G).ids ↔ y ∈ G.ids ∧ y ≠ i ∧ y ∉ (sub i G).ids := by
 have hp := ids_del i G hn hi
 obtain ⟨m1, m2⟩ := List.nodup_cons.1 (hp.nodup_iff.1 hn)
 have m3 := (List.nodup_append.1 m2).2.2
 have m4 := hp.mem_iff (a := y)
 simp only [List.mem_cons, List.mem_append] at m4 m1
 constructor
 ·intro h
  exact ⟨m4.2 (Or.inr (Or.inr h)), fun e => m1 (Or.inr (e ▸ h)), fun g => m3 y g y h rfl⟩
 ·rintro ⟨h1, h2, h3⟩
  rcases m4.1 h1 with g | g | g
  ·exact absurd g h2
  ·exact absurd g h3
  ·exact g
structure MvOk (G : Fo) (i : Nat) (q : Nat × Nat) : Prop where
 nd : G.ids.Nodup
 mem : i ∈ G.ids
 put : PutOk (del i G) q i (sub i G)
def mvF (G : Fo) (q : Nat × Nat) (i : Nat) : Fo := putF (del i G) q i (txtF i G) (sub i G)
section
variable {G : Fo} {i : Nat} {q : Nat × Nat}
theorem MvOk.ids (o : MvOk G i q) (y : Nat) : y ∈ (mvF G q i).ids ↔ y ∈ G.ids := by
 unfold mvF
 rw [o.put.mem, mem_del o.nd o.mem]
 have := o.mem
 have h2 : y ∈ (sub i G).ids → y ∈ G.ids := sub_ids i
 grind
theorem MvOk.perm (o : MvOk G i q) : (mvF G q i).ids.Perm G.ids := by
 unfold mvF
 exact o.put.perm.trans (ids_del i G o.nd o.mem).symm
theorem MvOk.nodup (o : MvOk G i q) : (mvF G q i).ids.Nodup := o.put.nodup
theorem MvOk.par_ne (o : MvOk G i q) {x : Nat} (hx : x ∈ G.ids) (hne : x ≠ i) : par x 0 (mvF G q i) = par x 0 G := by
 unfold mvF
 by_cases hs : x ∈ (sub i G).ids
 ·rw [o.put.par_in hs, par_sub i x G 0 o.nd hs]
 ·have hd := (mem_del o.nd o.mem).2 ⟨hx, hne, hs⟩
  rw [o.put.par_old hd, par_del i x G 0 o.nd hd]
theorem MvOk.txt (o : MvOk G i q) {x : Nat} (hx : x ∈ G.ids) : txtF x (mvF G q i) = txtF x G := by
 unfold mvF
 by_cases hne : x = i
 ·subst hne; exact o.put.txt
 ·by_cases hs : x ∈ (sub i G).ids
  ·rw [o.put.txt_in hs, txt_sub i x G o.nd hs]
  ·have hd := (mem_del o.nd o.mem).2 ⟨hx, hne, hs⟩
   rw [o.put.txt_old hd, txt_del i x G o.nd hd]
theorem MvOk.sub_self (o : MvOk G i q) : sub i (mvF G q i) = sub i G := o.put.sub
theorem MvOk.del (o : MvOk G i q) : del i (mvF G q i) = del i G := o.put.del
theorem MvOk.under (o : MvOk G i q) (x : Nat) : under i x (mvF G q i) ↔ under i x G := by
 unfold FP.under
 rw [o.sub_self, o.ids]
theorem MvOk.fnd (o : MvOk G i q) (x : Int) : fndF (mvF G q i) x = fndF G x := fnd_congr o.ids x
theorem MvOk.near (o : MvOk G i q) (up at_ : Int) : nearF (mvF G q i) (i : Int) up at_ = nearF G (i : Int) up at_ := by
 unfold nearF
 rw [o.fnd, o.fnd]
 by_cases h1 : fndF G up = 0
 ·rw [if_pos h1, if_pos h1]
 ·rw [if_neg h1, if_neg h1]
  by_cases h2 : fndF G at_ = 0
  ·rw [if_pos h2, if_pos h2]
  ·rw [if_neg h2, if_neg h2]
   by_cases h3 : at_ = (i : Int)
   ·simp only [h3, if_true, ite_self]
   ·obtain ⟨m1, m2⟩ := fndF_mem h2
    rw [o.par_ne m1 (fun e => h3 (by rw [← m2, e]))]
end
theorem move_ok {G : Fo} (hn : G.ids.Nodup) (h0 : ∀ x ∈ G.ids, x ≠ 0) (h3 : 3 ∈ G.tops) {i : Nat} (hi : i ∈ G.ids) (hit : i ∉ G.tops) {up at_ : Int} (hw : ¬ under i (fndF G up) G) : MvOk G i (nearF G (i : Int) up at_) := by
 obtain ⟨h, hr⟩ := reptop_ex G hn h0
 have hp := near_del hr hn h3 hi hit (id := (i : Int)) (up := up) (at_ := at_) rfl hw
 have hperm := ids_del i G hn hi
 obtain ⟨m1, m2⟩ := List.nodup_cons.1 (hperm.nodup_iff.1 hn)
 obtain ⟨m3, m4, m5⟩ := List.nodup_append.1 m2
 rw [List.mem_append, not_or] at m1
 refine ⟨hn, hi, ⟨m4, m3, m1.2, m1.1, fun x hx g => m5 x hx x g rfl, hp.1, hp.2.imp id fun ⟨a1, a2, _⟩ => ⟨a1, ?_⟩⟩⟩
 rw [par_del i _ G 0 hn a1, ← reptop_par hr hn (del_ids_sub i a1)]; exact a2
theorem make_ok {G : Fo} (hn : G.ids.Nodup) (h3 : 3 ∈ G.tops) {i : Nat} (hi : i ∉ G.ids) {up at_ : Int} : PutOk G (nearF G (i : Int) up at_) i .nil := by
 have hp := near_ok (G := G) (tops_ids h3) (i : Int) up at_
 exact ⟨hn, by simp [Fo.ids], hi, by simp [Fo.ids], by simp [Fo.ids], hp.up, hp.at_.imp id fun ⟨a1, a2, _⟩ => ⟨a1, a2⟩⟩
inductive Does (G : Fo) (kd : Int) (i : Nat) (up at_ : Int) (s : ByteArray) : Fo → Prop
 | text (h : kd = 2) (hi : i ∈ G.ids) : Does G kd i up at_ s (setF i s G)
 | make (h : kd = 1) (hi : i ∉ G.ids) (o : PutOk G (nearF G (i : Int) up at_) i .nil) : Does G kd i up at_ s (putF G (nearF G (i : Int) up at_) i s .nil)
 | move (h : kd = 3) (hi : i ∈ G.ids) (hw : ¬ under i (fndF G up) G) (o : MvOk G i (nearF G (i : Int) up at_)) : Does G kd i up at_ s (mvF G (nearF G (i : Int) up at_) i)
 | none (h : (kd = 2 ∧ i ∉ G.ids) ∨ (kd = 1 ∧ i ∈ G.ids) ∨ (kd = 3 ∧ i ∉ G.ids) ∨ (kd = 3 ∧ i ∈ G.ids ∧ under i (fndF G up) G)) : Does G kd i up at_ s G
theorem fnd_nat {G : Fo} {y : Nat} (hy : y ∈ G.ids) : fndF G (y : Int) = y := by unfold fndF; rw [if_pos ⟨by omega, by simpa using hy⟩]; rfl
theorem fnd_not {G : Fo} {y : Nat} (hy : y ∉ G.ids) : fndF G (y : Int) = 0 := by unfold fndF; rw [if_neg (by simpa using hy)]
theorem does {G : Fo} (hn : G.ids.Nodup) (h0 : ∀ x ∈ G.ids, x ≠ 0) (h3 : 3 ∈ G.tops) (kd : Int) (i : Nat) (hit : i ∉ G.tops) (up at_ : Int) (s : ByteArray) (hk : kd = 1 ∨ kd = 2 ∨ kd = 3) : Does G kd i up at_ s (doF G kd (i : Int) up at_ s) := by
 unfold doF
 by_cases hi : i ∈ G.ids
 ·have hi0 := h0 i hi
  rw [fnd_nat hi, if_neg hi0, if_neg hi0, if_neg hi0]
  rcases hk with rfl | rfl | rfl
  ·rw [if_neg (by decide), if_pos rfl]; exact .none (Or.inr (Or.inl ⟨rfl, hi⟩))
  ·rw [if_pos rfl]; exact .text rfl hi
  ·rw [if_neg (by decide), if_neg (by decide)]
   by_cases hu : under i (fndF G up) G
   ·rw [if_pos hu]; exact .none (Or.inr (Or.inr (Or.inr ⟨rfl, hi, hu⟩)))
   ·rw [if_neg hu]; exact .move rfl hi hu (move_ok hn h0 h3 hi hit hu)
 ·rw [fnd_not hi, if_pos rfl, if_pos rfl, if_pos rfl]
  rcases hk with rfl | rfl | rfl
  ·rw [if_neg (by decide), if_pos rfl]; exact .make rfl hi (make_ok hn h3 hi)
  ·rw [if_pos rfl]; exact .none (Or.inl ⟨rfl, hi⟩)
  ·rw [if_neg (by decide), if_neg (by decide)]; exact .none (Or.inr (Or.inr (Or.inl ⟨rfl, hi⟩)))
section
variable {G : Fo} (hn : G.ids.Nodup) (h0 : ∀ x ∈ G.ids, x ≠ 0) (h3 : 3 ∈ G.tops) {kd : Int} {i : Nat} (hi0 : i ≠ 0) (hit : i ∉ G.tops) {up at_ : Int} {s : ByteArray} (hk : kd = 1 ∨ kd = 2 ∨ kd = 3)
end
theorem par_top0 {G : Fo} {x : Nat} : ∀ {F : Fo}, F.ids.Nodup → x ∈ F.tops → par x 0 F = 0
 | .nil, _, h => by simp [Fo.tops] at h
 | .nd j u k n, hn, h => by
  obtain ⟨n1, n2, n3, n4, n5⟩ := nodup_nd hn
  simp only [Fo.tops, List.mem_cons] at h
  rw [par]
  by_cases e : j = x
  ·rw [if_pos e]
  ·have hx : x ∈ n.tops := by grind
   rw [if_neg e, if_neg (fun g => n5 x g (tops_ids hx)), par_top0 (G := G) n4 hx]
theorem near_at_top {G : Fo} (hn : G.ids.Nodup) (h0 : ∀ x ∈ G.ids, x ≠ 0) {H : Fo} {q : Nat × Nat} {i : Nat} {s : Fo} (o : PutOk H q i s) (hH : ∀ x ∈ H.ids, x ≠ 0) : q.2 = 0 ∨ q.2 ∉ H.tops := by
 refine o.at_.imp id fun ⟨h1, h2⟩ ht => ?_
 have := par_top0 (G := G) o.nd ht
 rw [h2] at this
 exact hH _ o.up this
theorem do_tops {G : Fo} (hn : G.ids.Nodup) (h0 : ∀ x ∈ G.ids, x ≠ 0) {kd : Int} {i : Nat} (hi0 : i ≠ 0) (hit : i ∉ G.tops) {up at_ : Int} {s : ByteArray} {G' : Fo} (hd : Does G kd i up at_ s G') : G'.tops = G.tops ∧ G'.ids.Nodup ∧ (∀ x, x ∈ G'.ids ↔ x ∈ G.ids ∨ (kd = 1 ∧ x = i)) := by
 cases hd with
 | text h hi => exact ⟨setF_tops _ _ _, by rw [setF_ids]; exact hn, fun x => by rw [setF_ids, h]; simp⟩
 | make h hi o =>
  refine ⟨putF_tops (near_at_top hn h0 o h0), o.nodup, fun x => ?_⟩
  rw [o.mem]; simp [Fo.ids, h, or_comm]
 | move h hi hw o =>
  refine ⟨?_, o.nodup, fun x => by rw [o.ids, h]; simp⟩
  unfold mvF
  rw [putF_tops (near_at_top hn h0 o.put fun x hx => h0 x (del_ids_sub i hx)), tops_del i G hit]
 | none h => exact ⟨rfl, hn, fun x => ⟨Or.inl, fun g => g.elim id fun ⟨g1, g2⟩ => by rcases h with h | h | h | h <;> first | omega | exact g2 ▸ h.2⟩⟩
end Go.Proofs.YtdpklbomhdpimaaDoor.FP
namespace Go.Proofs.YtdpklbomhdpimaaDoor.PL
open Go.RowKit Go.Proofs.YtdpklbomhdpimaaDoor.P Go.Proofs.YtdpklbomhdpimaaDoorW.PrintWords Go.Proofs.YtdpklbomhdpimaaDoorW.PrintLast Go.Proofs.YtdpklbomhdpimaaDoor.FP
theorem tops_few : ∀ (F : Fo), F.tops.length ≤ F.ids.length
 | .nil => Nat.le_refl _
 | .nd i t k n => by have := tops_few n; simp only [Fo.tops, Fo.ids, List.length_cons, List.length_append]; omega
structure Good (G : Fo) : Prop where
 nd : G.ids.Nodup
 ne0 : ∀ x ∈ G.ids, x ≠ 0
 tops : G.tops = [1, 2, 3]
 len : G.ids.length ≤ 1000
theorem Good.three {G : Fo} (g : Good G) : 3 ∈ G.tops := by rw [g.tops]; simp
theorem fl_le : ∀ (F : Fo) (d : Nat) {r : S69}, r ∈ F.fl d → r.f1 < (d : Int) + F.ids.length
 | .nil, d, r, h => by simp [Fo.fl] at h
 | .nd j t k n, d, r, h => by
  simp only [Fo.fl, List.mem_cons, List.mem_append] at h
  simp only [Fo.ids, List.length_cons, List.length_append]
  rcases h with rfl | h | h
  ·show (d : Int) < _; omega
  ·have := fl_le k (d + 1) h; omega
  ·have := fl_le n d h; omega
theorem dep_le (x : Nat) (F : Fo) (d : Nat) (hn : F.ids.Nodup) (hx : x ∈ F.ids) : dep x d F < d + F.ids.length := by
 obtain ⟨pre, post, s⟩ := spot x F d hn hx
 have := fl_le F d (r := ⟨(x : Int), (dep x d F : Int), txtF x F⟩) (by rw [s.all]; simp)
 simp only at this
 omega
theorem atFrom_pre {r : S69} {rest : List S69} {id : Int} (hr : r.f0 = id) : ∀ (pre : List S69) (i : Nat), (∀ q ∈ pre, q.f0 ≠ id) → atFrom id (pre ++ r :: rest) i = ((i + pre.length : Nat) : Int)
 | [], i, _ => by simp [atFrom, hr]
 | q :: pre, i, h => by
  rw [List.cons_append, atFrom, if_neg (h q List.mem_cons_self), atFrom_pre hr pre (i + 1) fun x hx => h x (List.mem_cons_of_mem _ hx), List.length_cons]
  congr 1; omega
theorem at_pre {r : S69} {pre rest : List S69} {id : Int} (hr : r.f0 = id) (h : ∀ q ∈ pre, q.f0 ≠ id) : atI (pre ++ r :: rest) id = (pre.length : Int) := by
 rw [atI, atFrom_pre hr pre 0 h, Nat.zero_add]
theorem at_none {t : List S69} {id : Int} (h : ∀ q ∈ t, q.f0 ≠ id) : atI t id = -1 := by
 rcases atI_spec t id with ⟨e, _⟩ | ⟨j, hj, _, e⟩
 ·exact e
 ·exact absurd e (h _ (List.getElem_mem hj))
theorem endFrom_mid {d : Int} {post : List S69} (hp : post = [] ∨ ∃ q rest, post = q :: rest ∧ q.f1 ≤ d) : ∀ (mid : List S69) (e : Nat), (∀ q ∈ mid, d < q.f1) → endFrom d (mid ++ post) e = e + mid.length
 | [], e, _ => by
  rcases hp with rfl | ⟨q, rest, rfl, h⟩
  ·rfl
  ·rw [List.nil_append, endFrom, if_neg (by omega)]; rfl
 | q :: mid, e, h => by
  rw [List.cons_append, endFrom, if_pos (h q List.mem_cons_self), endFrom_mid hp mid (e + 1) fun x hx => h x (List.mem_cons_of_mem _ hx), List.length_cons]
  omega
theorem end_mid {pre mid post : List S69} {r : S69} (hm : ∀ q ∈ mid, r.f1 < q.f1) (hp : post = [] ∨ ∃ q rest, post = q :: rest ∧ q.f1 ≤ r.f1) : endI (pre ++ r :: (mid ++ post)) pre.length = pre.length + 1 + mid.length := by
 have e1 : (pre ++ r :: (mid ++ post)).getD pre.length z69 = r := by simp
 have e2 : (pre ++ r :: (mid ++ post)).drop (pre.length + 1) = mid ++ post := by
  rw [List.drop_append]; simp
 rw [endI, e1, e2, endFrom_mid hp mid _ hm]
theorem spot_end {x d : Nat} {G : Fo} {pre post : List S69} (s : Spot x d G pre post) : endI (G.fl d) pre.length = pre.length + 1 + (sub x G).ids.length := by
 rw [s.all, end_mid (fun q hq => by have := fl_deep _ _ hq; show (dep x d G : Int) < q.f1; omega) s.high, fl_len]
theorem spot_at {x d : Nat} {G : Fo} {pre post : List S69} (s : Spot x d G pre post) : atI (G.fl d) (x : Int) = (pre.length : Int) := by
 rw [s.all]; exact at_pre rfl s.out
theorem spot_len {x d : Nat} {G : Fo} {pre post : List S69} (s : Spot x d G pre post) : (G.fl d).length = pre.length + 1 + (sub x G).ids.length + post.length := by
 have := congrArg List.length s.all
 simp only [List.length_append, List.length_cons, fl_len] at this ⊢
 omega
theorem spot_get {x d : Nat} {G : Fo} {pre post : List S69} (s : Spot x d G pre post) (h : pre.length < (G.fl d).length) : (G.fl d)[pre.length] = ⟨(x : Int), (dep x d G : Int), txtF x G⟩ := by
 simp [s.all]
theorem at_fnd0 {G : Fo} {x : Int} (h : fndF G x = 0) (h0 : ∀ y ∈ G.ids, y ≠ 0) : atI (G.fl 0) x = -1 := at_none fun q hq e => by
 obtain ⟨i, hi, e2⟩ := fl_ids G 0 hq
 have hx : x = (i : Int) := by rw [← e, e2]
 unfold fndF at h
 rw [if_pos ⟨by omega, by rw [hx]; exact hi⟩, hx] at h
 exact h0 i hi h
theorem kids_fl : ∀ (F : Fo) (d : Nat), ((F.fl d).filter fun r => decide (r.f1 = (d : Int))).map (·.f0) = F.tops.map Int.ofNat
 | .nil, d => rfl
 | .nd j t k n, d => by
  have hk : (k.fl (d + 1)).filter (fun r => decide (r.f1 = (d : Int))) = [] := List.filter_eq_nil_iff.2 fun r hr => by
   have := fl_deep k (d + 1) hr
   simp only [decide_eq_true_eq]
   omega
  have ih := kids_fl n d
  simp only [Fo.fl, List.filter_cons, decide_true, if_true, List.map_cons, List.filter_append, hk, List.nil_append, Fo.tops]
  rw [ih]; rfl
theorem kids_l0x (t : List S69) (a : Nat) (ha : a < t.length) (hl : t.length ≤ 1099511627776) : ∀ (n i : Nat) (acc : List Int), i + n = endI t a → acc.length + n ≤ 1099511627776 →
  Ev (fun k => spec_l2Kids.l0 k t acc a i) (acc ++ (((t.drop i).take n).filter fun r => decide (r.f1 = wrap64 (t[a].f1 + 1))).map (·.f0))
 | 0, i, acc, h, hacc => by
  simp only [List.take_zero, List.filter_nil, List.map_nil, List.append_nil]
  refine Ev.step (fun k => by simp only [spec_l2Kids.l0]; rfl) ?_
  refine Ev.bind (end_f t a ha hl) ?_
  refine ev_neg (by omega) ?_
  exact evnow _
 | n + 1, i, acc, h, hacc => by
  obtain ⟨e1, e2, _, _⟩ := endI_spec t a ha
  have hi : i < t.length := by omega
  rw [List.drop_eq_getElem_cons hi, List.take_succ_cons, List.filter_cons]
  refine Ev.step (fun k => by simp only [spec_l2Kids.l0]; rfl) ?_
  refine Ev.bind (end_f t a ha hl) ?_
  refine ev_pos (by omega) (ev_pos (by omega) (ev_pos (by omega) (ev_pos (by omega) (ev_pos (by omega) ?_))))
  rw [rdR_get t i hi, rdR_get t a ha, wrapS i (by omega) (by omega)]
  by_cases hq : t[i].f1 = wrap64 (t[a].f1 + 1)
  ·refine ev_pos hq (ev_pos (by omega) ?_)
   have ih := kids_l0x t a ha hl n (i + 1) (acc ++ [t[i].f0]) (by omega) (by simp; omega)
   rw [if_pos (by simpa using hq), List.map_cons]
   simpa using ih
  ·refine ev_neg hq ?_
   have ih := kids_l0x t a ha hl n (i + 1) acc (by omega) (by omega)
   rw [if_neg (by simpa using hq)]
   exact ih
theorem kids_x {G : Fo} (g : Good G) {u : Nat} (hu : u ∈ G.ids) : Ev (fun k => spec_l2Kids.f k (G.fl 0) (u : Int)) ((sub u G).tops.map Int.ofNat) := by
 obtain ⟨pre, post, s⟩ := spot u G 0 g.nd hu
 have hl := (spot_len s)
 have hll := fl_len G 0
 have hg := g.len
 have ha : pre.length < (G.fl 0).length := by omega
 unfold spec_l2Kids.f
 simp only [Option.bind_some]
 refine Ev.bind (at_f (G.fl 0) u (by omega)) ?_
 rw [(spot_at s)]
 refine ev_neg (by omega) ?_
 rw [wrapS pre.length (by omega) (by omega)]
 have := kids_l0x (G.fl 0) pre.length ha (by omega) (sub u G).ids.length (pre.length + 1) [] (by rw [(spot_end s)]) (by simp; omega)
 rw [(spot_get s ha)] at this
 have e2 : (G.fl 0).drop (pre.length + 1) = (sub u G).fl (dep u 0 G + 1) ++ post := by
  rw [s.all, List.drop_append]; simp
 have hd := dep_le u G 0 g.nd hu
 have e3 : wrap64 ((dep u 0 G : Int) + 1) = ((dep u 0 G + 1 : Nat) : Int) := by rw [wrap_id _ (by omega) (by omega)]; omega
 rw [e2, show (sub u G).ids.length = ((sub u G).fl (dep u 0 G + 1)).length from (fl_len _ _).symm, List.take_left' rfl, e3, kids_fl, List.nil_append] at this
 exact this
theorem where_l0x (u : Int) (ks : List Int) (kd id up at_ : Int) (s : ByteArray) (hl : ks.length ≤ 1000000) : ∀ (n i : Nat) (a : Int), i + n = ks.length → Ev (fun k => spec_l3Where.l0 k u a ks i kd id up at_ s) (u, if at_ ∈ ks.drop i ∧ at_ ≠ id then at_ else a, true)
 | 0, i, a, h => by
  rw [List.drop_eq_nil_of_le (by omega), if_neg (by simp)]
  refine Ev.step (fun k => by simp only [spec_l3Where.l0]; rfl) ?_
  exact ev_neg (by omega) (evnow _)
 | n + 1, i, a, h => by
  have hi : i < ks.length := by omega
  have hrd : rd ks i = ks[i] := by
   unfold rd
   rw [List.getD_eq_getElem?_getD, show ((i : Int)).toNat = i from rfl, List.getElem?_eq_getElem hi]
   rfl
  have e1 : (at_ ∈ ks.drop i ∧ at_ ≠ id) ↔ ((at_ = ks[i] ∨ at_ ∈ ks.drop (i + 1)) ∧ at_ ≠ id) := by rw [List.drop_eq_getElem_cons hi, List.mem_cons]
  refine Ev.step (fun k => by simp only [spec_l3Where.l0]; rfl) ?_
  rw [hrd, wrapS i (by omega) (by omega)]
  refine ev_pos (by omega) (ev_pos (by omega) ?_)
  by_cases h3 : ks[i] = at_
  ·refine ev_pos h3 ?_
   by_cases h4 : at_ = id
   ·refine ev_pos h4 ?_
    rw [if_neg (fun q => q.2 h4)]
    have := where_l0x u ks kd id up at_ s hl n (i + 1) a (by omega)
    rwa [if_neg (fun q => q.2 h4)] at this
   ·refine ev_neg h4 ?_
    rw [if_pos (e1.2 ⟨Or.inl h3.symm, h4⟩)]
    have := where_l0x u ks kd id up at_ s hl n (i + 1) at_ (by omega)
    rwa [ite_self] at this
  ·refine ev_neg h3 ?_
   have := where_l0x u ks kd id up at_ s hl n (i + 1) a (by omega)
   have e2 : (at_ ∈ ks.drop i ∧ at_ ≠ id) ↔ (at_ ∈ ks.drop (i + 1) ∧ at_ ≠ id) := by
    rw [e1]
    exact ⟨fun ⟨q1, q2⟩ => ⟨q1.resolve_left (fun q => h3 q.symm), q2⟩, fun ⟨q1, q2⟩ => ⟨Or.inr q1, q2⟩⟩
   rw [show (if at_ ∈ ks.drop i ∧ at_ ≠ id then at_ else a) = (if at_ ∈ ks.drop (i + 1) ∧ at_ ≠ id then at_ else a) by simp only [e2]]
   exact this
theorem fndF_zero {G : Fo} (h0 : ∀ y ∈ G.ids, y ≠ 0) {x : Int} : fndF G x = 0 ↔ ∀ y ∈ G.ids, (y : Int) ≠ x := by
 constructor
 ·intro h y hy e
  unfold fndF at h
  rw [if_pos ⟨by omega, by rw [← e]; exact hy⟩, ← e] at h
  exact h0 y hy h
 ·intro h
  unfold fndF
  rw [if_neg]
  rintro ⟨h1, h2⟩
  exact h _ h2 (by omega)
theorem fndF_nat {G : Fo} {y : Nat} (hy : y ∈ G.ids) : fndF G (y : Int) = y := by
 unfold fndF
 rw [if_pos ⟨by omega, show (y : Int).toNat ∈ G.ids from hy⟩]; rfl
theorem near_x {G : Fo} (g : Good G) (kd id up at_ : Int) (s : ByteArray) : Ev (fun n => spec_l3Where.j0 n (G.fl 0) false kd id up at_ s) (((nearF G id up at_).1 : Int), ((nearF G id up at_).2 : Int), true) := by
 have hll := fl_len G 0
 have hg := g.len
 refine Ev.step (fun n => by simp only [spec_l3Where.j0]; rfl) ?_
 refine ev_neg (by decide) ?_
 refine Ev.bind (at_f (G.fl 0) up (by omega)) ?_
 by_cases h1 : fndF G up = 0
 ·rw [at_fnd0 h1 g.ne0]
  have : nearF G id up at_ = (3, 0) := by unfold nearF; rw [if_pos h1]
  rw [this]
  exact ev_pos (by omega) (evnow _)
 ·obtain ⟨hu, hue⟩ := fndF_mem h1
  obtain ⟨u, rfl⟩ : ∃ u : Nat, up = (u : Int) := ⟨fndF G up, hue.symm⟩
  rw [fndF_nat (by have := hu; rw [show fndF G (u : Int) = u by omega] at this; exact this)] at h1 hu
  obtain ⟨pre, post, sp⟩ := spot u G 0 g.nd hu
  rw [(spot_at sp)]
  refine ev_neg (by omega) ?_
  refine Ev.bind (kids_x g hu) ?_
  have hlen : ((sub u G).tops.map Int.ofNat).length ≤ 1000000 := by
   have := tops_few (sub u G)
   have := (spot_len sp)
   rw [List.length_map]
   omega
  have := where_l0x (u : Int) ((sub u G).tops.map Int.ofNat) kd id u at_ s hlen _ 0 0 (by rw [Nat.zero_add])
  rw [List.drop_zero] at this
  refine Ev.congr (fun k => rfl) ?_
  have e : nearF G id (u : Int) at_ = (u, (if at_ ∈ (sub u G).tops.map Int.ofNat ∧ at_ ≠ id then at_ else 0).toNat) := by
   unfold nearF
   rw [fndF_nat hu, if_neg h1]
   by_cases h2 : fndF G at_ = 0
   ·rw [if_pos h2, if_neg]
    ·rfl
    ·rintro ⟨q1, q2⟩
     obtain ⟨y, hy, rfl⟩ := List.mem_map.1 q1
     exact (fndF_zero g.ne0).1 h2 y (sub_ids u (tops_ids hy)) rfl
   ·rw [if_neg h2]
    obtain ⟨ha, hae⟩ := fndF_mem h2
    obtain ⟨a, rfl⟩ : ∃ a : Nat, at_ = (a : Int) := ⟨fndF G at_, hae.symm⟩
    have ha' : a ∈ G.ids := by have := ha; rw [show fndF G (a : Int) = a by omega] at this; exact this
    rw [fndF_nat ha']
    have hk := kids_par g.nd g.ne0 hu (x := a)
    have hm : ((a : Int) ∈ (sub u G).tops.map Int.ofNat) ↔ par a 0 G = u := by
     rw [List.mem_map]
     constructor
     ·rintro ⟨y, hy, e⟩
      have e' : y = a := Int.ofNat.inj e
      exact (hk.1 (e' ▸ hy)).2
     ·intro h; exact ⟨a, hk.2 ⟨ha', h⟩, rfl⟩
    by_cases h4 : par a 0 G ≠ u
    ·rw [if_pos h4, if_neg (fun q => h4 (hm.1 q.1))]; rfl
    ·have h4' : par a 0 G = u := Decidable.of_not_not h4
     rw [if_neg h4]
     by_cases h5 : (a : Int) = id
     ·rw [if_pos h5, if_neg (fun q => q.2 h5)]; rfl
     ·rw [if_neg h5, if_pos ⟨hm.2 h4', h5⟩]; rfl
  rw [e]
  have e2 : (((if at_ ∈ (sub u G).tops.map Int.ofNat ∧ at_ ≠ id then at_ else 0).toNat : Nat) : Int) = (if at_ ∈ (sub u G).tops.map Int.ofNat ∧ at_ ≠ id then at_ else 0) := by
   split
   ·rename_i q
    obtain ⟨y, hy, rfl⟩ := List.mem_map.1 q.1
    rfl
   ·rfl
  show Ev _ ((u : Int), ((_ : Nat) : Int), true)
  rw [e2]
  exact this
theorem at_skip {id : Int} {b : List S69} : ∀ (a : List S69) (i : Nat), (∀ q ∈ a, q.f0 ≠ id) → atFrom id (a ++ b) i = atFrom id b (i + a.length)
 | [], i, _ => rfl
 | q :: a, i, h => by
  rw [List.cons_append, atFrom, if_neg (h q List.mem_cons_self), at_skip a (i + 1) fun x hx => h x (List.mem_cons_of_mem _ hx), List.length_cons]
  congr 1; omega
theorem at_in {id : Int} {b : List S69} : ∀ (a : List S69) (i : Nat), (∃ q ∈ a, q.f0 = id) → ∃ j, j < a.length ∧ atFrom id (a ++ b) i = ((i + j : Nat) : Int)
 | [], i, h => by obtain ⟨q, hq, _⟩ := h; cases hq
 | q :: a, i, h => by
  by_cases hq : q.f0 = id
  ·exact ⟨0, by simp, by rw [List.cons_append, atFrom, if_pos hq]; rfl⟩
  ·obtain ⟨j, hj, e⟩ := at_in (id := id) (b := b) a (i + 1) (by
    obtain ⟨q', hq', e⟩ := h
    rcases List.mem_cons.1 hq' with rfl | hq'
    ·exact absurd e hq
    ·exact ⟨q', hq', e⟩)
   exact ⟨j + 1, by simp; omega, by rw [List.cons_append, atFrom, if_neg hq, e]; congr 1; omega⟩
theorem id_fl (F : Fo) (d : Nat) {y : Nat} (hy : y ∈ F.ids) : ∃ q ∈ F.fl d, q.f0 = (y : Int) := by
 have h1 : (y : Int) ∈ (F.fl d).map (·.f0) := by rw [fl_map]; exact List.mem_map.2 ⟨y, hy, rfl⟩
 obtain ⟨q, hq, e⟩ := List.mem_map.1 h1
 exact ⟨q, hq, e⟩
theorem not_fl (F : Fo) (d : Nat) {y : Nat} (hy : y ∉ F.ids) : ∀ q ∈ F.fl d, q.f0 ≠ (y : Int) := fun q hq e => by
 obtain ⟨i, hi, e2⟩ := fl_ids F d hq
 rw [e2] at e
 exact hy ((show i = y by omega) ▸ hi)
theorem under_x {G : Fo} (g : Good G) {i : Nat} (hi : i ∈ G.ids) (up : Int) : Ev (fun n => spec_l2Under.f n (G.fl 0) up (i : Int)) (decide (under i (fndF G up) G)) := by
 obtain ⟨pre, post, s⟩ := spot i G 0 g.nd hi
 have hl := spot_len s
 have hll := fl_len G 0
 have hg := g.len
 have hk : pre.length < (G.fl 0).length := by omega
 have := under_f (G.fl 0) up (i : Int) pre.length hk (spot_at s) (by omega)
 rw [spot_end s] at this
 suffices e : decide (under i (fndF G up) G) = (decide (0 ≤ atI (G.fl 0) up) && (decide ((pre.length : Int) ≤ atI (G.fl 0) up) && decide (atI (G.fl 0) up ≤ ((pre.length + 1 + (sub i G).ids.length : Nat) : Int) - 1))) by
  rw [e]; exact this
 clear this
 by_cases h0 : fndF G up = 0
 ·have hu : ¬ under i (fndF G up) G := by
   rw [h0]
   rintro ⟨_, h | h⟩
   ·exact g.ne0 i hi h.symm
   ·exact g.ne0 0 (sub_ids i h) rfl
  rw [decide_eq_false hu, at_fnd0 h0 g.ne0]
  simp
 ·obtain ⟨hu, hue⟩ := fndF_mem h0
  obtain ⟨y, rfl⟩ : ∃ y : Nat, up = (y : Int) := ⟨fndF G up, hue.symm⟩
  have hy : y ∈ G.ids := by have := hu; rw [show fndF G (y : Int) = y by omega] at this; exact this
  rw [fndF_nat hy]
  have hperm := ids_del i G g.nd hi
  have hnd := hperm.nodup_iff.1 g.nd
  obtain ⟨n1, n2⟩ := List.nodup_cons.1 hnd
  obtain ⟨n3, n4, n5⟩ := List.nodup_append.1 n2
  have hal : atI (G.fl 0) (y : Int) = atFrom (y : Int) (pre ++ (⟨(i : Int), (dep i 0 G : Int), txtF i G⟩ :: ((sub i G).fl (dep i 0 G + 1) ++ post))) 0 := by rw [← s.all]; rfl
  by_cases hyi : y = i
  ·rw [decide_eq_true (show under i y G from ⟨hi, Or.inl hyi⟩), hyi, spot_at s]
   have : ((pre.length : Int) ≤ ((pre.length + 1 + (sub i G).ids.length : Nat) : Int) - 1) := by omega
   simp only [Int.natCast_nonneg, decide_true, Int.le_refl, this, Bool.and_self]
  ·by_cases hys : y ∈ (sub i G).ids
   ·rw [decide_eq_true (show under i y G from ⟨hi, Or.inr hys⟩)]
    have hyd : y ∉ (del i G).ids := fun q => n5 y hys y q rfl
    have hout : ∀ q ∈ pre ++ post, q.f0 ≠ (y : Int) := by rw [← s.del]; exact not_fl _ _ hyd
    obtain ⟨j, hj, e⟩ := at_in (id := (y : Int)) (b := post) ((sub i G).fl (dep i 0 G + 1)) (0 + pre.length + 1) (id_fl _ _ hys)
    rw [fl_len] at hj
    rw [hal, at_skip pre 0 (fun q hq => hout q (List.mem_append_left _ hq)), atFrom, if_neg (show (i : Int) ≠ (y : Int) by omega), e]
    have a1 : (0 : Int) ≤ ((0 + pre.length + 1 + j : Nat) : Int) := by omega
    have a2 : (pre.length : Int) ≤ ((0 + pre.length + 1 + j : Nat) : Int) := by omega
    have a3 : ((0 + pre.length + 1 + j : Nat) : Int) ≤ ((pre.length + 1 + (sub i G).ids.length : Nat) : Int) - 1 := by omega
    rw [decide_eq_true a1, decide_eq_true a2, decide_eq_true a3]; rfl
   ·have hnu : ¬ under i y G := by
     rintro ⟨_, h | h⟩
     ·exact hyi h
     ·exact hys h
    rw [decide_eq_false hnu]
    have hyd : y ∈ (del i G).ids := by
     have := hperm.mem_iff.1 hy
     simp only [List.mem_cons, List.mem_append] at this
     rcases this with q | q | q
     ·exact absurd q hyi
     ·exact absurd q hys
     ·exact q
    obtain ⟨q, hq, hqe⟩ := id_fl (del i G) 0 hyd
    rw [s.del] at hq
    by_cases hpre : ∃ q ∈ pre, q.f0 = (y : Int)
    ·obtain ⟨j, hj, e⟩ := at_in (id := (y : Int)) (b := (⟨(i : Int), (dep i 0 G : Int), txtF i G⟩ : S69) :: ((sub i G).fl (dep i 0 G + 1) ++ post)) pre 0 hpre
     rw [hal, e, decide_eq_false (show ¬ (pre.length : Int) ≤ ((0 + j : Nat) : Int) by omega)]
     simp
    ·have hpre' : ∀ q ∈ pre, q.f0 ≠ (y : Int) := fun q hq e => hpre ⟨q, hq, e⟩
     have hpost : ∃ q ∈ post, q.f0 = (y : Int) := by
      rcases List.mem_append.1 hq with h | h
      ·exact absurd hqe (hpre' q h)
      ·exact ⟨q, h, hqe⟩
     obtain ⟨j, hj, e⟩ := at_in (id := (y : Int)) (b := []) post (0 + pre.length + 1 + ((sub i G).fl (dep i 0 G + 1)).length) hpost
     rw [List.append_nil] at e
     rw [hal, at_skip pre 0 hpre', atFrom, if_neg (show (i : Int) ≠ (y : Int) by omega), at_skip _ _ (not_fl _ _ hys), e, fl_len]
     rw [decide_eq_false (show ¬ ((0 + pre.length + 1 + (sub i G).ids.length + j : Nat) : Int) ≤ ((pre.length + 1 + (sub i G).ids.length : Nat) : Int) - 1 by omega)]
     simp
theorem fl_shift : ∀ (F : Fo) (d d' : Nat) (δ : Int), (d' : Int) = d + δ → d' + F.ids.length ≤ 1000000 → (F.fl d).map (shift δ) = F.fl d'
 | .nil, _, _, _, _, _ => rfl
 | .nd i t k n, d, d', δ, h, hl => by
  simp only [Fo.ids, List.length_cons, List.length_append] at hl
  simp only [Fo.fl, List.map_cons, List.map_append]
  rw [fl_shift k (d + 1) (d' + 1) δ (by omega) (by omega), fl_shift n d d' δ h (by omega)]
  congr 1
  show (⟨(i : Int), wrap64 ((d : Int) + δ), t⟩ : S69) = _
  rw [wrap_id _ (by omega) (by omega), h]
theorem put_x (t rows : List S69) (u a : Int) (hl : t.length ≤ 1000000) (hr : rows.length ≤ 1000000) (h0 : 0 < rows.length) (j : Nat) (hj : j < t.length) (e1 : atI t u = (j : Int)) (p : Nat)
  (hc : (a > 0 ∧ ∃ i : Nat, i < t.length ∧ atI t a = (i : Int) ∧ p = endI t i) ∨ (¬ a > 0 ∧ p = j + 1)) :
  Ev (fun k => spec_l3Put.f k t rows u a) (t.take p ++ rows.map (shift (wrap64 (wrap64 (t[j].f1 + 1) - rows[0].f1))) ++ t.drop p) := by
 have fin : ∀ (p : Nat), p ≤ t.length → Ev (fun k => spec_l3Put.j0 k t rows (wrap64 (wrap64 (t[j].f1 + 1) - rows[0].f1)) p) (t.take p ++ rows.map (shift (wrap64 (wrap64 (t[j].f1 + 1) - rows[0].f1))) ++ t.drop p) := fun p hp => by
  refine Ev.step (fun k => by simp only [spec_l3Put.j0]; rfl) ?_
  simp only [Option.bind_some]
  refine ev_pos (by omega) (ev_pos (by omega) ?_)
  refine ev_pos (by simp; omega) ?_
  simp only [List.nil_append, Int.toNat_natCast]
  have := put_l0 t rows (wrap64 (wrap64 (t[j].f1 + 1) - rows[0].f1)) p hp hl hr rows.length 0 (t.take p) (by omega) (by rw [List.length_take]; omega)
  simpa using this
 have r0 : rd_T69 rows 0 = rows[0] := rdR_get rows 0 h0
 rcases hc with ⟨h, i, hi, e3, rfl⟩ | ⟨h, rfl⟩
 ·obtain ⟨_, e5, _, _⟩ := endI_spec t i hi
  unfold spec_l3Put.f
  refine Ev.bind (at_f t u (by omega)) ?_
  rw [e1]
  refine ev_pos (by omega) (ev_pos (by omega) (ev_pos (by omega) (ev_pos h ?_)))
  refine Ev.bind (at_f t a (by omega)) ?_
  rw [e3]
  refine Ev.bind (end_f t i hi (by omega)) ?_
  rw [rdR_get t j hj, r0]
  exact fin _ e5
 ·unfold spec_l3Put.f
  refine Ev.bind (at_f t u (by omega)) ?_
  rw [e1]
  refine ev_pos (by omega) (ev_pos (by omega) (ev_pos (by omega) (ev_neg h ?_)))
  rw [rdR_get t j hj, r0, wrapS j (by omega) (by omega)]
  exact fin (j + 1) (by omega)
theorem put_F {G : Fo} (hn : G.ids.Nodup) (h0 : ∀ x ∈ G.ids, x ≠ 0) (hlen : G.ids.length ≤ 1000) (p : Nat × Nat) (hu : p.1 ∈ G.ids) (ha : p.2 = 0 ∨ (p.2 ∈ G.ids ∧ par p.2 0 G = p.1)) (i di : Nat) (t : ByteArray) (s : Fo) (hd : di ≤ 1000) (hs : s.ids.length ≤ 1000) :
  Ev (fun k => spec_l3Put.f k (G.fl 0) (⟨(i : Int), (di : Int), t⟩ :: s.fl (di + 1)) (p.1 : Int) (p.2 : Int)) ((putF G p i t s).fl 0) := by
 obtain ⟨u, a⟩ := p
 simp only at hu ha ⊢
 obtain ⟨pre, post, sp⟩ := spot u G 0 hn hu
 have hl := spot_len sp
 have hll := fl_len G 0
 have hj : pre.length < (G.fl 0).length := by omega
 have hdu := dep_le u G 0 hn hu
 have hrl : ((⟨(i : Int), (di : Int), t⟩ : S69) :: s.fl (di + 1)).length ≤ 1000000 := by rw [List.length_cons, fl_len]; omega
 have hδ : wrap64 (wrap64 (((G.fl 0)[pre.length]'hj).f1 + 1) - (((⟨(i : Int), (di : Int), t⟩ : S69) :: s.fl (di + 1))[0]'(by simp)).f1) = (dep u 0 G : Int) + 1 - di := by
  rw [spot_get sp hj]
  show wrap64 (wrap64 ((dep u 0 G : Int) + 1) - (di : Int)) = _
  rw [wrap_id ((dep u 0 G : Int) + 1) (by omega) (by omega), wrap_id _ (by omega) (by omega)]
 have hrows : ((⟨(i : Int), (di : Int), t⟩ : S69) :: s.fl (di + 1)).map (shift ((dep u 0 G : Int) + 1 - di)) = ⟨(i : Int), ((dep u 0 G + 1 : Nat) : Int), t⟩ :: s.fl (dep u 0 G + 2) := by
  rw [List.map_cons, fl_shift s (di + 1) (dep u 0 G + 2) _ (by omega) (by omega)]
  congr 1
  show (⟨(i : Int), wrap64 ((di : Int) + ((dep u 0 G : Int) + 1 - di)), t⟩ : S69) = _
  rw [wrap_id _ (by omega) (by omega)]
  congr 1; omega
 unfold putF
 by_cases ha0 : a = 0
 ·subst ha0
  rw [if_pos rfl]
  have := put_x (G.fl 0) (⟨(i : Int), (di : Int), t⟩ :: s.fl (di + 1)) (u : Int) ((0 : Nat) : Int) (by omega) hrl (by simp) pre.length hj (spot_at sp) (pre.length + 1) (Or.inr ⟨by omega, rfl⟩)
  rw [hδ, hrows] at this
  have e1 : (G.fl 0).take (pre.length + 1) = pre ++ [⟨(u : Int), (dep u 0 G : Int), txtF u G⟩] := by
   rw [sp.all, show pre ++ (⟨(u : Int), (dep u 0 G : Int), txtF u G⟩ :: ((sub u G).fl (dep u 0 G + 1) ++ post)) = (pre ++ [⟨(u : Int), (dep u 0 G : Int), txtF u G⟩]) ++ ((sub u G).fl (dep u 0 G + 1) ++ post) by simp]
   exact List.take_left' (by simp)
  have e2 : (G.fl 0).drop (pre.length + 1) = (sub u G).fl (dep u 0 G + 1) ++ post := by
   rw [sp.all, List.drop_append]; simp
  rw [e1, e2] at this
  rw [sp.first]
  simpa using this
 ·rw [if_neg ha0]
  obtain ⟨haG, hap⟩ := ha.resolve_left ha0
  obtain ⟨pre', post', sa⟩ := spot a G 0 hn haG
  have hl' := spot_len sa
  have hda : dep a 0 G = dep u 0 G + 1 := by
   rcases dep_par a G 0 0 hn haG with ⟨_, _, h⟩ | ⟨_, h⟩
   ·rw [hap] at h; exact absurd h (h0 u hu)
   ·rw [h, hap]
  have := put_x (G.fl 0) (⟨(i : Int), (di : Int), t⟩ :: s.fl (di + 1)) (u : Int) (a : Int) (by omega) hrl (by simp) pre.length hj (spot_at sp) (pre'.length + 1 + (sub a G).ids.length) (Or.inl ⟨by omega, pre'.length, by omega, spot_at sa, (spot_end sa).symm⟩)
  rw [hδ, hrows] at this
  have e0 : (sub a G).ids.length = ((sub a G).fl (dep a 0 G + 1)).length := (fl_len _ _).symm
  have e1 : (G.fl 0).take (pre'.length + 1 + (sub a G).ids.length) = pre' ++ ⟨(a : Int), (dep a 0 G : Int), txtF a G⟩ :: (sub a G).fl (dep a 0 G + 1) := by
   rw [sa.all, e0, show pre' ++ (⟨(a : Int), (dep a 0 G : Int), txtF a G⟩ :: ((sub a G).fl (dep a 0 G + 1) ++ post')) = (pre' ++ ⟨(a : Int), (dep a 0 G : Int), txtF a G⟩ :: (sub a G).fl (dep a 0 G + 1)) ++ post' by simp]
   exact List.take_left' (by simp; omega)
  have e2 : (G.fl 0).drop (pre'.length + 1 + (sub a G).ids.length) = post' := by
   rw [sa.all, e0, show pre' ++ (⟨(a : Int), (dep a 0 G : Int), txtF a G⟩ :: ((sub a G).fl (dep a 0 G + 1) ++ post')) = (pre' ++ ⟨(a : Int), (dep a 0 G : Int), txtF a G⟩ :: (sub a G).fl (dep a 0 G + 1)) ++ post' by simp]
   exact List.drop_left' (by simp; omega)
  rw [e1, e2] at this
  rw [sa.after, hda, show dep u 0 G + 1 + 1 = dep u 0 G + 2 by omega]
  rw [hda] at this
  simpa using this
theorem set_mid {pre rest : List S69} {r r' : S69} : (pre ++ r :: rest).set pre.length r' = pre ++ r' :: rest := by
 rw [List.set_append_right _ _ (Nat.le_refl _), Nat.sub_self, List.set_cons_zero]
theorem where_x {G : Fo} (g : Good G) (kd : Int) (i : Nat) (hi0 : i ≠ 0) (up at_ : Int) (s : ByteArray) (hk : kd = 1 ∨ kd = 3) :
  Ev (fun n => spec_l3Where.f n (G.fl 0) kd (i : Int) up at_ s) (if (kd = 1 ∧ i ∉ G.ids) ∨ (kd = 3 ∧ i ∈ G.ids ∧ ¬ under i (fndF G up) G) then (((nearF G (i : Int) up at_).1 : Int), ((nearF G (i : Int) up at_).2 : Int), true) else (0, 0, false)) := by
 have none_ : ∀ f : Nat → Option (Int × Int × Bool), (∀ n, f n = spec_l3Where.j0 n (G.fl 0) true kd (i : Int) up at_ s) → Ev f (0, 0, false) := fun f hf =>
  Ev.congr hf (Ev.step (f := fun _ => some (0, 0, false)) (fun n => by simp only [spec_l3Where.j0, if_true]) (evnow _))
 have hll := fl_len G 0
 have hg := g.len
 have h2 : kd ≠ 2 := by rcases hk with rfl | rfl <;> decide
 unfold spec_l3Where.f
 refine Ev.bind (at_f (G.fl 0) i (by omega)) (ev_neg h2 ?_)
 by_cases hi : i ∈ G.ids
 ·obtain ⟨pre, post, sp⟩ := spot i G 0 g.nd hi
  rw [spot_at sp]
  have hd : decide ((pre.length : Int) ≥ 0) = true := decide_eq_true (by omega)
  rw [hd]
  rcases hk with rfl | rfl
  ·rw [if_neg (show ¬ ((1 : Int) = 1 ∧ i ∉ G.ids ∨ (1 : Int) = 3 ∧ i ∈ G.ids ∧ ¬ under i (fndF G up) G) by simp [hi])]
   exact ev_pos (by decide) (none_ _ fun n => rfl)
  ·refine ev_neg (by decide) (ev_pos (by omega) ?_)
   refine Ev.bind (under_x g hi up) ?_
   by_cases hu : under i (fndF G up) G
   ·rw [if_neg (by simp [hu])]
    exact none_ _ fun n => by simp only [decide_eq_true hu]
   ·rw [if_pos (Or.inr ⟨rfl, hi, hu⟩)]
    exact Ev.congr (fun n => by simp only [decide_eq_false hu]) (near_x g 3 (i : Int) up at_ s)
 ·have hf : fndF G (i : Int) = 0 := (fndF_zero g.ne0).2 fun y hy e => hi ((show y = i by omega) ▸ hy)
  rw [at_fnd0 hf g.ne0]
  rcases hk with rfl | rfl
  ·rw [if_pos (Or.inl ⟨rfl, hi⟩)]
   refine ev_neg (by decide) (ev_neg (by decide) ?_)
   exact near_x g 1 (i : Int) up at_ s
  ·rw [if_neg (by simp [hi])]
   exact ev_pos (by decide) (none_ _ fun n => rfl)
theorem fndF_cases {G : Fo} (g : Good G) (i : Nat) : (i ∈ G.ids ∧ fndF G (i : Int) = i) ∨ (i ∉ G.ids ∧ fndF G (i : Int) = 0) := by
 by_cases hi : i ∈ G.ids
 ·exact Or.inl ⟨hi, fndF_nat hi⟩
 ·exact Or.inr ⟨hi, (fndF_zero g.ne0).2 fun y hy e => hi ((show y = i by omega) ▸ hy)⟩
theorem do_x {G : Fo} (g : Good G) (kd : Int) (i : Nat) (hi0 : i ≠ 0) (hit : i ∉ G.tops) (up at_ : Int) (s : ByteArray) (hk : kd = 1 ∨ kd = 2 ∨ kd = 3) :
  Ev (fun n => spec_l3Do.f n (G.fl 0) kd (i : Int) up at_ s) ((doF G kd (i : Int) up at_ s).fl 0) := by
 have hll := fl_len G 0
 have hg := g.len
 have same : ∀ f : Nat → Option (List S69), (∀ n, f n = ((some (([] : List S69) : List S69)).bind fun y => (if y.length + (G.fl 0).length < 4398046511104 then (some (y ++ G.fl 0)) else none))) → Ev f (G.fl 0) := fun f hf => Ev.congr hf (by
  simp only [Option.bind_some, List.nil_append]
  exact ev_pos (by simp; omega) (evnow _))
 unfold spec_l3Do.f doF
 rcases hk with rfl | rfl | rfl
 ·rw [if_neg (by decide), if_pos rfl]
  refine Ev.bind (at_f (G.fl 0) i (by omega)) (ev_neg (by decide) ?_)
  refine Ev.bind (where_x g 1 i hi0 up at_ s (Or.inl rfl)) ?_
  rcases fndF_cases g i with ⟨hi, hf⟩ | ⟨hi, hf⟩
  ·rw [hf, if_neg hi0, if_neg (by simp [hi])]
   exact ev_neg (by simp) (same _ fun n => rfl)
  ·rw [hf, if_pos rfl, if_pos (Or.inl ⟨rfl, hi⟩)]
   refine ev_pos rfl (ev_pos rfl ?_)
   have hp := near_ok (G := G) (tops_ids g.three) (i : Int) up at_
   have := put_F g.nd g.ne0 hg (nearF G (i : Int) up at_) hp.up (hp.at_.imp id fun ⟨a1, a2, _⟩ => ⟨a1, a2⟩) i 0 s .nil (by omega) (by simp [Fo.ids])
   exact Ev.bind this (evnow _)
 ·rw [if_pos rfl]
  refine Ev.bind (at_f (G.fl 0) i (by omega)) (ev_pos rfl ?_)
  simp only [Option.bind_some]
  refine ev_pos (by simp; omega) ?_
  rcases fndF_cases g i with ⟨hi, hf⟩ | ⟨hi, hf⟩
  ·rw [hf, if_neg hi0]
   obtain ⟨pre, post, sp⟩ := spot i G 0 g.nd hi
   have hl := spot_len sp
   have hj : pre.length < (G.fl 0).length := by omega
   rw [spot_at sp]
   simp only [List.nil_append, Int.toNat_natCast, rdR_get (G.fl 0) pre.length hj]
   refine ev_pos (by omega) (ev_pos (by omega) (ev_pos (by omega) ?_))
   have : (G.fl 0).set pre.length (⟨((G.fl 0)[pre.length]'hj).f0, ((G.fl 0)[pre.length]'hj).f1, s⟩ : S69) = (setF i s G).fl 0 := by
    rw [spot_get sp hj, sp.text, sp.all]
    exact set_mid
   rw [this]
   exact evnow _
  ·rw [hf, if_pos rfl, at_fnd0 hf g.ne0]
   simp only [List.nil_append]
   exact ev_neg (by omega) (evnow _)
 ·rw [if_neg (by decide), if_neg (by decide)]
  refine Ev.bind (at_f (G.fl 0) i (by omega)) (ev_neg (by decide) ?_)
  refine Ev.bind (where_x g 3 i hi0 up at_ s (Or.inr rfl)) ?_
  rcases fndF_cases g i with ⟨hi, hf⟩ | ⟨hi, hf⟩
  ·rw [hf, if_neg hi0]
   by_cases hu : under i (fndF G up) G
   ·rw [if_pos hu, if_neg (by simp [hu])]
    exact ev_neg (by simp) (same _ fun n => rfl)
   ·rw [if_neg hu, if_pos (Or.inr ⟨rfl, hi, hu⟩)]
    obtain ⟨pre, post, sp⟩ := spot i G 0 g.nd hi
    have hl := spot_len sp
    have hj : pre.length < (G.fl 0).length := by omega
    rw [spot_at sp]
    refine ev_pos rfl (ev_neg (by decide) ?_)
    refine Ev.bind (end_f (G.fl 0) pre.length hj (by omega)) ?_
    rw [spot_end sp]
    have e0 : (sub i G).ids.length = ((sub i G).fl (dep i 0 G + 1)).length := (fl_len _ _).symm
    have eall : G.fl 0 = (pre ++ ⟨(i : Int), (dep i 0 G : Int), txtF i G⟩ :: (sub i G).fl (dep i 0 G + 1)) ++ post := by rw [sp.all]; simp
    have eT : (G.fl 0).take (pre.length + 1 + (sub i G).ids.length) = pre ++ ⟨(i : Int), (dep i 0 G : Int), txtF i G⟩ :: (sub i G).fl (dep i 0 G + 1) := by
     rw [eall, e0]; exact List.take_left' (by simp; omega)
    have eD : (G.fl 0).drop (pre.length + 1 + (sub i G).ids.length) = post := by
     rw [eall, e0]; exact List.drop_left' (by simp; omega)
    have eP : (G.fl 0).take pre.length = pre := by rw [sp.all]; exact List.take_left' rfl
    have eM : (pre ++ (⟨(i : Int), (dep i 0 G : Int), txtF i G⟩ : S69) :: (sub i G).fl (dep i 0 G + 1)).drop pre.length = ⟨(i : Int), (dep i 0 G : Int), txtF i G⟩ :: (sub i G).fl (dep i 0 G + 1) := List.drop_left' rfl
    simp only [Option.bind_some, Int.toNat_natCast]
    refine ev_pos (by omega) (ev_pos (by omega) (ev_pos (by omega) ?_))
    refine ev_pos (by rw [List.length_drop, List.length_take]; simp; omega) ?_
    refine ev_pos (by omega) ?_
    refine ev_pos (by rw [List.length_take]; simp; omega) ?_
    refine ev_pos (by omega) ?_
    refine ev_pos (by rw [List.length_append, List.length_take, List.length_drop]; simp; omega) ?_
    simp only [List.nil_append]
    rw [eT, eM, eP, eD, ← sp.del]
    obtain ⟨h, hr⟩ := reptop_ex G g.nd g.ne0
    have hp := near_del hr g.nd g.three hi hit (id := (i : Int)) (up := up) (at_ := at_) rfl hu
    have hperm := ids_del i G g.nd hi
    obtain ⟨n1, n2⟩ := List.nodup_cons.1 (hperm.nodup_iff.1 g.nd)
    obtain ⟨n3, n4, n5⟩ := List.nodup_append.1 n2
    have hlens := hperm.length_eq
    simp only [List.length_cons, List.length_append] at hlens
    have hd := dep_le i G 0 g.nd hi
    have := put_F (G := FP.del i G) n4 (fun x hx => g.ne0 x (del_ids_sub i hx)) (by omega) (nearF G (i : Int) up at_) hp.1 (hp.2.imp id fun ⟨a1, a2, _⟩ => ⟨a1, by
     rw [par_del i _ G 0 g.nd a1, ← reptop_par hr g.nd (del_ids_sub i a1)]; exact a2⟩) i (dep i 0 G) (txtF i G) (sub i G) (by omega) (by omega)
    exact Ev.bind this (evnow _)
  ·rw [hf, if_pos rfl, if_neg (by simp [hi])]
   exact ev_neg (by simp) (same _ fun n => rfl)
theorem good_fold : ∀ (l : List S69) (G : Fo) (seen : List Int) (roots : Nat), treeGo seen (roots : Int) ((dpth G : Int) - 1) l = true → G.ids.Nodup → (∀ x ∈ G.ids, x ≠ 0 ∧ x < 37 ∧ (x : Int) ∈ seen) → G.tops = List.range' 1 roots →
  (l.foldl (fun G x => snoc x.f0.toNat x.f2 x.f1.toNat G) G).ids.Nodup ∧ (∀ x ∈ (l.foldl (fun G x => snoc x.f0.toNat x.f2 x.f1.toNat G) G).ids, x ≠ 0 ∧ x < 37) ∧ (l.foldl (fun G x => snoc x.f0.toNat x.f2 x.f1.toNat G) G).tops = [1, 2, 3]
 | [], G, seen, roots, h, hn, hs, ht => by
  unfold treeGo at h
  have h3 := of_decide_eq_true h
  refine ⟨hn, fun x hx => ⟨(hs x hx).1, (hs x hx).2.1⟩, ?_⟩
  show G.tops = _
  rw [ht, show roots = 3 by omega]; rfl
 | x :: l, G, seen, roots, h, hn, hs, ht => by
  unfold treeGo at h
  simp only [Bool.and_eq_true, decide_eq_true_eq] at h
  obtain ⟨hrow, hns, hdep, hrest⟩ := h
  obtain ⟨b0, b37, d0, d18⟩ := rowB_id hrow
  have he : x.f1.toNat ≤ dpth G := by omega
  have hd : ((dpth (snoc x.f0.toNat x.f2 x.f1.toNat G) : Int) - 1) = x.f1 := by rw [snoc_dpth _ _ G _ he]; omega
  have hx0 : x.f0.toNat ≠ 0 := by
   intro e
   have e2 : x.f0 = 0 := by omega
   unfold rowB at hrow
   rw [e2] at hrow
   have r0 : rootB (0 : Int) = false := by decide
   have m0 : madeB (0 : Int) = false := by decide
   simp [r0, m0] at hrow
  have hi : x.f0.toNat ∉ G.ids := fun hc => hns (by have := (hs _ hc).2.2; rwa [show ((x.f0.toNat : Nat) : Int) = x.f0 by omega] at this)
  have hn2 : (snoc x.f0.toNat x.f2 x.f1.toNat G).ids.Nodup := by
   rw [snoc_ids]
   exact List.nodup_append.2 ⟨hn, by simp, fun a ha b hb e => by rw [List.mem_singleton.1 hb] at e; exact hi (e ▸ ha)⟩
  have hs2 : ∀ y ∈ (snoc x.f0.toNat x.f2 x.f1.toNat G).ids, y ≠ 0 ∧ y < 37 ∧ (y : Int) ∈ x.f0 :: seen := fun y hy => by
   rw [snoc_ids] at hy
   rcases List.mem_append.1 hy with hy | hy
   ·obtain ⟨q1, q2, q3⟩ := hs y hy; exact ⟨q1, q2, List.mem_cons_of_mem _ q3⟩
   ·rw [List.mem_singleton.1 hy]
    exact ⟨hx0, by omega, by rw [show ((x.f0.toNat : Nat) : Int) = x.f0 by omega]; exact List.mem_cons_self⟩
  rw [List.foldl_cons]
  by_cases hroot : rootB x.f0 = true
  ·rw [if_pos hroot, Bool.and_eq_true, decide_eq_true_eq] at hrest
   have hd0 : x.f1 = 0 := by
    unfold rowB at hrow
    rw [if_pos hroot] at hrow
    simp only [Bool.and_eq_true, decide_eq_true_eq] at hrow
    exact hrow.1
   refine good_fold l _ (x.f0 :: seen) (roots + 1) ?_ hn2 hs2 ?_
   ·rw [hd]; exact hrest.2
   ·rw [snoc_tops _ _ G _ he, if_pos (by omega), ht, List.range'_concat]
    rw [show x.f0.toNat = 1 + 1 * roots by omega]
  ·rw [if_neg hroot] at hrest
   have hd1 : 1 ≤ x.f1 := by
    unfold rowB at hrow
    rw [if_neg hroot] at hrow
    simp only [Bool.and_eq_true, decide_eq_true_eq] at hrow
    exact hrow.2.1
   refine good_fold l _ (x.f0 :: seen) roots ?_ hn2 hs2 ?_
   ·rw [hd]; exact hrest
   ·rw [snoc_tops _ _ G _ he, if_neg (by omega), ht]
theorem good_of {l : List S69} (h : treeB l = true) : Good (toFo l) := by
 obtain ⟨h1, h2, h3⟩ := good_fold l .nil [] 0 h (by simp [Fo.ids]) (by simp [Fo.ids]) rfl
 exact ⟨h1, fun x hx => (h2 x hx).1, h3, by have := nodup_len 37 _ h1 (fun x hx => (h2 x hx).2); unfold toFo; omega⟩
theorem opB_kind {k i u a : Int} {s : ByteArray} (h : opB k i u a s = true) : k = 1 ∨ k = 2 ∨ k = 3 := by
 unfold opB at h
 by_cases h1 : k = 1
 ·exact Or.inl h1
 ·by_cases h2 : k = 2
  ·exact Or.inr (Or.inl h2)
  ·by_cases h3 : k = 3
   ·exact Or.inr (Or.inr h3)
   ·rw [if_neg h1, if_neg h2, if_neg h3] at h; simp at h
def opDoR (l : List S69) (k i u a : Int) (s : ByteArray) : List S69 := if opB k i u a s = true then (if treeB l = true then (doF (toFo l) k i u a s).fl 0 else []) else []
theorem iopDo_f (l : List S69) (k i u a : Int) (s : ByteArray) (hs : s.size ≤ 9223372036854775807) : Ev (fun n => impl_OpDo.f n l k i u a s) (opDoR l k i u a s) := by
 unfold impl_OpDo.f opDoR
 exact Ev.bind (opOk_f k i u a s hs) (evnow _)
def okT (x : Nat) (t : ByteArray) : Bool := if rootB (x : Int) then (t.toList == ([] : List UInt8)) else madeB (x : Int) && textB t
structure Val (G : Fo) : Prop where
 nd : G.ids.Nodup
 tops : G.tops = [1, 2, 3]
 ok : ∀ x ∈ G.ids, okT x (txtF x G) = true
theorem okT_ne {x : Nat} {t : ByteArray} (h : okT x t = true) : 1 ≤ x ∧ x < 37 := by
 unfold okT at h
 by_cases hr : rootB (x : Int) = true
 ·unfold rootB at hr; simp only [Bool.and_eq_true, decide_eq_true_eq] at hr; omega
 ·rw [if_neg hr, Bool.and_eq_true] at h
  have := made_small _ h.1
  obtain ⟨m, hm, h4, h37⟩ := made_num h.1
  omega
theorem Val.ne0 {G : Fo} (v : Val G) : ∀ x ∈ G.ids, x ≠ 0 := fun x hx => by have := okT_ne (v.ok x hx); omega
theorem Val.three {G : Fo} (v : Val G) : 3 ∈ G.tops := by rw [v.tops]; simp
theorem made_not_root {x : Int} (h : madeB x = true) : rootB x = false := by
 obtain ⟨m, rfl, h4, h37⟩ := made_num h
 unfold rootB; simp; omega
theorem Val.top {G : Fo} (v : Val G) {x : Nat} (hm : madeB (x : Int) = true) : x ∉ G.tops := by
 have := made_not_root hm
 rw [v.tops]
 intro h
 simp only [List.mem_cons, List.not_mem_nil, or_false] at h
 rcases h with rfl | rfl | rfl <;> exact absurd this (by decide)
theorem sub_len : ∀ (l m : List Nat), l.Nodup → (∀ x ∈ l, x ∈ m) → l.length ≤ m.length
 | [], m, _, _ => Nat.zero_le _
 | x :: l, m, hn, h => by
  obtain ⟨h1, h2⟩ := List.nodup_cons.1 hn
  have := sub_len l (m.erase x) h2 fun y hy => (List.mem_erase_of_ne (fun (e : y = x) => h1 (e ▸ hy))).2 (h y (List.mem_cons_of_mem _ hy))
  rw [List.length_erase_of_mem (h x List.mem_cons_self)] at this
  have := List.length_pos_of_mem (h x List.mem_cons_self)
  simp only [List.length_cons]; omega
theorem made_list : ∀ n : Nat, n < 37 → madeB (n : Int) = true → n ∈ [11, 12, 13, 14, 15, 16, 21, 22, 23, 24, 25, 26, 31, 32, 33, 34, 35, 36] := by decide
theorem all_list : ∀ n : Nat, n < 37 → (rootB (n : Int) || madeB (n : Int)) = true → n ∈ [1, 2, 3, 11, 12, 13, 14, 15, 16, 21, 22, 23, 24, 25, 26, 31, 32, 33, 34, 35, 36] := by decide
theorem Val.len {G : Fo} (v : Val G) : G.ids.length ≤ 21 := sub_len _ [1, 2, 3, 11, 12, 13, 14, 15, 16, 21, 22, 23, 24, 25, 26, 31, 32, 33, 34, 35, 36] v.nd fun x hx => by
 have h := v.ok x hx
 have h2 := okT_ne h
 refine all_list x h2.2 ?_
 unfold okT at h
 by_cases hr : rootB (x : Int) = true
 ·rw [hr]; rfl
 ·rw [if_neg hr, Bool.and_eq_true] at h
  rw [h.1, Bool.or_true]
theorem made_of_ok {x : Nat} {t : ByteArray} (h : okT x t = true) (h3 : 4 ≤ x) : madeB (x : Int) = true ∧ textB t = true := by
 unfold okT at h
 have hr : ¬ rootB (x : Int) = true := by unfold rootB; simp; omega
 rwa [if_neg hr, Bool.and_eq_true] at h
theorem treeGo_rows : ∀ (l : List S69) (seen : List Int) (roots d : Int), treeGo seen roots d l = true → ∀ r ∈ l, rowB r = true
 | [], _, _, _, _, r, hr => by cases hr
 | x :: l, seen, roots, d, h, r, hr => by
  unfold treeGo at h
  simp only [Bool.and_eq_true] at h
  obtain ⟨h1, _, _, h2⟩ := h
  rcases List.mem_cons.1 hr with rfl | hr
  ·exact h1
  ·split at h2
   ·simp only [Bool.and_eq_true] at h2; exact treeGo_rows l _ _ _ h2.2 r hr
   ·exact treeGo_rows l _ _ _ h2 r hr
theorem row_fl {G : Fo} (hn : G.ids.Nodup) {x d : Nat} (hx : x ∈ G.ids) : (⟨(x : Int), (dep x d G : Int), txtF x G⟩ : S69) ∈ G.fl d := by
 obtain ⟨pre, post, s⟩ := spot x G d hn hx
 rw [s.all]; simp
theorem val_of {l : List S69} (h : treeB l = true) : Val (toFo l) := by
 have g := good_of h
 refine ⟨g.nd, g.tops, fun x hx => ?_⟩
 have hr := row_fl g.nd (d := 0) hx
 rw [toFo_fl h] at hr
 have := treeGo_rows l _ _ _ h _ hr
 unfold rowB at this
 unfold okT
 simp only at this
 split
 ·rename_i e; rw [if_pos e, Bool.and_eq_true] at this; exact this.2
 ·rename_i e; rw [if_neg e] at this; simp only [Bool.and_eq_true] at this; rw [this.1, this.2.2.2]; rfl
theorem go_in : ∀ (F : Fo) (d : Nat) (seen : List Int) (roots prev : Int) (rest : List S69), 1 ≤ d → (d : Int) ≤ prev + 1 → F.ids.Nodup → (∀ x ∈ F.ids, (x : Int) ∉ seen) → (∀ r ∈ F.fl d, rowB r = true ∧ rootB r.f0 = false) →
  (∀ (seen' : List Int) (prev' : Int), (d : Int) ≤ prev' + 1 → (∀ y, y ∈ seen' ↔ y ∈ seen ∨ ∃ x ∈ F.ids, y = (x : Int)) → treeGo seen' roots prev' rest = true) → treeGo seen roots prev (F.fl d ++ rest) = true
 | .nil, d, seen, roots, prev, rest, h1, hd, hn, hs, hr, k => k seen prev hd fun y => by simp [Fo.ids]
 | .nd j t k n, d, seen, roots, prev, rest, h1, hd, hn, hs, hr, kk => by
  obtain ⟨n1, n2, n3, n4, n5⟩ := nodup_nd hn
  obtain ⟨q1, q2⟩ := hr ⟨(j : Int), (d : Int), t⟩ (by simp [Fo.fl])
  simp only at q2
  rw [Fo.fl, List.cons_append, List.append_assoc]
  unfold treeGo
  simp only [q1, q2, Bool.true_and, Bool.false_eq_true, if_false]
  rw [decide_eq_true (hs j (by simp [Fo.ids])), decide_eq_true hd, Bool.true_and, Bool.true_and]
  refine go_in k (d + 1) _ roots d _ (by omega) (by omega) n3 (fun x hx => ?_) (fun r hr' => hr r (by simp [Fo.fl, hr'])) fun seen1 prev1 hp1 hs1 => ?_
  ·rw [List.mem_cons, not_or]
   exact ⟨fun e => n1 (by rw [show j = x by omega]; exact hx), hs x (by simp [Fo.ids, hx])⟩
  ·refine go_in n d seen1 roots prev1 rest h1 (by omega) n4 (fun x hx => ?_) (fun r hr' => hr r (by simp [Fo.fl, hr'])) fun seen2 prev2 hp2 hs2 => ?_
   ·rw [hs1, List.mem_cons]
    rintro ((e | e) | ⟨z, hz, e⟩)
    ·exact n2 (by rw [show j = x by omega]; exact hx)
    ·exact hs x (by simp [Fo.ids, hx]) e
    ·exact n5 z hz (by rw [show z = x by omega]; exact hx)
   ·refine kk seen2 prev2 hp2 fun y => ?_
    rw [hs2, hs1]
    simp only [Fo.ids, List.mem_cons, List.mem_append]
    constructor
    ·rintro (((e | e) | ⟨x, hx, e⟩) | ⟨x, hx, e⟩)
     ·exact Or.inr ⟨j, Or.inl rfl, e⟩
     ·exact Or.inl e
     ·exact Or.inr ⟨x, Or.inr (Or.inl hx), e⟩
     ·exact Or.inr ⟨x, Or.inr (Or.inr hx), e⟩
    ·rintro (e | ⟨x, rfl | hx | hx, e⟩)
     ·exact Or.inl (Or.inl (Or.inr e))
     ·exact Or.inl (Or.inl (Or.inl e))
     ·exact Or.inl (Or.inr ⟨x, hx, e⟩)
     ·exact Or.inr ⟨x, hx, e⟩
theorem fl_get {F : Fo} {d : Nat} {r : S69} (hn : F.ids.Nodup) (h : r ∈ F.fl d) : ∃ x ∈ F.ids, r = ⟨(x : Int), (dep x d F : Int), txtF x F⟩ := by
 obtain ⟨x, hx, e⟩ := fl_ids F d h
 obtain ⟨pre, post, s⟩ := spot x F d hn hx
 refine ⟨x, hx, ?_⟩
 have hm := fl_map F d
 have hnd : ((F.fl d).map (·.f0)).Nodup := by
  rw [hm]
  exact (List.pairwise_map.2 (List.Pairwise.imp (fun {a b} (hne : a ≠ b) => (by intro e2; exact hne (Int.ofNat.inj e2) : Int.ofNat a ≠ Int.ofNat b)) hn))
 rw [s.all] at h hnd
 rw [List.map_append, List.map_cons, List.nodup_append] at hnd
 obtain ⟨_, h2, h3⟩ := hnd
 rcases List.mem_append.1 h with h | h
 ·exact absurd e (s.out r h)
 ·rcases List.mem_cons.1 h with h | h
  ·exact h
  ·exfalso
   refine (List.nodup_cons.1 h2).1 ?_
   rw [← e]
   exact List.mem_map.2 ⟨r, h, rfl⟩
theorem three_shape {G : Fo} (h : G.tops = [1, 2, 3]) : ∃ t1 k1 t2 k2 t3 k3, G = .nd 1 t1 k1 (.nd 2 t2 k2 (.nd 3 t3 k3 .nil)) := by
 match G, h with
 | .nd a t1 k1 (.nd b t2 k2 (.nd c t3 k3 .nil)), h =>
  simp only [Fo.tops, List.cons.injEq, and_true] at h
  obtain ⟨rfl, rfl, rfl⟩ := h
  exact ⟨t1, k1, t2, k2, t3, k3, rfl⟩
theorem treeB_fl {G : Fo} (v : Val G) : treeB (G.fl 0) = true := by
 have hok := v.ok
 have hnd := v.nd
 obtain ⟨t1, k1, t2, k2, t3, k3, rfl⟩ := three_shape v.tops
 obtain ⟨a1, a2, a3, a4, a5⟩ := nodup_nd hnd
 obtain ⟨b1, b2, b3, b4, b5⟩ := nodup_nd a4
 obtain ⟨c1, c2, c3, c4, c5⟩ := nodup_nd b4
 simp only [Fo.ids, List.mem_cons, List.mem_append, not_or, List.not_mem_nil, or_false, not_false_eq_true, and_true] at a2 a5 b2 b5
 replace a5 : ∀ x ∈ k1.ids, (x = 2 ∨ x ∈ k2.ids ∨ x = 3 ∨ x ∈ k3.ids) → False := fun x hx g => by have := a5 x hx; grind
 replace b5 : ∀ x ∈ k2.ids, (x = 3 ∨ x ∈ k3.ids) → False := fun x hx g => by have := b5 x hx; grind
 have big : ∀ k : Fo, k.ids.Nodup → (∀ x ∈ k.ids, x ≠ 1 ∧ x ≠ 2 ∧ x ≠ 3) → (∀ x ∈ k.ids, okT x (txtF x k) = true) → ∀ r ∈ k.fl 1, rowB r = true ∧ rootB r.f0 = false := by
  intro k hn hne hk r hr
  obtain ⟨x, hx, rfl⟩ := fl_get hn hr
  have h4 := hne x hx
  have h5 := okT_ne (hk x hx)
  obtain ⟨m1, m2⟩ := made_of_ok (hk x hx) (by omega)
  have mr := made_not_root m1
  have hd := fl_deep k 1 hr
  have hl := fl_le k 1 hr
  have hlen : k.ids.length ≤ 18 := sub_len _ [11, 12, 13, 14, 15, 16, 21, 22, 23, 24, 25, 26, 31, 32, 33, 34, 35, 36] hn fun y hy => by
   have g4 := hne y hy
   have g5 := okT_ne (hk y hy)
   exact made_list y g5.2 (made_of_ok (hk y hy) (by omega)).1
  simp only at hd hl
  refine ⟨?_, mr⟩
  unfold rowB
  simp only [mr, Bool.false_eq_true, if_false, m1, m2, Bool.true_and, Bool.and_true]
  rw [decide_eq_true (by omega), decide_eq_true (by omega)]; rfl
 have root : ∀ (x : Nat) (t : ByteArray), rootB (x : Int) = true → okT x t = true → rowB ⟨(x : Int), 0, t⟩ = true := by
  intro x t hr h
  unfold okT at h
  rw [if_pos hr] at h
  unfold rowB
  simp only [hr, if_true, h]; rfl
 have o1 : okT 1 t1 = true := by have := hok 1 (by simp [Fo.ids]); rwa [txtF, if_pos rfl] at this
 have o2 : okT 2 t2 = true := by have := hok 2 (by simp [Fo.ids]); rwa [txtF, if_neg (by decide), if_neg (fun g => a5 2 g (Or.inl rfl)), txtF, if_pos rfl] at this
 have o3 : okT 3 t3 = true := by have := hok 3 (by simp [Fo.ids]); rwa [txtF, if_neg (by decide), if_neg (fun g => a5 3 g (Or.inr (Or.inr (Or.inl rfl)))), txtF, if_neg (by decide), if_neg (fun g => b5 3 g (Or.inl rfl)), txtF, if_pos rfl] at this
 have i1 : ∀ x ∈ k1.ids, okT x (txtF x k1) = true := fun x hx => by
  have := hok x (by simp [Fo.ids, hx])
  rwa [txtF, if_neg (fun e => a1 (by rw [e]; exact hx)), if_pos hx] at this
 have i2 : ∀ x ∈ k2.ids, okT x (txtF x k2) = true := fun x hx => by
  have := hok x (by simp [Fo.ids, hx])
  rwa [txtF, if_neg (fun e => a2.2.1 (by rw [e]; exact hx)), if_neg (fun g => a5 x g (by grind)), txtF, if_neg (fun e => b1 (by rw [e]; exact hx)), if_pos hx] at this
 have i3 : ∀ x ∈ k3.ids, okT x (txtF x k3) = true := fun x hx => by
  have := hok x (by simp [Fo.ids, hx])
  rwa [txtF, if_neg (fun e => a2.2.2.2 (by rw [e]; exact hx)), if_neg (fun g => a5 x g (by grind)), txtF, if_neg (fun e => b2.2 (by rw [e]; exact hx)), if_neg (fun g => b5 x g (by grind)), txtF, if_neg (fun e => c1 (by rw [e]; exact hx)), if_pos hx] at this
 have e1 := big k1 a3 (fun x hx => ⟨fun e => a1 (e ▸ hx), fun e => a5 x hx (Or.inl e), fun e => a5 x hx (Or.inr (Or.inr (Or.inl e)))⟩) i1
 have e2 := big k2 b3 (fun x hx => ⟨fun e => a2.2.1 (e ▸ hx), fun e => b1 (e ▸ hx), fun e => b5 x hx (Or.inl e)⟩) i2
 have e3 := big k3 c3 (fun x hx => ⟨fun e => a2.2.2.2 (e ▸ hx), fun e => b2.2 (e ▸ hx), fun e => c1 (e ▸ hx)⟩) i3
 have r1 := root 1 t1 (by decide) o1
 have r2 := root 2 t2 (by decide) o2
 have r3 := root 3 t3 (by decide) o3
 simp only [Fo.fl, Nat.zero_add, List.append_nil]
 unfold treeB
 have q1 : rootB ((1 : Nat) : Int) = true := by decide
 have q2 : rootB ((2 : Nat) : Int) = true := by decide
 have q3 : rootB ((3 : Nat) : Int) = true := by decide
 unfold treeGo
 simp only [Int.natCast_zero] at r1 r2 r3 ⊢
 rw [r1, Bool.true_and, decide_eq_true (by simp), Bool.true_and, decide_eq_true (by omega), Bool.true_and, if_pos q1, decide_eq_true (by omega), Bool.true_and]
 refine go_in k1 1 _ _ _ _ (by omega) (by omega) a3 (fun x hx => ?_) e1 fun s1 p1 hp1 hs1 => ?_
 ·simp only [List.mem_cons, List.not_mem_nil, or_false]
  intro e; exact a1 (by rw [show 1 = x by omega]; exact hx)
 unfold treeGo
 have z2 : ((2 : Nat) : Int) ∉ s1 := by
  rw [hs1]; simp only [List.mem_cons, List.not_mem_nil, or_false]
  rintro (e | ⟨x, hx, e⟩)
  ·omega
  ·exact a5 x hx (Or.inl (by omega))
 simp only
 rw [r2, Bool.true_and, decide_eq_true z2, Bool.true_and, decide_eq_true (by omega), Bool.true_and, if_pos q2, decide_eq_true (by omega), Bool.true_and]
 refine go_in k2 1 _ _ _ _ (by omega) (by omega) b3 (fun x hx => ?_) e2 fun s2 p2 hp2 hs2 => ?_
 ·rw [List.mem_cons, hs1]; simp only [List.mem_cons, List.not_mem_nil, or_false]
  rintro (e | e | ⟨y, hy, e⟩)
  ·exact b1 (by rw [show 2 = x by omega]; exact hx)
  ·exact a2.2.1 (by rw [show 1 = x by omega]; exact hx)
  ·exact a5 y hy (by rw [show y = x by omega]; exact Or.inr (Or.inl hx))
 unfold treeGo
 have z3 : ((3 : Nat) : Int) ∉ s2 := by
  rw [hs2, List.mem_cons, hs1]; simp only [List.mem_cons, List.not_mem_nil, or_false]
  rintro ((e | e | ⟨x, hx, e⟩) | ⟨x, hx, e⟩)
  ·omega
  ·omega
  ·exact a5 x hx (Or.inr (Or.inr (Or.inl (by omega))))
  ·exact b5 x hx (Or.inl (by omega))
 simp only
 rw [r3, Bool.true_and, decide_eq_true z3, Bool.true_and, decide_eq_true (by omega), Bool.true_and, if_pos q3, decide_eq_true (by omega), Bool.true_and]
 rw [← List.append_nil (k3.fl 1)]
 refine go_in k3 1 _ _ _ _ (by omega) (by omega) c3 (fun x hx => ?_) e3 fun s3 p3 hp3 hs3 => ?_
 ·rw [List.mem_cons, hs2, List.mem_cons, hs1]; simp only [List.mem_cons, List.not_mem_nil, or_false]
  rintro (e | (e | e | ⟨y, hy, e⟩) | ⟨y, hy, e⟩)
  ·exact c1 (by rw [show 3 = x by omega]; exact hx)
  ·exact b2.2 (by rw [show 2 = x by omega]; exact hx)
  ·exact a2.2.2.2 (by rw [show 1 = x by omega]; exact hx)
  ·exact a5 y hy (by rw [show y = x by omega]; exact Or.inr (Or.inr (Or.inr hx)))
  ·exact b5 y hy (by rw [show y = x by omega]; exact Or.inr hx)
 unfold treeGo
 exact decide_eq_true (by omega)
theorem made_nat {k i u a : Int} {s : ByteArray} (h : opB k i u a s = true) : ∃ m : Nat, i = (m : Int) ∧ 4 ≤ m ∧ m < 37 ∧ madeB (m : Int) = true := by
 obtain ⟨m, rfl, h4, h37⟩ := made_num (opB_made k i u a s h)
 exact ⟨m, rfl, h4, h37, opB_made k _ u a s h⟩
theorem Val.does {G : Fo} (v : Val G) {k u a : Int} {i : Nat} {s : ByteArray} (h : opB k (i : Int) u a s = true) : Does G k i u a s (doF G k i u a s) :=
 FP.does v.nd v.ne0 v.three k i (v.top (opB_made _ _ _ _ _ h)) u a s (opB_kind h)
theorem opB_text {k i u a : Int} {s : ByteArray} (h : opB k i u a s = true) (hk : k = 1 ∨ k = 2) : textB s = true := by
 unfold opB at h
 simp only [Bool.and_eq_true] at h
 rcases hk with rfl | rfl
 ·rw [if_pos rfl, Bool.and_eq_true] at h; exact h.2.2
 ·rw [if_neg (by decide), if_pos rfl] at h; simp only [Bool.and_eq_true] at h; exact h.2.2
theorem okT_made {x : Nat} {t : ByteArray} (h : madeB (x : Int) = true) (ht : textB t = true) : okT x t = true := by
 unfold okT; rw [made_not_root h, h, ht]; rfl
theorem Val.done {G : Fo} (v : Val G) {k u a : Int} {i : Nat} {s : ByteArray} (h : opB k (i : Int) u a s = true) {G' : Fo} (hd : Does G k i u a s G') : Val G' := by
 have hm := opB_made _ _ _ _ _ h
 have hi0 : i ≠ 0 := by rintro rfl; exact absurd hm (by decide)
 obtain ⟨h1, h2, h3⟩ := do_tops v.nd v.ne0 hi0 (v.top hm) hd
 refine ⟨h2, h1.trans v.tops, fun x hx => ?_⟩
 cases hd with
 | text hk hi =>
  rw [setF_ids] at hx
  by_cases e : x = i
  ·subst e; rw [set_txt_eq _ _ hi]; exact okT_made hm (opB_text h (Or.inr hk))
  ·rw [set_txt_ne _ _ e]; exact v.ok x hx
 | make hk hi o =>
  rcases (o.mem x).1 hx with rfl | g | g
  ·rw [o.txt]; exact okT_made hm (opB_text h (Or.inl hk))
  ·simp [Fo.ids] at g
  ·rw [o.txt_old g]; exact v.ok x g
 | move hk hi hw o => rw [o.txt ((o.ids x).1 hx)]; exact v.ok x ((o.ids x).1 hx)
 | none hk => exact v.ok x hx
theorem Val.doF {G : Fo} (v : Val G) {k u a : Int} {i : Nat} {s : ByteArray} (h : opB k (i : Int) u a s = true) : Val (doF G k i u a s) := v.done h (v.does h)
theorem opDo_val {l : List S69} {k u a : Int} {i : Nat} {s : ByteArray} (ho : opB k (i : Int) u a s = true) (ht : treeB l = true) :
  opDoR l k i u a s = (FP.doF (toFo l) k i u a s).fl 0 ∧ treeB (opDoR l k i u a s) = true ∧ toFo (opDoR l k i u a s) = FP.doF (toFo l) k i u a s ∧ Val (FP.doF (toFo l) k i u a s) := by
 have e : opDoR l k i u a s = (FP.doF (toFo l) k i u a s).fl 0 := by unfold opDoR; rw [if_pos ho, if_pos ht]
 have v := (val_of ht).doF ho
 have ht2 : treeB (opDoR l k i u a s) = true := by rw [e]; exact treeB_fl v
 exact ⟨e, ht2, toFo_of ht2 e.symm, v⟩
def new3 : List S69 := [⟨1, 0, ⟨#[]⟩⟩, ⟨2, 0, ⟨#[]⟩⟩, ⟨3, 0, ⟨#[]⟩⟩]
def stepT (t : List S69) (e : S44) : List S69 := opDoR t e.f2.f0 e.f2.f1 e.f2.f2 e.f2.f3 e.f2.f4
def foldT (t : List S69) (l : List S44) : List S69 := l.foldl stepT t
def logT (l : List S44) : List S69 := if logB l = true then foldT new3 l else []
def opE (e : S44) : Bool := opB e.f2.f0 e.f2.f1 e.f2.f2 e.f2.f3 e.f2.f4
theorem new3_val : treeB new3 = true := by decide +kernel
theorem treeB_len {t : List S69} (ht : treeB t = true) : t.length ≤ 21 := by
 have h1 := (val_of ht).len
 have h2 := fl_len (toFo t) 0
 rw [toFo_fl ht] at h2
 omega
theorem entB_op {e : S44} (h : entB e = true) : opE e = true := by
 unfold entB at h
 simp only [Bool.and_eq_true] at h
 exact h.1.2
theorem goB_ent : ∀ (l pre : List S44), goB pre l = true → ∀ e ∈ l, entB e = true
 | [], _, _, e, he => by cases he
 | x :: l, pre, h, e, he => by
  unfold goB at h
  simp only [Bool.and_eq_true] at h
  rcases List.mem_cons.1 he with rfl | he
  ·exact h.1.1
  ·exact goB_ent l _ h.2 e he
theorem logB_ent {l : List S44} (h : logB l = true) : ∀ e ∈ l, entB e = true := by
 unfold logB at h
 rw [Bool.and_eq_true] at h
 exact goB_ent l [] h.2
theorem logB_op {l : List S44} (h : logB l = true) : ∀ e ∈ l, opE e = true := fun e he => entB_op (logB_ent h e he)
theorem sdo_f {t : List S69} {k i u a : Int} {s : ByteArray} (ho : opB k i u a s = true) (ht : treeB t = true) : Ev (fun n => spec_l3Do.f n t k i u a s) (opDoR t k i u a s) := by
 obtain ⟨m, rfl, h4, h37⟩ := made_num (opB_made k i u a s ho)
 have g := good_of ht
 have := do_x g k m (by omega) (by rw [g.tops]; simp; omega) u a s (opB_kind ho)
 rw [toFo_fl ht] at this
 rw [(opDo_val ho ht).1]
 exact this
theorem ilogT_l0 (l : List S44) (hw : wfL l) (hl : l.length ≤ 1099511627776) : ∀ (n i : Nat) (t : List S69), i + n = l.length → Ev (fun k => impl_LogTree.l0 k t l (l.length : Int) i) (foldT t (l.drop i))
 | 0, i, t, h => by
  rw [List.drop_eq_nil_of_le (by omega)]
  refine Ev.step (f := fun _ => some t) (fun k => ?_) (evnow _)
  simp only [impl_LogTree.l0]; rw [if_neg (by omega)]
 | n + 1, i, t, h => by
  have hi : i < l.length := by omega
  have hs := (hw _ (List.getElem_mem hi)).2.2.2.2.2.2
  rw [List.drop_eq_getElem_cons hi]
  refine Ev.step (f := fun k => (impl_OpDo.f k t l[i].f2.f0 l[i].f2.f1 l[i].f2.f2 l[i].f2.f3 l[i].f2.f4).bind fun t2 => impl_LogTree.l0 k t2 l (l.length : Int) ((i + 1 : Nat) : Int)) (fun k => ?_) (Ev.bind (iopDo_f _ _ _ _ _ _ hs) (ilogT_l0 l hw hl n (i + 1) _ (by omega)))
  simp only [impl_LogTree.l0]
  rw [if_pos (by omega), if_pos (by omega), if_pos (by omega), rdE_get l i hi, wrapS i (by omega) (by omega)]
  rfl
theorem ilogT_f (l : List S44) (hw : wfL l) : Ev (fun k => impl_LogTree.f k l) (logT l) := by
 unfold impl_LogTree.f logT
 refine Ev.bind (log_f l hw) ?_
 cases hb : logB l with
 | false => simp only [Bool.false_eq_true, if_false]; exact evnow _
 | true =>
  have h40 := logB_len hb
  simp only [if_true]
  unfold impl_TreeNew.f
  simp only [Option.bind_some]
  exact ilogT_l0 l hw (by omega) l.length 0 _ (by omega)
theorem l12_l0 (l : List S44) (hl : l.length ≤ 1099511627776) (ho : ∀ e ∈ l, opE e = true) : ∀ (n i : Nat) (t : List S69), i + n = l.length → treeB t = true → Ev (fun k => spec_l12Tree.l0 k t l i) (foldT t (l.drop i))
 | 0, i, t, h, ht => by
  have := treeB_len ht
  rw [List.drop_eq_nil_of_le (by omega)]
  refine Ev.step (f := fun _ => some t) (fun k => ?_) (evnow _)
  simp only [spec_l12Tree.l0, Option.bind_some, List.nil_append, List.length_nil]
  rw [if_neg (by omega), if_pos (by omega)]
 | n + 1, i, t, h, ht => by
  have hi : i < l.length := by omega
  have hoi : opB l[i].f2.f0 l[i].f2.f1 l[i].f2.f2 l[i].f2.f3 l[i].f2.f4 = true := ho _ (List.getElem_mem hi)
  rw [List.drop_eq_getElem_cons hi]
  have ht2 : treeB (stepT t l[i]) = true := by
   unfold stepT
   obtain ⟨m, hm, _, _, _⟩ := made_nat hoi
   rw [hm] at hoi ⊢
   exact (opDo_val hoi ht).2.1
  refine Ev.step (f := fun k => (spec_l3Do.f k t l[i].f2.f0 l[i].f2.f1 l[i].f2.f2 l[i].f2.f3 l[i].f2.f4).bind fun t2 => spec_l12Tree.l0 k t2 l ((i + 1 : Nat) : Int)) (fun k => ?_) (Ev.bind (sdo_f hoi ht) (l12_l0 l hl ho n (i + 1) _ (by omega) ht2))
  simp only [spec_l12Tree.l0]
  rw [if_pos (by omega), if_pos (by omega), rdE_get l i hi, wrapS i (by omega) (by omega)]
  rfl
theorem l12_f (t : List S69) (l : List S44) (hl : l.length ≤ 1099511627776) (ho : ∀ e ∈ l, opE e = true) (ht : treeB t = true) : Ev (fun k => spec_l12Tree.f k t l) (foldT t l) := by
 unfold spec_l12Tree.f
 exact l12_l0 l hl ho l.length 0 t (by omega) ht
theorem slogT_f (l : List S44) (hw : wfL l) (hl : l.length ≤ 281474976710656) : Ev (fun k => spec_LogTree.f k l) (logT l) := by
 unfold spec_LogTree.f logT
 refine Ev.bind (slog_f l hw hl) ?_
 cases hb : logB l with
 | false => simp only [Bool.false_eq_true, if_false]; exact evnow _
 | true =>
  have h40 := logB_len hb
  simp only [if_true]
  unfold spec_TreeNew.f
  simp only [Option.bind_some]
  exact Ev.bind (l12_f new3 l (by omega) (logB_op hb) new3_val) (evnow _)
theorem step_ids {t : List S69} {e : S44} (ho : opE e = true) (ht : treeB t = true) : treeB (stepT t e) = true ∧ ∀ x : Nat, x ∈ (toFo (stepT t e)).ids ↔ x ∈ (toFo t).ids ∨ (e.f2.f0 = 1 ∧ (x : Int) = e.f2.f1) := by
 have ho' : opB e.f2.f0 e.f2.f1 e.f2.f2 e.f2.f3 e.f2.f4 = true := ho
 obtain ⟨m, hm, h4, h37, hM⟩ := made_nat ho'
 rw [hm] at ho'
 obtain ⟨e1, h2, h3, v'⟩ := opDo_val ho' ht
 have v := val_of ht
 have hs : stepT t e = opDoR t e.f2.f0 (m : Int) e.f2.f2 e.f2.f3 e.f2.f4 := by unfold stepT; rw [hm]
 rw [hs, h3]
 refine ⟨h2, fun x => ?_⟩
 have q := (do_tops v.nd v.ne0 (i := m) (by omega) (v.top hM) (v.does ho')).2.2 x
 rw [q, hm]
 constructor
 ·rintro (h | ⟨h, rfl⟩)
  ·exact Or.inl h
  ·exact Or.inr ⟨h, rfl⟩
 ·rintro (h | ⟨h, h5⟩)
  ·exact Or.inl h
  ·exact Or.inr ⟨h, by omega⟩
theorem foldT_ids : ∀ (l : List S44) (t : List S69), (∀ e ∈ l, opE e = true) → treeB t = true → treeB (foldT t l) = true ∧ (∀ x ∈ (toFo t).ids, x ∈ (toFo (foldT t l)).ids) ∧ ∀ e ∈ l, e.f2.f0 = 1 → ∃ m : Nat, m ∈ (toFo (foldT t l)).ids ∧ (m : Int) = e.f2.f1
 | [], t, ho, ht => ⟨ht, fun x hx => hx, fun e he => by cases he⟩
 | y :: l, t, ho, ht => by
  obtain ⟨h1, h2⟩ := step_ids (ho y List.mem_cons_self) ht
  obtain ⟨g1, g2, g3⟩ := foldT_ids l (stepT t y) (fun e he => ho e (List.mem_cons_of_mem _ he)) h1
  refine ⟨g1, fun x hx => g2 x ((h2 x).2 (Or.inl hx)), fun e he hk => ?_⟩
  rcases List.mem_cons.1 he with rfl | he
  ·obtain ⟨m, hm, _, _, _⟩ := made_nat (show opB e.f2.f0 e.f2.f1 e.f2.f2 e.f2.f3 e.f2.f4 = true from ho e List.mem_cons_self)
   exact ⟨m, g2 m ((h2 m).2 (Or.inr ⟨hk, hm.symm⟩)), hm.symm⟩
  ·exact g3 e he hk
theorem atI_ids {t : List S69} (ht : treeB t = true) {x : Nat} (hx : x ∈ (toFo t).ids) : 0 ≤ atI t (x : Int) := by
 have h := row_fl (val_of ht).nd (d := 0) hx
 rw [toFo_fl ht] at h
 obtain ⟨j, hj, h1, _⟩ := atI_mem (id := (x : Int)) h rfl
 omega
theorem logT_len (l : List S44) : (logT l).length ≤ 21 := by
 unfold logT
 split
 ·rename_i h
  exact treeB_len (foldT_ids l new3 (logB_op h) new3_val).1
 ·simp
theorem logT_ok {l : List S44} (h : logB l = true) : logT l = foldT new3 l ∧ treeB (logT l) = true := by
 have e : logT l = foldT new3 l := by unfold logT; rw [if_pos h]
 exact ⟨e, by rw [e]; exact (foldT_ids l new3 (logB_op h) new3_val).1⟩
theorem lpR_l0 (l : List S69) (hl : l.length ≤ 1099511627776) : ∀ (n i : Nat), i + n = l.length → Ev (fun k => laws_lpRows.l0 k l l i) true
 | 0, i, h => by
  refine Ev.step (f := fun _ => some true) (fun k => ?_) (evnow _)
  simp only [laws_lpRows.l0]; rw [if_neg (by omega)]
 | n + 1, i, h => by
  refine Ev.step (fun k => ?_) (lpR_l0 l hl n (i + 1) (by omega))
  simp only [laws_lpRows.l0]
  rw [if_pos (by omega), if_pos (by omega), if_pos (by omega)]
  simp only [BEq.rfl, Bool.not_true, Bool.or_false, Bool.false_eq_true, if_false]
  rw [wrapS i (by omega) (by omega)]
  rfl
theorem lpR_f (l : List S69) (hl : l.length ≤ 1099511627776) : Ev (fun k => laws_lpRows.f k l l) true := by
 unfold laws_lpRows.f
 exact ev_pos rfl (lpR_l0 l hl l.length 0 (by omega))
theorem lpAt_l0 (t : List S69) (id : Int) (hl : t.length ≤ 1099511627776) : ∀ (n i : Nat), i + n = t.length → Ev (fun k => laws_lpAt.l0 k t id i) (atFrom id (t.drop i) i)
 | 0, i, h => by
  rw [List.drop_eq_nil_of_le (by omega)]
  refine Ev.step (f := fun _ => some (-1)) (fun k => ?_) (evnow _)
  simp only [laws_lpAt.l0]; rw [if_neg (by omega)]
 | n + 1, i, h => by
  have hi : i < t.length := by omega
  rw [List.drop_eq_getElem_cons hi]
  unfold atFrom
  by_cases hq : t[i].f0 = id
  ·rw [if_pos hq]
   refine Ev.step (f := fun _ => some (i : Int)) (fun k => ?_) (evnow _)
   simp only [laws_lpAt.l0]
   rw [if_pos (by omega), if_pos (by omega), rdR_get t i hi, if_pos hq]
  ·rw [if_neg hq]
   refine Ev.step (fun k => ?_) (lpAt_l0 t id hl n (i + 1) (by omega))
   simp only [laws_lpAt.l0]
   rw [if_pos (by omega), if_pos (by omega), rdR_get t i hi, if_neg hq, wrapS i (by omega) (by omega)]
   rfl
theorem lpAt_f (t : List S69) (id : Int) (hl : t.length ≤ 1099511627776) : Ev (fun k => laws_lpAt.f k t id) (atI t id) := lpAt_l0 t id hl t.length 0 (by omega)
theorem pure_of {f : Nat → Option Bool} (h : Ev f true) : ∃ k, f k = some true := by
 obtain ⟨K, hK⟩ := h
 exact ⟨K, hK K (Nat.le_refl K)⟩
theorem logTree_l1 (l : List S44) (t : List S69) (hl : l.length ≤ 40) (ht : treeB t = true) (hm : ∀ e ∈ l, e.f2.f0 = 1 → ∃ m : Nat, m ∈ (toFo t).ids ∧ (m : Int) = e.f2.f1) : ∀ n i : Nat, i + n = l.length → Ev (fun k => laws_FnLogTree.l1 k l t t i) true
 | 0, i, h => by
  have hlt := treeB_len ht
  refine Ev.step (f := fun k => (laws_lpRows.f k t t).bind fun a => if a = true then ((impl_TreeOk.f k t).bind fun b => some b) else none) (fun k => ?_) (Ev.bind (lpR_f t (by omega)) (ev_pos rfl ?_))
  ·simp only [laws_FnLogTree.l1]
   rw [if_neg (by omega)]
  ·unfold impl_TreeOk.f; rw [ht]; exact evnow _
 | n + 1, i, h => by
  have hi : i < l.length := by omega
  have hlt := treeB_len ht
  by_cases h1 : l[i].f2.f0 = 1
  ·obtain ⟨m, hx, e⟩ := hm _ (List.getElem_mem hi) h1
   have h0 := atI_ids ht hx
   refine Ev.step (f := fun k => (laws_lpAt.f k t l[i].f2.f1).bind fun a => if a < 0 then none else laws_FnLogTree.l1 k l t t ((i + 1 : Nat) : Int)) (fun k => ?_) (Ev.bind (lpAt_f t l[i].f2.f1 (by omega)) (ev_neg (by rw [← e]; omega) (logTree_l1 l t hl ht hm n (i + 1) (by omega))))
   simp only [laws_FnLogTree.l1]
   rw [if_pos (by omega), if_pos (by omega), rdE_get l i hi, if_pos h1, wrapS i (by omega) (by omega)]
   rfl
  ·refine Ev.step (fun k => ?_) (logTree_l1 l t hl ht hm n (i + 1) (by omega))
   simp only [laws_FnLogTree.l1]
   rw [if_pos (by omega), if_pos (by omega), rdE_get l i hi, if_neg h1, wrapS i (by omega) (by omega)]
   rfl
theorem logTree_l0 (l : List S44) (t : List S69) (hw : wfL l) (hl : l.length ≤ 40) (ht : treeB t = true) (hm : ∀ e ∈ l, e.f2.f0 = 1 → ∃ m : Nat, m ∈ (toFo t).ids ∧ (m : Int) = e.f2.f1) : ∀ (n i : Nat) (x : List S69), i + n = l.length → foldT x (l.drop i) = t → Ev (fun k => laws_FnLogTree.l0 k l t x i) true
 | 0, i, x, h, hx => by
  rw [List.drop_eq_nil_of_le (by omega)] at hx
  have hx : x = t := hx
  subst hx
  refine Ev.step (fun k => ?_) (logTree_l1 l x hl ht hm l.length 0 (by omega))
  simp only [laws_FnLogTree.l0]
  rw [if_neg (by omega)]
  rfl
 | n + 1, i, x, h, hx => by
  have hi : i < l.length := by omega
  have hs := (hw _ (List.getElem_mem hi)).2.2.2.2.2.2
  rw [List.drop_eq_getElem_cons hi] at hx
  refine Ev.step (f := fun k => (impl_OpDo.f k x l[i].f2.f0 l[i].f2.f1 l[i].f2.f2 l[i].f2.f3 l[i].f2.f4).bind fun t2 => laws_FnLogTree.l0 k l t t2 ((i + 1 : Nat) : Int)) (fun k => ?_) (Ev.bind (iopDo_f _ _ _ _ _ _ hs) (logTree_l0 l t hw hl ht hm n (i + 1) _ (by omega) hx))
  simp only [laws_FnLogTree.l0]
  rw [if_pos (by omega), if_pos (by omega), rdE_get l i hi, wrapS i (by omega) (by omega)]
  rfl
theorem FnLogTree : laws_FnLogTree.Pure := by
 intro l0 _ _ h0
 refine pure_of ?_
 unfold laws_FnLogTree.f
 by_cases h : (l0.length : Int) > 1048576
 ·exact ev_pos h (evnow _)
 ·obtain ⟨l, hd, hw, hl⟩ := drawLogTree_f l0 h0
  have hT := logT_len l
  refine ev_neg h (Ev.bind hd (Ev.bind (ilogT_f l hw) (Ev.bind (slogT_f l hw (by omega)) (Ev.bind (lpR_f _ (by omega)) (ev_pos rfl (Ev.bind (slog_f l hw (by omega)) ?_))))))
  cases hb : logB l with
  | false => exact ev_neg (by simp) (Ev.bind (slogT_f l hw (by omega)) (Ev.bind (lpR_f _ (by omega)) (evnow _)))
  | true =>
   obtain ⟨e1, t1⟩ := logT_ok hb
   refine ev_pos rfl ?_
   unfold impl_TreeNew.f
   simp only [Option.bind_some]
   refine logTree_l0 l _ hw (by omega) t1 ?_ l.length 0 _ (by omega) e1.symm
   rw [e1]
   exact (foldT_ids l new3 (logB_op hb) new3_val).2.2
end Go.Proofs.YtdpklbomhdpimaaDoor.PL
namespace Go.Proofs.YtdpklbomhdpimaaDoor.P
open Go.ChangeShapes Go.WideShapes Go.ChangeAt Go.RowKit
theorem tOwners : (Tryd.prog.globals[0]?).map (·.type) = some 126 := by kernel_rfl
theorem cOwners : Tryd.prog.cellsOf 126 = 37 := by kernel_rfl
theorem cInt : Tryd.prog.cellsOf 3 = 1 := by kernel_rfl
abbrev ownCells : Array Value := (owners.map fun z => Value.int .i64 z).toArray
theorem glob_of_laid {W : World} (h : laidMet Tryd.prog [("loop.example/plashet/impl.rowOwners", Rows.laid_loop_example_plashet_impl_rowOwners)] W) : Glob W :=
 Lib.tabIs_of_head gOwners tOwners Tryd.underlying126 Tryd.underlying3 cInt cOwners h
theorem door_met (os : Os) (args : Array Value) : laidMet Tryd.prog [("loop.example/plashet/impl.rowOwners", Rows.laid_loop_example_plashet_impl_rowOwners)] ((World.doorLaid Tryd.prog 400 os).forCall (fun _ _ => 0) ⟨#[], args, []⟩).memory :=
 laidMet_of_run' 8 (by kernel_rfl) (by kernel_rfl)
abbrev tableH {H : Type} : DataW H := .agg (owners.map fun z => .lit (.int .i64 z))
theorem reads_table {H : Type} (enc : TypeId × Value → H) (W : World) (sp : Nat → Bool) : DataW.trod enc Tryd.prog W 0 sp true 3 126 ownCells.toList = some (tableH, []) := by kernel_rfl
theorem tab_vars {H : Type} (enc : TypeId × Value → H) {W : World} (h : Glob W) {sp : Nat → Bool} : DataW.TrodVars enc Tryd.prog W sp ["loop.example/plashet/impl.rowOwners"] [tableH] (MemPlace.row ⟨0, 0, none⟩ ownCells.size ++ [] ++ []) :=
 ⟨0, 126, ownCells, 3, [], [], gOwners, tOwners, h, reads_table enc W sp, rfl, rfl⟩
end Go.Proofs.YtdpklbomhdpimaaDoor.P
namespace Go.Proofs.YtdpklbomhdpimaaDoor.fnLogTree
open Go.ChangeMaps (open_string shut_string)
open Go.ChangeShapes Go.WideShapes Go.ChangeAt Go.RowKit
theorem own : ownKnob Tryd.prog.godebug = none := by kernel_rfl
theorem laidOut : laidOutB Tryd.prog = true := by kernel_rfl
def IsRow (k : IntKind) (w : World) (a : Option Addr) (len cap : Nat) (zs : List Int) : Prop :=
 (a = none ∧ len = 0 ∧ cap = 0 ∧ zs = []) ∨
 ∃ x, a = some x ∧ len ≤ cap ∧ cap ≤ maxLen ∧ zs.length = cap ∧ (∀ i, i < zs.length → w.cell? (x.add i) = some (.int k (zs.getD i 0))) ∧ ∀ n ∈ zs, (Lit.int k n).wf = true
set_option maxRecDepth 100000 in
theorem lifted (os : Os) (started : os.Started) (H : Type) (enc : TypeId × Value → H) :
  ReturnsInHanded {} Tryd.checked os 10 .any (fun w args => (Rows.fnLogTreeSpec.pre enc Tryd.prog Tryd.f10 [] false w args ∧ laidMet Tryd.prog [("loop.example/plashet/impl.rowOwners", Rows.laid_loop_example_plashet_impl_rowOwners)] w) ∧ sizedMet enc Tryd.prog Tryd.f10 (OpenSpec.ofChange Rows.fnLogTreeSpec) false w args) (Rows.fnLogTreeSpec.post enc Tryd.prog Tryd.f10 false true false false) := by
 refine returnsInHanded_of_change_and (C := Tryd.checked) (X := fun w _ => laidMet Tryd.prog [("loop.example/plashet/impl.rowOwners", Rows.laid_loop_example_plashet_impl_rowOwners)] w) (fun _ _ _ hh h => h.of_heap hh) own started (by kernel_rfl) Tryd.func10
  (ChangeSpec.witness_shaped (enc := enc) (C := Tryd.checked) (os := os) (X := fun w _ => laidMet Tryd.prog [("loop.example/plashet/impl.rowOwners", Rows.laid_loop_example_plashet_impl_rowOwners)] w) false (World.doorLaid Tryd.prog 400 os) #[.slice none 0 0] 8 rfl (World.shaped_of_RefB (by kernel_rfl) (by kernel_rfl)) (by kernel_rfl) (by kernel_rfl) (by kernel_rfl) (P.door_met os _)) ?_
 intro W base args ds gs before hval0 hW _ hsz0 hL _
 have hsz : (DataW.weightsEach Tryd.prog (Tryd.f10.params.toList ++ Rows.fnLogTreeSpec.plain.varTypes Tryd.prog) (ds ++ gs)).all (· ≤ reachBytes) = true := hsz0
 have hval : ∀ (j : Nat) t v, Tryd.f10.params[j]? = some t → args[j]? = some v → Value.okWide Tryd.prog W .any base t v := hval0
 have hW' := hW
 obtain ⟨p, q, hA0, hV, rfl, hfz, hnd⟩ := hW
 have hA : DataW.TrodAll enc Tryd.prog W 0 (fun _ => true) true Tryd.f10.params.toList args.toList ds p := hA0
 rw [Tryd.params10] at hA hval hsz
 obtain ⟨v0, vs0, d0, ds0, p0, q0, hargs, rfl, rfl, h0, r0⟩ := trodAll_cons hA
 obtain ⟨rfl, rfl, rfl⟩ := trodAll_nil r0
 obtain rfl : args = #[v0] := by cases args; simp_all
 have hG : P.Glob W := P.glob_of_laid hL
 obtain ⟨gv, tv, csv, fuelv, dv, pv, rfl, hgv, htv, hvarv, hdv, rfl⟩ := trodVars_one hV
 obtain rfl : csv = P.ownCells := Option.some.inj (hvarv.symm.trans hG)
 obtain rfl := Option.some.inj (P.tOwners.symm.trans (by rw [Option.some.inj (P.gOwners.symm.trans hgv)]; exact htv))
 obtain ⟨rfl, rfl⟩ := DataW.Trod.unique (v := .agg P.ownCells) ⟨fuelv, hdv⟩ ⟨3, P.reads_table enc W _⟩
 obtain ⟨a0, len0, cap0, rfl⟩ := okWide_slice Tryd.underlying22 (hval 0 22 v0 rfl rfl)
 have k0 := h0
 have lt0 : ∀ x ∈ p0, x.block < W.heap.size := by obtain ⟨m, hm⟩ := k0; exact DataW.trod_lt m _ _ _ hm
 obtain ⟨z0, w0⟩ : ∃ zs, IsRow .u8 W a0 len0 cap0 zs := by
  obtain ⟨fuel, hf⟩ := h0
  rcases open_ints Tryd.underlying22 Tryd.underlying5 (by kernel_rfl) hf with ⟨hcs, _⟩ | ⟨x, l, c, zs, hcs, _, hl, hm, hz, _, hcell, hwz⟩
  ·simp [Value.cells] at hcs
   obtain ⟨rfl, rfl, rfl⟩ := hcs
   exact ⟨[], .inl ⟨rfl, rfl, rfl, rfl⟩⟩
  ·simp [Value.cells] at hcs
   obtain ⟨rfl, rfl, rfl⟩ := hcs
   exact ⟨zs, .inr ⟨_, rfl, hl, hm, by simpa using hz, hcell, hwz⟩⟩
 have y0 : len0 * 1 ≤ 140737488351232 := Go.Proofs.YtdpklbomhdpimaaDoorW.PrintWords.sized_ints hsz (j := 0) (t := 22) rfl rfl Tryd.underlying22 Tryd.underlying5 (by kernel_rfl) (by kernel_rfl) h0
 clear hA0 hval0 hsz0 hsz
 refine (P.laws_FnLogTree.walk PL.FnLogTree a0 len0 cap0 z0 W w0 y0 hG).mono fun e W' ⟨he, bel⟩ => ?_
 subst he
 exact ⟨_, rfl, _, _, _, _, _, _, hW', trodAll_mk1 (shut_bool Tryd.underlying4 _), (trodAll_cons_mk (Below.trod laidOut (by kernel_rfl) (of_decide_eq_true (by kernel_rfl)) k0 bel lt0) trodAll_mk0), P.tab_vars enc (hG.below bel), bel.frame _, fun h => by cases h⟩
theorem over : Rows.fnLogTreeRow.holds Tryd.pinned (OpenSpec.ofChange Rows.fnLogTreeSpec) :=
 OpenClaim.holds_of_wide 10 Tryd.f10 rfl rfl rfl rfl rfl rfl rfl ⟨rfl, rfl, rfl, rfl, rfl⟩ rfl rfl rfl rfl rfl (by kernel_rfl) Tryd.func10 (by kernel_rfl)
  (of_decide_eq_true (by kernel_rfl)) (by unfold Func.isWrapper; first | (rw [if_pos (by decide +kernel)]; kernel_rfl) | (rw [if_neg (by decide +kernel)]; exact ⟨rfl, rfl⟩))
  (fun os started H enc _ => lifted os started H enc)
theorem proved : Rows.FnLogTreeSaid := over
#print axioms proved
end Go.Proofs.YtdpklbomhdpimaaDoor.fnLogTree
