/- changeOf and OpOk: a change is valid as its kind asks. Condition: the table of rows reads as the program's text lays it. -/
import Derived.Test.YtnclcbjagleoeaaDoorPx6
import Derived.Test.YtnclcbjagleoeaaDoorPx6
import Derived.Test.YtnclcbjagleoeaaDoorPx6
import Derived.Deep.QuietTactic
import Derived.BigQuiet
import Derived.Lib.Hide
namespace Go.Proofs.YtnclcbjagleoeaaDoor.P
open Go.RowKit Go.Proofs.YtnclcbjagleoeaaDoorW.PrintWords Go.Proofs.YtnclcbjagleoeaaDoorW.PrintLast Go.Proofs.YtnclcbjagleoeaaDoorW.PrintMore

theorem quiet_d {P : Program} {f : FuncId} {args : Array Value} {w : World} {d n : Nat} {v : Value} (h : Calls P f args (w.drewN (d + n)) fun e w' => e = .returned v ∧ Drawn0 (w.drewN (d + n)) w') :
    Calls P f args (w.drewN (d + n)) fun e w'' => e = .returned v ∧ ∃ m, w'' = w.drewN (d + m) :=
  h.mono fun _ _ ⟨he, ⟨m, hm⟩⟩ => ⟨he, n + m, by rw [hm, World.drewN_drewN, Nat.add_assoc]⟩
def impl_changeOf.f (k : Nat) (a0 a1 a2 a3 : Int) (a4 : ByteArray) : Option Bool :=
  (impl_isMade.f a1).bind fun m => if m = true then
    (if a0 = 1 then ((impl_placeOk.f a2 a3).bind fun p => if p = true then impl_textOk.f k a4 else some false)
    else if a0 = 2 then (if a2 = 0 then (if a3 = 0 then impl_textOk.f k a4 else some false) else some false)
    else if a0 = 3 then ((impl_placeOk.f a2 a3).bind fun p => if p = true then some (a4.toList.isEmpty) else some false)
    else some false) else some false
theorem impl_changeOf.mono (a0 a1 a2 a3 : Int) (a4 : ByteArray) (k : Nat) : LeO (impl_changeOf.f k a0 a1 a2 a3 a4) (impl_changeOf.f (k + 1) a0 a1 a2 a3 a4) := by
  unfold impl_changeOf.f
  repeat' first
      | (with_reducible exact impl_textOk.mono _ _)
      | (with_reducible exact LeO.refl _)
      | (with_reducible refine LeO.ite ?_ ?_)
      | (with_reducible refine LeO.bind ?_ (fun _ => ?_))
/-- The change that an Op tells of, as an interface value. -/
def ChV (a0 a1 a2 a3 : Int) (a4 : ByteArray) : Value :=
  if a0 = 1 then .iface 130 (.agg #[.int .i64 a1, .int .i64 a2, .int .i64 a3, .string a4])
  else if a0 = 2 then .iface 133 (.agg #[.int .i64 a1, .string a4])
  else .iface 135 (.agg #[.int .i64 a1, .int .i64 a2, .int .i64 a3])
def ChPost (w : World) (a0 a1 a2 a3 : Int) (a4 : ByteArray) (r : Bool) (e : Ending) (w' : World) : Prop :=
  ∃ v : Value, e = .returned (.tuple #[v, .bool r]) ∧ (r = true → v = ChV a0 a1 a2 a3 a4) ∧ Below w.heap.size w w'
theorem below_box (w : World) (o : Obj) (n : Nat) : Below w.heap.size w ((w.alloc o).drewN n) := pw_below_drewN ((Below.refl _ _).alloc (Nat.le_refl _) _) n
theorem below_box0 (w : World) (o : Obj) : Below w.heap.size w (w.alloc o) := (Below.refl _ _).alloc (Nat.le_refl _) _
set_option maxHeartbeats 4000000 in
set_option maxRecDepth 100000 in
theorem changeOf_unmade (a0 a1 a2 a3 : Int) (a4 : ByteArray) (w : World) (hm : impl_isMade.f a1 = some false) (hG : Glob w) :
    Calls Tryd.prog 92 #[.agg #[.int .i64 a0, .int .i64 a1, .int .i64 a2, .int .i64 a3, .string a4]] w (ChPost w a0 a1 a2 a3 a4 false) := by
  have hGa : Glob (w.alloc (.cells #[.int .i64 a0, .int .i64 a1, .int .i64 a2, .int .i64 a3, .string a4] 54)) := hG.below (below_box0 w _)
  have HG := Aside0.mk hGa
  clear hGa hG
  have Hm := Aside0.mk hm
  clear hm
  go_enter Tryd.func92, Tryd.ntmps92
  go_wp2_with (go_at_call 102; refine (impl_isMade.calls a1 _ _ Hm.out HG.out).mono ?_; rintro e w' ⟨rfl, ⟨nd, rfl⟩⟩)
  go_ret2
  exact ⟨_, rfl, (fun h => by cases h), by (with_reducible repeat (first | exact below_box0 w _ | apply pw_below_drewN))⟩
set_option maxHeartbeats 4000000 in
set_option maxRecDepth 100000 in
theorem changeOf_make (k : Nat) (a0 a1 a2 a3 : Int) (a4 : ByteArray) (r : Bool) (w : World) (hm : impl_isMade.f a1 = some true) (hp : impl_placeOk.f a2 a3 = some true) (ht : impl_textOk.f k a4 = some r) (h0 : a0 = 1) (hG : Glob w) :
    Calls Tryd.prog 92 #[.agg #[.int .i64 a0, .int .i64 a1, .int .i64 a2, .int .i64 a3, .string a4]] w (ChPost w a0 a1 a2 a3 a4 r) := by
  have hGa : Glob (w.alloc (.cells #[.int .i64 a0, .int .i64 a1, .int .i64 a2, .int .i64 a3, .string a4] 54)) := hG.below (below_box0 w _)
  have HG := Aside0.mk hGa
  clear hGa hG
  subst h0
  have Hm := Aside0.mk hm
  have Hp := Aside0.mk hp
  have Ht := Aside0.mk ht
  clear hm hp ht
  go_enter Tryd.func92, Tryd.ntmps92
  go_wp2_with (go_at_call 102; refine (impl_isMade.calls a1 _ _ Hm.out HG.out).mono ?_; rintro e w' ⟨rfl, ⟨nd, rfl⟩⟩)
  go_quiet ((first | (go_at_call 103; refine quiet_d (impl_placeOk.calls a2 a3 true _ Hp.out (by (with_reducible repeat (first | exact HG.out | apply Glob.drewN | apply Glob.drew))))) | (go_at_call 104; refine quiet_d (impl_textOk.calls k a4 r _ Ht.out))))
  go_wp2
  go_ret2
  exact ⟨_, rfl, fun _ => rfl, by (with_reducible repeat (first | exact below_box0 w _ | apply pw_below_drewN))⟩
set_option maxHeartbeats 4000000 in
set_option maxRecDepth 100000 in
theorem changeOf_make_no (a0 a1 a2 a3 : Int) (a4 : ByteArray) (w : World) (hm : impl_isMade.f a1 = some true) (hp : impl_placeOk.f a2 a3 = some false) (h0 : a0 = 1) (hG : Glob w) :
    Calls Tryd.prog 92 #[.agg #[.int .i64 a0, .int .i64 a1, .int .i64 a2, .int .i64 a3, .string a4]] w (ChPost w a0 a1 a2 a3 a4 false) := by
  have hGa : Glob (w.alloc (.cells #[.int .i64 a0, .int .i64 a1, .int .i64 a2, .int .i64 a3, .string a4] 54)) := hG.below (below_box0 w _)
  have HG := Aside0.mk hGa
  clear hGa hG
  subst h0
  have Hm := Aside0.mk hm
  have Hp := Aside0.mk hp
  clear hm hp
  go_enter Tryd.func92, Tryd.ntmps92
  go_wp2_with (go_at_call 102; refine (impl_isMade.calls a1 _ _ Hm.out HG.out).mono ?_; rintro e w' ⟨rfl, ⟨nd, rfl⟩⟩)
  go_quiet ((go_at_call 103; refine quiet_d (impl_placeOk.calls a2 a3 false _ Hp.out (by (with_reducible repeat (first | exact HG.out | apply Glob.drewN | apply Glob.drew))))))
  go_wp2
  go_ret2
  exact ⟨_, rfl, (fun h => by cases h), by (with_reducible repeat (first | exact below_box0 w _ | apply pw_below_drewN))⟩
set_option maxHeartbeats 4000000 in
set_option maxRecDepth 100000 in
theorem changeOf_text (k : Nat) (a0 a1 a2 a3 : Int) (a4 : ByteArray) (r : Bool) (w : World) (hm : impl_isMade.f a1 = some true) (h2 : a2 = 0) (h3 : a3 = 0) (ht : impl_textOk.f k a4 = some r) (h0 : a0 = 2) (hG : Glob w) :
    Calls Tryd.prog 92 #[.agg #[.int .i64 a0, .int .i64 a1, .int .i64 a2, .int .i64 a3, .string a4]] w (ChPost w a0 a1 a2 a3 a4 r) := by
  have hGa : Glob (w.alloc (.cells #[.int .i64 a0, .int .i64 a1, .int .i64 a2, .int .i64 a3, .string a4] 54)) := hG.below (below_box0 w _)
  have HG := Aside0.mk hGa
  clear hGa hG
  subst h0 h2 h3
  have Hm := Aside0.mk hm
  have Ht := Aside0.mk ht
  clear hm ht
  go_enter Tryd.func92, Tryd.ntmps92
  go_wp2_with (go_at_call 102; refine (impl_isMade.calls a1 _ _ Hm.out HG.out).mono ?_; rintro e w' ⟨rfl, ⟨nd, rfl⟩⟩)
  go_quiet ((go_at_call 104; refine quiet_d (impl_textOk.calls k a4 r _ Ht.out)))
  go_wp2
  go_ret2
  exact ⟨_, rfl, fun _ => rfl, by (with_reducible repeat (first | exact below_box0 w _ | apply pw_below_drewN))⟩
set_option maxHeartbeats 4000000 in
set_option maxRecDepth 100000 in
theorem changeOf_text_no2 (a0 a1 a2 a3 : Int) (a4 : ByteArray) (w : World) (hm : impl_isMade.f a1 = some true) (h2 : a2 ≠ 0) (h0 : a0 = 2) (hG : Glob w) :
    Calls Tryd.prog 92 #[.agg #[.int .i64 a0, .int .i64 a1, .int .i64 a2, .int .i64 a3, .string a4]] w (ChPost w a0 a1 a2 a3 a4 false) := by
  have hGa : Glob (w.alloc (.cells #[.int .i64 a0, .int .i64 a1, .int .i64 a2, .int .i64 a3, .string a4] 54)) := hG.below (below_box0 w _)
  have HG := Aside0.mk hGa
  clear hGa hG
  subst h0
  have e2 : (a2 == 0) = false := beq_eq_false_iff_ne.2 h2
  clear h2
  have Hm := Aside0.mk hm
  clear hm
  go_enter Tryd.func92, Tryd.ntmps92
  go_wp2_with (go_at_call 102; refine (impl_isMade.calls a1 _ _ Hm.out HG.out).mono ?_; rintro e w' ⟨rfl, ⟨nd, rfl⟩⟩)
  go_quiet (fail)
  go_wp2
  go_ret2
  exact ⟨_, rfl, (fun h => by cases h), by (with_reducible repeat (first | exact below_box0 w _ | apply pw_below_drewN))⟩
set_option maxHeartbeats 4000000 in
set_option maxRecDepth 100000 in
theorem changeOf_text_no3 (a0 a1 a2 a3 : Int) (a4 : ByteArray) (w : World) (hm : impl_isMade.f a1 = some true) (h2 : a2 = 0) (h3 : a3 ≠ 0) (h0 : a0 = 2) (hG : Glob w) :
    Calls Tryd.prog 92 #[.agg #[.int .i64 a0, .int .i64 a1, .int .i64 a2, .int .i64 a3, .string a4]] w (ChPost w a0 a1 a2 a3 a4 false) := by
  have hGa : Glob (w.alloc (.cells #[.int .i64 a0, .int .i64 a1, .int .i64 a2, .int .i64 a3, .string a4] 54)) := hG.below (below_box0 w _)
  have HG := Aside0.mk hGa
  clear hGa hG
  subst h0 h2
  have e3 : (a3 == 0) = false := beq_eq_false_iff_ne.2 h3
  clear h3
  have Hm := Aside0.mk hm
  clear hm
  go_enter Tryd.func92, Tryd.ntmps92
  go_wp2_with (go_at_call 102; refine (impl_isMade.calls a1 _ _ Hm.out HG.out).mono ?_; rintro e w' ⟨rfl, ⟨nd, rfl⟩⟩)
  go_quiet (fail)
  go_wp2
  go_ret2
  exact ⟨_, rfl, (fun h => by cases h), by (with_reducible repeat (first | exact below_box0 w _ | apply pw_below_drewN))⟩
set_option maxHeartbeats 4000000 in
set_option maxRecDepth 100000 in
theorem changeOf_move (a0 a1 a2 a3 : Int) (a4 : ByteArray) (w : World) (hm : impl_isMade.f a1 = some true) (hp : impl_placeOk.f a2 a3 = some true) (h0 : a0 = 3) (hG : Glob w) :
    Calls Tryd.prog 92 #[.agg #[.int .i64 a0, .int .i64 a1, .int .i64 a2, .int .i64 a3, .string a4]] w (ChPost w a0 a1 a2 a3 a4 a4.toList.isEmpty) := by
  have hGa : Glob (w.alloc (.cells #[.int .i64 a0, .int .i64 a1, .int .i64 a2, .int .i64 a3, .string a4] 54)) := hG.below (below_box0 w _)
  have HG := Aside0.mk hGa
  clear hGa hG
  subst h0
  have Hm := Aside0.mk hm
  have Hp := Aside0.mk hp
  clear hm hp
  go_enter Tryd.func92, Tryd.ntmps92
  go_wp2_with (go_at_call 102; refine (impl_isMade.calls a1 _ _ Hm.out HG.out).mono ?_; rintro e w' ⟨rfl, ⟨nd, rfl⟩⟩)
  go_quiet ((go_at_call 103; refine quiet_d (impl_placeOk.calls a2 a3 true _ Hp.out (by (with_reducible repeat (first | exact HG.out | apply Glob.drewN | apply Glob.drew))))))
  go_wp2
  go_ret2
  exact ⟨_, rfl, fun _ => rfl, by (with_reducible repeat (first | exact below_box0 w _ | apply pw_below_drewN))⟩
set_option maxHeartbeats 4000000 in
set_option maxRecDepth 100000 in
theorem changeOf_move_no (a0 a1 a2 a3 : Int) (a4 : ByteArray) (w : World) (hm : impl_isMade.f a1 = some true) (hp : impl_placeOk.f a2 a3 = some false) (h0 : a0 = 3) (hG : Glob w) :
    Calls Tryd.prog 92 #[.agg #[.int .i64 a0, .int .i64 a1, .int .i64 a2, .int .i64 a3, .string a4]] w (ChPost w a0 a1 a2 a3 a4 false) := by
  have hGa : Glob (w.alloc (.cells #[.int .i64 a0, .int .i64 a1, .int .i64 a2, .int .i64 a3, .string a4] 54)) := hG.below (below_box0 w _)
  have HG := Aside0.mk hGa
  clear hGa hG
  subst h0
  have Hm := Aside0.mk hm
  have Hp := Aside0.mk hp
  clear hm hp
  go_enter Tryd.func92, Tryd.ntmps92
  go_wp2_with (go_at_call 102; refine (impl_isMade.calls a1 _ _ Hm.out HG.out).mono ?_; rintro e w' ⟨rfl, ⟨nd, rfl⟩⟩)
  go_quiet ((go_at_call 103; refine quiet_d (impl_placeOk.calls a2 a3 false _ Hp.out (by (with_reducible repeat (first | exact HG.out | apply Glob.drewN | apply Glob.drew))))))
  go_wp2
  go_ret2
  exact ⟨_, rfl, (fun h => by cases h), by (with_reducible repeat (first | exact below_box0 w _ | apply pw_below_drewN))⟩
set_option maxHeartbeats 4000000 in
set_option maxRecDepth 100000 in
theorem changeOf_kind (a0 a1 a2 a3 : Int) (a4 : ByteArray) (w : World) (hm : impl_isMade.f a1 = some true) (h1 : a0 ≠ 1) (h2 : a0 ≠ 2) (h3 : a0 ≠ 3) (hG : Glob w) :
    Calls Tryd.prog 92 #[.agg #[.int .i64 a0, .int .i64 a1, .int .i64 a2, .int .i64 a3, .string a4]] w (ChPost w a0 a1 a2 a3 a4 false) := by
  have hGa : Glob (w.alloc (.cells #[.int .i64 a0, .int .i64 a1, .int .i64 a2, .int .i64 a3, .string a4] 54)) := hG.below (below_box0 w _)
  have HG := Aside0.mk hGa
  clear hGa hG
  have e1 : (a0 == 1) = false := beq_eq_false_iff_ne.2 h1
  have e2 : (a0 == 2) = false := beq_eq_false_iff_ne.2 h2
  have e3 : (a0 == 3) = false := beq_eq_false_iff_ne.2 h3
  clear h1 h2 h3
  have Hm := Aside0.mk hm
  clear hm
  go_enter Tryd.func92, Tryd.ntmps92
  go_wp2_with (go_at_call 102; refine (impl_isMade.calls a1 _ _ Hm.out HG.out).mono ?_; rintro e w' ⟨rfl, ⟨nd, rfl⟩⟩)
  go_ret2
  exact ⟨_, rfl, (fun h => by cases h), by (with_reducible repeat (first | exact below_box0 w _ | apply pw_below_drewN))⟩
theorem impl_changeOf.calls (k : Nat) (a0 a1 a2 a3 : Int) (a4 : ByteArray) (r : Bool) (w : World) (h : impl_changeOf.f k a0 a1 a2 a3 a4 = some r) (hG : Glob w) :
    Calls Tryd.prog 92 #[.agg #[.int .i64 a0, .int .i64 a1, .int .i64 a2, .int .i64 a3, .string a4]] w (ChPost w a0 a1 a2 a3 a4 r) := by
  unfold impl_changeOf.f at h
  obtain ⟨m, hm, h⟩ := Option.bind_eq_some_iff.1 h
  cases m with
  | false =>
    simp only [Bool.false_eq_true, if_false, Option.some.injEq] at h
    subst h
    exact changeOf_unmade a0 a1 a2 a3 a4 w hm hG
  | true =>
    simp only [if_true] at h
    by_cases h1 : a0 = 1
    · rw [if_pos h1] at h
      obtain ⟨p, hp, h⟩ := Option.bind_eq_some_iff.1 h
      cases p with
      | false =>
        simp only [Bool.false_eq_true, if_false, Option.some.injEq] at h
        subst h
        exact changeOf_make_no a0 a1 a2 a3 a4 w hm hp h1 hG
      | true =>
        simp only [if_true] at h
        exact changeOf_make k a0 a1 a2 a3 a4 r w hm hp h h1 hG
    · rw [if_neg h1] at h
      by_cases h2 : a0 = 2
      · rw [if_pos h2] at h
        by_cases g2 : a2 = 0
        · rw [if_pos g2] at h
          by_cases g3 : a3 = 0
          · rw [if_pos g3] at h
            exact changeOf_text k a0 a1 a2 a3 a4 r w hm g2 g3 h h2 hG
          · rw [if_neg g3] at h
            simp only [Option.some.injEq] at h
            subst h
            exact changeOf_text_no3 a0 a1 a2 a3 a4 w hm g2 g3 h2 hG
        · rw [if_neg g2] at h
          simp only [Option.some.injEq] at h
          subst h
          exact changeOf_text_no2 a0 a1 a2 a3 a4 w hm g2 h2 hG
      · rw [if_neg h2] at h
        by_cases h3 : a0 = 3
        · rw [if_pos h3] at h
          obtain ⟨p, hp, h⟩ := Option.bind_eq_some_iff.1 h
          cases p with
          | false =>
            simp only [Bool.false_eq_true, if_false, Option.some.injEq] at h
            subst h
            exact changeOf_move_no a0 a1 a2 a3 a4 w hm hp h3 hG
          | true =>
            simp only [if_true, Option.some.injEq] at h
            subst h
            exact changeOf_move a0 a1 a2 a3 a4 w hm hp h3 hG
        · rw [if_neg h3] at h
          simp only [Option.some.injEq] at h
          subst h
          exact changeOf_kind a0 a1 a2 a3 a4 w hm h1 h2 h3 hG
def impl_OpOk.f (k : Nat) (a0 a1 a2 a3 : Int) (a4 : ByteArray) : Option Bool := impl_changeOf.f k a0 a1 a2 a3 a4
theorem impl_OpOk.mono (a0 a1 a2 a3 : Int) (a4 : ByteArray) (k : Nat) : LeO (impl_OpOk.f k a0 a1 a2 a3 a4) (impl_OpOk.f (k + 1) a0 a1 a2 a3 a4) := impl_changeOf.mono a0 a1 a2 a3 a4 k
set_option maxHeartbeats 4000000 in
theorem impl_OpOk.calls (k : Nat) (a0_0 a0_1 a0_2 a0_3 : Int) (a0_4 : ByteArray) (r : Bool) (w : World) (h : impl_OpOk.f k a0_0 a0_1 a0_2 a0_3 a0_4 = some r) (hG : Glob w) :
    Calls Tryd.prog 78 #[.agg #[.int .i64 a0_0, .int .i64 a0_1, .int .i64 a0_2, .int .i64 a0_3, .string a0_4]] w fun e w' => e = .returned (.bool r) ∧ Below w.heap.size w w' := by
  have hGa : Glob (w.alloc (.cells #[.int .i64 a0_0, .int .i64 a0_1, .int .i64 a0_2, .int .i64 a0_3, .string a0_4] 54)) := hG.below (below_box0 w _)
  have HG := Aside0.mk hGa
  have HH := Aside0.mk h
  clear hGa hG h
  have hu := Tryd.underlying54
  go_enter Tryd.func78, Tryd.ntmps78
  go_wp2_with (go_at_call 92; refine (impl_changeOf.calls k a0_0 a0_1 a0_2 a0_3 a0_4 r _ HH.out HG.out).mono ?_; rintro e w1 ⟨v, rfl, _, hb⟩; have HB := Aside0.mk hb; clear hb)
  go_ret
  exact ⟨rfl, (below_box0 w _).trans (HB.out.mono (by simp))⟩
end Go.Proofs.YtnclcbjagleoeaaDoor.P
