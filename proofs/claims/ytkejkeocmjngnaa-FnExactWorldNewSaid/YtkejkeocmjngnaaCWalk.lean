/- The walk of markClientS. -/
import Derived.Test.YtkejkeocmjngnaaCMark
set_option linter.unusedVariables false
set_option linter.unusedSimpArgs false
namespace Go.Proofs.Ytkejkeocmjngnaa.P
open Go.RowKit Go.Proofs.YtkejkeocmjngnaaW.PrintWords Go.Proofs.YtkejkeocmjngnaaW.PrintLast Go.Proofs.YtkejkeocmjngnaaW.PrintMore

set_option maxHeartbeats 8000000 in
set_option maxRecDepth 100000 in
theorem laws_markClientS.calls (k : Nat) (P0_ : Nat → Prop) (u : Value) (l0 : List S36) (a1 : Int) (r1 : Int) (r2 : List S36) (w0 w : World) (hB : Below w0.heap.size w0 w) (ho0 : Kd.S k36 36 w w0.heap.size P0_ u l0) (h : laws_markClientS.f k l0 a1 = some (r1, r2)) :
    Calls Try.prog 17 #[u, .int .i64 a1] w fun e w' => e = .returned (.int .i64 r1) ∧ Kd.S k36 36 w' w0.heap.size (fun k_ => (P0_ k_ ∨ w.heap.size ≤ k_)) u r2 ∧ Below w0.heap.size w0 w' ∧ Kept w w' P0_ := by
  have HO0 := Aside0.mk (show Kd.S k36 36 w w0.heap.size (fun k_ => (P0_ k_ ∨ w.heap.size ≤ k_)) u l0 from Kd.S_mono ho0 (fun k_ hk => (.inl hk)))
  have HK := Aside0.mk (Kept.refl w P0_)
  have HB := Aside0.mk hB
  clear hB ho0
  have H : laws_markClientS.l0 k l0 a1 0 = some (r1, r2) := h
  clear h
  have H' := Aside0.mk H
  clear H
  have hu36 := Try.underlying36
  go_enter Try.func17, Try.ntmps17
  go_wp2
  go_loopg [1, 5] k (fun kq v1 v5 w' => ∃ (x : List S36) (a : Int) (i : Int), v1 = .int .i64 a ∧ v5 = .int .i64 i ∧ Aside0 (laws_markClientS.l0 kq x a i = some (r1, r2)) ∧ Aside0 (kq ≤ k) ∧ Aside0 (Kd.S k36 36 w' w0.heap.size (fun k_ => (P0_ k_ ∨ w.heap.size ≤ k_)) u x) ∧ Aside0 (Kept w w' P0_) ∧ Aside0 (Below w0.heap.size w0 w'))
  case atStart => exact ⟨l0, a1, 0, rfl, rfl, H', ⟨Nat.le_refl _⟩, HO0, HK, HB⟩
  case round =>
    clear H' HO0
    try clear p2
    obtain ⟨x, a, i, rfl, rfl, HA, HK1, HO, HK, HB⟩ := hrel
    cases gk with
    | zero => exact absurd HA.out (by simp [laws_markClientS.l0])
    | succ k1 =>
      have H := HA.out
      clear HA
      simp only [laws_markClientS.l0] at H
      by_cases c3 : i < (x.length : Int)
      · rw [if_pos c3] at H
        have c3b0 : decide (i < (x.length : Int)) = true := decide_eq_true c3
        by_cases c4 : 0 ≤ i
        · rw [if_pos c4] at H
          have c4b0 : decide (0 ≤ i) = true := decide_eq_true c4
          obtain ⟨⟨p1, p2⟩, A50, H⟩ := Option.bind_eq_some_iff.mp H
          have A5 := Aside0.mk A50
          obtain ⟨⟨q1, q2⟩, A60, H⟩ := Option.bind_eq_some_iff.mp H
          have A6 := Aside0.mk A60
          have H' := Aside0.mk H
          clear A50 A60 H
          obtain ⟨g, cap, rfl, _, _, _, _⟩ := Kd.S_form HO.out (by omega)
          obtain ⟨oki, v2, v3, hC⟩ := CM.start HO.out HK.out HB.out c4 c3
          have C0 := Aside0.mk hC
          clear hC HO HK HB
          obtain ⟨z0, z1, z2, z3, z4, z5⟩ := C0.out.at_
          obtain ⟨y0, y1, y2, y3, y4, y5⟩ := C0.out.fr_
          have p5 := eq_true c4
          have q5 := eq_true c3
          clear c3 c4
          go_wp2_with (first
            | ((with_reducible refine gate_store (t := 3) (p := 16) rfl ?_); refine store_event (t := 3) (p := 16) (v := ?vo16) (w1 := (wr.setCell ⟨g, i.toNat * 6, none⟩ (.int .i64 a))) ?hg ?ho ?hn ?hr ?_; (case ho => rfl); (case hg => rfl); (case hn => rfl); (case hr => first | (go_simp; done) | (go_simp; rfl)); intro w1 hw; have D := C0.out.put0 a; rw [← hw] at D; clear C0 hw z0 z1 z2 z3 z4 z5 y0 y1 y2 y3 y4 y5; have C1 := Aside0.mk D; clear D; obtain ⟨z0, z1, z2, z3, z4, z5⟩ := C1.out.at_; obtain ⟨y0, y1, y2, y3, y4, y5⟩ := C1.out.fr_)
            | ((with_reducible refine gate_store (t := 3) (p := 23) rfl ?_); refine store_event (t := 3) (p := 23) (v := ?vo23) (w1 := (w1.setCell ⟨g, i.toNat * 6 + 1, none⟩ (.int .i64 (wrap64 (a + 1))))) ?hg ?ho ?hn ?hr ?_; (case ho => rfl); (case hg => rfl); (case hn => rfl); (case hr => first | (go_simp; done) | (go_simp; rfl)); intro w2 hw; have D := C1.out.put1 (wrap64 (a + 1)); rw [← hw] at D; clear C1 hw z0 z1 z2 z3 z4 z5 y0 y1 y2 y3 y4 y5; have C2 := Aside0.mk D; clear D; obtain ⟨z0, z1, z2, z3, z4, z5⟩ := C2.out.at_; obtain ⟨y0, y1, y2, y3, y4, y5⟩ := C2.out.fr_)
            | (go_at_call 30; (with_reducible refine (laws_markRowS.calls k1 (fun k_ => some k_ = v2.ownBlock) v2 _ _ _ _ w0 _ C2.out.hB C2.out.h2 A5.out).mono ?_); rintro e w3 ⟨rfl, hr, hb, hk⟩; have C3 := Aside0.mk (C2.out.row hr hb hk); clear C2 hr hb hk z0 z1 z2 z3 z4 z5 y0 y1 y2 y3 y4 y5; obtain ⟨z0, z1, z2, z3, z4, z5⟩ := C3.out.at_; obtain ⟨y0, y1, y2, y3, y4, y5⟩ := C3.out.fr_)
            | (go_at_call 29; (with_reducible refine (laws_markEntryS.calls k1 (fun k_ => some k_ = v3.ownBlock) v3 _ _ _ _ w0 _ C3.out.hB C3.out.h3 A6.out).mono ?_); rintro e w4 ⟨rfl, hr, hb, hk⟩; have C4 := Aside0.mk (C3.out.ent hr hb hk); clear C3 hr hb hk z0 z1 z2 z3 z4 z5 y0 y1 y2 y3 y4 y5; obtain ⟨z0, z1, z2, z3, z4, z5⟩ := C4.out.at_; obtain ⟨y0, y1, y2, y3, y4, y5⟩ := C4.out.fr_)
            | ((with_reducible refine gate_store (t := 3) (p := 44) rfl ?_); refine store_event (t := 3) (p := 44) (v := ?vo44) (w1 := (w4.setCell ⟨g, i.toNat * 6 + 4, none⟩ (.int .i64 q1))) ?hg ?ho ?hn ?hr ?_; (case ho => rfl); (case hg => rfl); (case hn => rfl); (case hr => first | (go_simp; done) | (go_simp; rfl)); intro w5 hw; have D := C4.out.put4 q1; rw [← hw] at D; clear C4 hw z0 z1 z2 z3 z4 z5 y0 y1 y2 y3 y4 y5; have C5 := Aside0.mk D; clear D; obtain ⟨z0, z1, z2, z3, z4, z5⟩ := C5.out.at_; obtain ⟨y0, y1, y2, y3, y4, y5⟩ := C5.out.fr_)
            | ((with_reducible refine gate_store (t := 3) (p := 51) rfl ?_); refine store_event (t := 3) (p := 51) (v := ?vo51) (w1 := (w5.setCell ⟨g, i.toNat * 6 + 5, none⟩ (.int .i64 (wrap64 (q1 + 1))))) ?hg ?ho ?hn ?hr ?_; (case ho => rfl); (case hg => rfl); (case hn => rfl); (case hr => first | (go_simp; done) | (go_simp; rfl)); intro w6 hw; have D := C5.out.put5 (wrap64 (q1 + 1)); rw [← hw] at D; clear C5 hw z0 z1 z2 z3 z4 z5 y0 y1 y2 y3 y4 y5; have C6 := Aside0.mk D; clear D))
          go_roundg k1
          case measure => have := HK1.out; omega
          case rel => exact ⟨(x.set i.toNat ⟨a, wrap64 (a + 1), p2, q2, q1, wrap64 (q1 + 1)⟩), (wrap64 (wrap64 (q1 + 1) + 1)), (wrap64 (i + 1)), (by first | rfl | (simp; done) | (simp [*]; done)), (by first | rfl | (simp; done) | (simp [*]; done)), H', ⟨by have := HK1.out; omega⟩, ⟨C6.out.done⟩, ⟨C6.out.hK⟩, ⟨C6.out.hB⟩⟩
        · rw [if_neg c4] at H
          exact absurd H (by simp)
      · rw [if_neg c3] at H
        have c3b0 : decide (i < (x.length : Int)) = false := decide_eq_false c3
        clear c3
        simp only [Option.some.injEq, Prod.mk.injEq] at H
        obtain ⟨rfl, rfl⟩ := H
        obtain ⟨Ao17, co17, rfl⟩ := Kd.S_slice HO.out
        go_wp2
        go_ret
        exact ⟨by first | rfl | (simp [errW_none, errW_some] <;> rfl) | (simp [*, errW_none, errW_some] <;> rfl), HO.out, HB.out, HK.out⟩
end Go.Proofs.Ytkejkeocmjngnaa.P
