/- markWorld: a world's log, and its clients; of letters there are none. -/
import Derived.Test.YtkejkeocmjngnaaCWalk
set_option linter.unusedVariables false
set_option linter.unusedSimpArgs false
namespace Go.Proofs.Ytkejkeocmjngnaa.P
open Go.RowKit Go.Proofs.YtkejkeocmjngnaaW.PrintWords Go.Proofs.YtkejkeocmjngnaaW.PrintLast Go.Proofs.YtkejkeocmjngnaaW.PrintMore

set_option maxHeartbeats 8000000 in
set_option maxRecDepth 100000 in
/-- No letters, no marks. -/
theorem laws_markLetterS.nil (A : Option Addr) (c : Nat) (a1 : Int) (w : World) : Calls Try.prog 18 #[.slice A 0 c, .int .i64 a1] w fun e w' => e = .returned (.int .i64 a1) ∧ w' = w := by
  go_enter Try.func18, Try.ntmps18
  go_wp2
  go_loopg [1, 5] 0 (fun _ v1 v5 w' => v1 = .int .i64 a1 ∧ v5 = .int .i64 0 ∧ w' = w)
  case atStart => exact ⟨rfl, rfl, rfl⟩
  case round =>
    obtain ⟨rfl, rfl, rfl⟩ := hrel
    go_wp2
    go_ret
    exact ⟨rfl, rfl⟩
def laws_markWorld.f (k : Nat) (l0 : List S61) (s : Int) (u : Bool) (l3 : List S36) (a : Int) : Option (Int × List S61 × List S36) := (laws_markServer.f k l0 s u a).bind fun p => (laws_markClientS.f k l3 p.1).bind fun q => some (q.1, p.2, q.2)
set_option maxHeartbeats 8000000 in
set_option maxRecDepth 100000 in
theorem laws_markWorld.calls (k : Nat) (P3 : Nat → Prop) (v0 v3 : Value) (A4 : Option Addr) (c4 : Nat) (l0 : List S61) (s : Int) (u : Bool) (l3 : List S36) (a1 r1 : Int) (r2 : List S61) (r3 : List S36) (w0 w : World) (hB : Below w0.heap.size w0 w) (ho0 : Kd.R k61 61 w w0.heap.size (fun k_ => some k_ = v0.ownBlock) v0 l0) (ho3 : Kd.S k36 36 w w0.heap.size P3 v3 l3) (hd : ∀ k_, P3 k_ → some k_ ≠ v0.ownBlock ∧ k_ < w.heap.size) (h : laws_markWorld.f k l0 s u l3 a1 = some (r1, r2, r3)) :
    Calls Try.prog 7 #[.agg #[v0, .int .i64 s, .bool u, v3, .slice A4 0 c4], .int .i64 a1] w fun e w' => e = .returned (.int .i64 r1) ∧ Kd.R k61 61 w' w0.heap.size (fun k_ => some k_ = v0.ownBlock) v0 r2 ∧ Kd.S k36 36 w' w0.heap.size (fun k_ => P3 k_ ∨ w.heap.size ≤ k_) v3 r3 ∧ Below w0.heap.size w0 w' ∧ Kept w w' (fun k_ => some k_ = v0.ownBlock ∨ P3 k_) := by
  have hu28 := Try.underlying28
  have hu24 := Try.underlying24
  unfold laws_markWorld.f at h
  obtain ⟨⟨t1, t2⟩, A10, h⟩ := Option.bind_eq_some_iff.mp h
  obtain ⟨⟨q1, q2⟩, A20, h⟩ := Option.bind_eq_some_iff.mp h
  simp only [Option.some.injEq, Prod.mk.injEq] at h
  obtain ⟨rfl, rfl, rfl⟩ := h
  have A1 := Aside0.mk A10
  have A2 := Aside0.mk (show laws_markClientS.f k l3 t1 = some (q1, q2) from A20)
  clear A10 A20
  obtain ⟨A0, c0, rfl⟩ := Kd.R_slice ho0
  obtain ⟨A3, c3, rfl⟩ := Kd.S_slice ho3
  have HO0 := Aside0.mk ho0
  have HO3 := Aside0.mk ho3
  have HD := Aside0.mk hd
  have HB := Aside0.mk hB
  clear ho0 ho3 hd hB
  go_enter Try.func7, Try.ntmps7
  go_wp2_with (first
    | ((with_reducible refine gate_dst (N := 2) rfl ?_); refine box_event ?hg (N := 2) ?hd (cs := #[.slice A0 l0.length c0, .int .i64 s, .bool u, .slice A3 l3.length c3, .slice A4 0 c4]) (t := 28) ?hr ?_; (case hd => rfl); (case hg => rfl); (case hr => first | (go_simp; done) | (go_simp; rfl)); intro gb hg w1 hbox hb; have BK1 := Aside0.mk hbox; have GB := Aside0.mk hg; have D0 := Aside0.mk (Kd.R_below HO0.out hb); have D3 := Aside0.mk (Kd.S_below HO3.out hb); have HB1 := Aside0.mk (below_step HB.out hb); have K1 := Aside0.mk (Kept.of_below hb (fun k_ => some k_ = (Value.slice A0 l0.length c0).ownBlock ∨ P3 k_)); clear hbox hb hg; have z0 := (blk_cell BK1.out 0).trans rfl; have z1 := (blk_cell BK1.out 1).trans rfl; have z2 := (blk_cell BK1.out 2).trans rfl; have z3 := (blk_cell BK1.out 3).trans rfl; have z4 := (blk_cell BK1.out 4).trans rfl)
    | (go_at_call 16; (with_reducible refine (laws_markServer.calls k (fun k_ => some k_ = (Value.slice A0 l0.length c0).ownBlock) (.slice A0 l0.length c0) l0 s u a1 t1 t2 w0 _ HB1.out D0.out A1.out).mono ?_); rintro e w2 ⟨rfl, hr, hb, hk⟩; have E0 := Aside0.mk (Kd.R_tight rfl hr); have E3 := Aside0.mk (Kd.S_kept D3.out hk (fun k_ hp => (HD.out k_ hp).1)); have BK2 := Aside0.mk (blk_kept BK1.out hk (fun hs => Nat.lt_irrefl _ (GB.out ▸ Kd.R_lt HO0.out gb hs.symm))); have K2 := Aside0.mk (K1.out.then_ hk (fun k_ hs => .inl (.inl hs))); have HB2 := Aside0.mk hb; clear hr hb hk BK1 D0 D3 HB1 K1 z0 z1 z2 z3 z4; have z0 := (blk_cell BK2.out 0).trans rfl; have z1 := (blk_cell BK2.out 1).trans rfl; have z2 := (blk_cell BK2.out 2).trans rfl; have z3 := (blk_cell BK2.out 3).trans rfl; have z4 := (blk_cell BK2.out 4).trans rfl)
    | (go_at_call 17; (with_reducible refine (laws_markClientS.calls k P3 (.slice A3 l3.length c3) l3 t1 q1 q2 w0 _ HB2.out E3.out A2.out).mono ?_); rintro e w3 ⟨rfl, hr, hb, hk⟩; have F3 := Aside0.mk (Kd.S_mono hr (fun k_ hs => hs.imp_right (fun hs2 => Nat.le_trans K2.out.1 hs2))); have F0 := Aside0.mk (Kd.R_kept E0.out hk (fun k_ h0 hp => (HD.out k_ hp).1 h0)); have BK3 := Aside0.mk (blk_kept BK2.out hk (fun hp => Nat.lt_irrefl _ (GB.out ▸ (HD.out gb hp).2))); have K3 := Aside0.mk (K2.out.then_ hk (fun k_ hs => .inl (.inr hs))); have HB3 := Aside0.mk hb; clear hr hb hk BK2 E0 E3 HB2 K2 z0 z1 z2 z3 z4; have z0 := (blk_cell BK3.out 0).trans rfl; have z1 := (blk_cell BK3.out 1).trans rfl; have z2 := (blk_cell BK3.out 2).trans rfl; have z3 := (blk_cell BK3.out 3).trans rfl; have z4 := (blk_cell BK3.out 4).trans rfl)
    | (go_at_call 18; (with_reducible refine (laws_markLetterS.nil A4 c4 q1 _).mono ?_); rintro e w4 ⟨rfl, hw⟩; subst hw))
  go_ret
  exact ⟨rfl, F0.out, F3.out, HB3.out, K3.out⟩
end Go.Proofs.Ytkejkeocmjngnaa.P
