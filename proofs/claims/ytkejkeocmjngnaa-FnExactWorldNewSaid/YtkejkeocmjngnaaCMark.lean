/- Marks of clients: markClientS writes its marks into each client, and into its rows and entries. Condition: the clients, their rows and their entries lie in memory of the caller's own (from w0 on), none in two. -/
import Derived.Test.YtkejkeocmjngnaaPx5
import Derived.Test.YtkejkeocmjngnaaPx6
set_option linter.unusedVariables false
set_option linter.unusedSimpArgs false
namespace Go.Proofs.Ytkejkeocmjngnaa.P
open Go.RowKit Go.Proofs.YtkejkeocmjngnaaW.PrintWords Go.Proofs.YtkejkeocmjngnaaW.PrintLast Go.Proofs.YtkejkeocmjngnaaW.PrintMore

def laws_markClientS.l0 : Nat → List S36 → Int → Int → Option (Int × List S36)
  | 0, _, _, _ => none
  | k + 1, x, a, i => if i < (x.length : Int) then (if 0 ≤ i then (laws_markRowS.f k (rd_T36 x i).f2 (wrap64 (wrap64 (a + 1) + 1))).bind fun p => ((laws_markEntryS.f k (rd_T36 x i).f3 p.1).bind fun q => laws_markClientS.l0 k (x.set i.toNat ⟨a, wrap64 (a + 1), p.2, q.2, q.1, wrap64 (q.1 + 1)⟩) (wrap64 (wrap64 (q.1 + 1) + 1)) (wrap64 (i + 1))) else none) else some (a, x)
def laws_markClientS.f (k : Nat) (l0 : List S36) (a1 : Int) : Option (Int × List S36) := laws_markClientS.l0 k l0 a1 0
/-- Client i is out: its cells, its rows and its entries, each told for itself. -/
structure CM (w0 w W : World) (P : Nat → Prop) (g n cap : Nat) (x : List S36) (i : Int) (oki : Nat → Prop) (a b : Int) (v2 v3 : Value) (r2 : List S56) (r3 : List S61) (c d : Int) : Prop where
  i0 : 0 ≤ i
  i1 : i < n
  hH : Kd.H k36 36 W w0.heap.size (fun k => P k ∨ w.heap.size ≤ k) (.slice (some ⟨g, 0, none⟩) n cap) x i oki [.int .i64 a, .int .i64 b, v2, v3, .int .i64 c, .int .i64 d]
  h2 : Kd.R k56 56 W w0.heap.size (fun k => some k = v2.ownBlock) v2 r2
  h3 : Kd.R k61 61 W w0.heap.size (fun k => some k = v3.ownBlock) v3 r3
  o2 : ∀ k, some k = v2.ownBlock → oki k ∧ some k ≠ v3.ownBlock
  o3 : ∀ k, some k = v3.ownBlock → oki k ∧ some k ≠ v2.ownBlock
  oo : ∀ k, oki k → (P k ∨ w.heap.size ≤ k) ∧ k ≠ g
  hg : (P g ∨ w.heap.size ≤ g) ∧ w0.heap.size ≤ g
  hK : Kept w W P
  hB : Below w0.heap.size w0 W
theorem own_ne {W : World} {base : Nat} {ok2 ok3 : Nat → Prop} {v2 v3 : Value} {r2 : List S56} {r3 : List S61} (h2 : Kd.R k56 56 W base ok2 v2 r2) (h3 : Kd.R k61 61 W base ok3 v3 r3) (k : Nat) (hk : some k = v3.ownBlock) : some k ≠ v2.ownBlock := by
  obtain ⟨inner, ho⟩ := Kd.R_own h3
  obtain ⟨cells, hc⟩ := own_typed ho k hk.symm
  exact Kd.R_ne h2 hc (by decide)
theorem CM.start {w0 w W : World} {P : Nat → Prop} {g n cap : Nat} {x : List S36} {i : Int} (h : Kd.S k36 36 W w0.heap.size (fun k => P k ∨ w.heap.size ≤ k) (.slice (some ⟨g, 0, none⟩) n cap) x) (hK : Kept w W P) (hB : Below w0.heap.size w0 W) (i0 : 0 ≤ i) (i1 : i < n) :
    ∃ oki v2 v3, CM w0 w W P g n cap x i oki (rd_T36 x i).f0 (rd_T36 x i).f1 v2 v3 (rd_T36 x i).f2 (rd_T36 x i).f3 (rd_T36 x i).f4 (rd_T36 x i).f5 := by
  obtain ⟨oki, c, hcl, hM, hcc, hfr, hoki, hH⟩ := Kd.S_elem h z36 i i0 i1
  obtain ⟨v2, v3, rfl, h2, h3⟩ := k36_openM hM
  have e23 := own_ne h2 h3
  have hgb : (P g ∨ w.heap.size ≤ g) := (Kd.S_R h).1 g (by simp [Value.ownBlock])
  obtain ⟨inner, ho⟩ := Kd.S_own h
  exact ⟨oki, v2, v3, i0, i1, hH, Kd.R_tight rfl h2, Kd.R_tight rfl h3, fun k hk => ⟨h2.1 k hk.symm, fun e => e23 k e hk⟩, fun k hk => ⟨h3.1 k hk.symm, e23 k hk⟩, hoki, ⟨hgb, own_base ho g (by simp [Value.ownBlock])⟩, hK, hB⟩
section
variable {w0 w W : World} {P : Nat → Prop} {g n cap : Nat} {x : List S36} {i : Int} {oki : Nat → Prop} {a b : Int} {v2 v3 : Value} {r2 : List S56} {r3 : List S61} {c d : Int}
theorem CM.at_ (h : CM w0 w W P g n cap x i oki a b v2 v3 r2 r3 c d) :
    W.cell? ⟨g, i.toNat * 6, none⟩ = some (.int .i64 a) ∧ W.cell? ⟨g, i.toNat * 6 + 1, none⟩ = some (.int .i64 b) ∧ W.cell? ⟨g, i.toNat * 6 + 2, none⟩ = some v2 ∧ W.cell? ⟨g, i.toNat * 6 + 3, none⟩ = some v3 ∧ W.cell? ⟨g, i.toNat * 6 + 4, none⟩ = some (.int .i64 c) ∧ W.cell? ⟨g, i.toNat * 6 + 5, none⟩ = some (.int .i64 d) := by
  have q := (Kd.H_at h.hH h.i0 h.i1).1
  exact ⟨q 0 _ rfl, q 1 _ rfl, q 2 _ rfl, q 3 _ rfl, q 4 _ rfl, q 5 _ rfl⟩
theorem CM.fr_ (h : CM w0 w W P g n cap x i oki a b v2 v3 r2 r3 c d) :
    W.frozen? ⟨g, i.toNat * 6, none⟩ = false ∧ W.frozen? ⟨g, i.toNat * 6 + 1, none⟩ = false ∧ W.frozen? ⟨g, i.toNat * 6 + 2, none⟩ = false ∧ W.frozen? ⟨g, i.toNat * 6 + 3, none⟩ = false ∧ W.frozen? ⟨g, i.toNat * 6 + 4, none⟩ = false ∧ W.frozen? ⟨g, i.toNat * 6 + 5, none⟩ = false := by
  have q := (Kd.H_at h.hH h.i0 h.i1).2
  exact ⟨q 0, q 1, q 2, q 3, q 4, q 5⟩
theorem CM.put_ (h : CM w0 w W P g n cap x i oki a b v2 v3 r2 r3 c d) {j : Nat} {u : Value} {a' b' c' d' : Int}
    (hH : Kd.H k36 36 (W.setCell ⟨g, j, none⟩ u) w0.heap.size (fun k => P k ∨ w.heap.size ≤ k) (.slice (some ⟨g, 0, none⟩) n cap) x i oki [.int .i64 a', .int .i64 b', v2, v3, .int .i64 c', .int .i64 d']) : CM w0 w (W.setCell ⟨g, j, none⟩ u) P g n cap x i oki a' b' v2 v3 r2 r3 c' d' :=
  ⟨h.i0, h.i1, hH, Kd.R_far h.h2 (p := ⟨g, j, none⟩) (fun k hk => (h.oo k (h.o2 k hk).1).2) u, Kd.R_far h.h3 (p := ⟨g, j, none⟩) (fun k hk => (h.oo k (h.o3 k hk).1).2) u, h.o2, h.o3, h.oo, h.hg, Kept.setCell h.hK (p := ⟨g, j, none⟩) h.hg.1 u, below_set h.hB h.hg.2⟩
theorem CM.put0 (h : CM w0 w W P g n cap x i oki a b v2 v3 r2 r3 c d) (u : Int) : CM w0 w (W.setCell ⟨g, i.toNat * 6, none⟩ (.int .i64 u)) P g n cap x i oki u b v2 v3 r2 r3 c d :=
  h.put_ (Kd.H_seg h.hH h.i0 h.i1 (seg := [.int .i64 u]) (j := 0) (show 0 + 1 ≤ 6 by decide) (fun q hq => by rw [List.mem_singleton.1 hq]; rfl)).1
theorem CM.put1 (h : CM w0 w W P g n cap x i oki a b v2 v3 r2 r3 c d) (u : Int) : CM w0 w (W.setCell ⟨g, i.toNat * 6 + 1, none⟩ (.int .i64 u)) P g n cap x i oki a u v2 v3 r2 r3 c d :=
  h.put_ (Kd.H_seg h.hH h.i0 h.i1 (seg := [.int .i64 u]) (j := 1) (show 1 + 1 ≤ 6 by decide) (fun q hq => by rw [List.mem_singleton.1 hq]; rfl)).1
theorem CM.put4 (h : CM w0 w W P g n cap x i oki a b v2 v3 r2 r3 c d) (u : Int) : CM w0 w (W.setCell ⟨g, i.toNat * 6 + 4, none⟩ (.int .i64 u)) P g n cap x i oki a b v2 v3 r2 r3 u d :=
  h.put_ (Kd.H_seg h.hH h.i0 h.i1 (seg := [.int .i64 u]) (j := 4) (show 4 + 1 ≤ 6 by decide) (fun q hq => by rw [List.mem_singleton.1 hq]; rfl)).1
theorem CM.put5 (h : CM w0 w W P g n cap x i oki a b v2 v3 r2 r3 c d) (u : Int) : CM w0 w (W.setCell ⟨g, i.toNat * 6 + 5, none⟩ (.int .i64 u)) P g n cap x i oki a b v2 v3 r2 r3 c u :=
  h.put_ (Kd.H_seg h.hH h.i0 h.i1 (seg := [.int .i64 u]) (j := 5) (show 5 + 1 ≤ 6 by decide) (fun q hq => by rw [List.mem_singleton.1 hq]; rfl)).1
theorem CM.row {W' : World} {ok' : Nat → Prop} {q2 : List S56} (h : CM w0 w W P g n cap x i oki a b v2 v3 r2 r3 c d) (hr : Kd.R k56 56 W' w0.heap.size ok' v2 q2) (hb : Below w0.heap.size w0 W') (hk : Kept W W' (fun k => some k = v2.ownBlock)) : CM w0 w W' P g n cap x i oki a b v2 v3 q2 r3 c d :=
  ⟨h.i0, h.i1, Kd.H_kept h.hH hk (fun k _ hn hs => hn (h.o2 k hs).1), Kd.R_tight rfl hr, Kd.R_kept h.h3 hk (fun k h3 hs => (h.o3 k h3).2 hs), h.o2, h.o3, h.oo, h.hg, h.hK.then_ hk (fun k hs => (h.oo k (h.o2 k hs).1).1), hb⟩
theorem CM.ent {W' : World} {ok' : Nat → Prop} {q3 : List S61} (h : CM w0 w W P g n cap x i oki a b v2 v3 r2 r3 c d) (hr : Kd.R k61 61 W' w0.heap.size ok' v3 q3) (hb : Below w0.heap.size w0 W') (hk : Kept W W' (fun k => some k = v3.ownBlock)) : CM w0 w W' P g n cap x i oki a b v2 v3 r2 q3 c d :=
  ⟨h.i0, h.i1, Kd.H_kept h.hH hk (fun k _ hn hs => hn (h.o3 k hs).1), Kd.R_kept h.h2 hk (fun k h2 hs => (h.o2 k h2).2 hs), Kd.R_tight rfl hr, h.o2, h.o3, h.oo, h.hg, h.hK.then_ hk (fun k hs => (h.oo k (h.o3 k hs).1).1), hb⟩
theorem CM.done (h : CM w0 w W P g n cap x i oki a b v2 v3 r2 r3 c d) : Kd.S k36 36 W w0.heap.size (fun k => P k ∨ w.heap.size ≤ k) (.slice (some ⟨g, 0, none⟩) n cap) (x.set i.toNat ⟨a, b, r2, r3, c, d⟩) :=
  Kd.H_back h.hH (k36_mkM W w0.heap.size oki ⟨a, b, r2, r3, c, d⟩ (Kd.R_mono h.h2 (fun k hk => (h.o2 k hk).1)) (Kd.R_mono h.h3 (fun k hk => (h.o3 k hk).1))) (fun _ hk => hk)
end
end Go.Proofs.Ytkejkeocmjngnaa.P
