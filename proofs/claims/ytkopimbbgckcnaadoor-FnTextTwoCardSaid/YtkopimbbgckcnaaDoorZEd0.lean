/- Joined by a program (wip/shake.py): the declarations that 'YtkopimbbgckcnaaDoorCardFnTextTwo' reaches. -/
import Derived.Below
import Derived.Deep.Draws
import Derived.Deep.AppendLies
import Derived.Maps.AppendAt
import Derived.OwnWalk
import Derived.Laws.BytesArg
import Derived.Laws.MakeOwn
import Derived.Laws.OwnMore
import Derived.Deep.OwnRows
import Derived.Tactics
import Derived.Lib.ConvBytes
import Derived.Laws.Slices
import Derived.WalkKit
import Derived.KernelRfl
import Derived.RowKit3
import Derived.Deep.LoopGhost
import Derived.Deep.QuietTactic
import Derived.BigQuiet
import Derived.WideLaws
import Derived.Deep.DeepCutAuto
import Derived.Deep.CutBlock
import Derived.Deep.RegionHeld3
import Derived.Laws.Rows
import Derived.Lib.AppendStr
import Derived.ArgAppend
import Derived.Laws.IdiomCopy
import Derived.OrdersHeld
import Derived.Laws.BitsLemmas
import Derived.RowKit
import Derived.Deep.CutRange
import Derived.Lib.LaidTab
import Derived.RegionTactic
import Derived.Outline
import Derived.LoopTactic
import Derived.LaidEqlPtr
import Derived.RangeFuncFrom
import Derived.RangeFuncNested
import Derived.RangeFuncBound
import Derived.RangeFuncCalls
import Derived.RangeFuncLeaves
import Derived.Shelf.Abstract
import Derived.Shelf.RegionOpen
import Derived.OwnWalkIn
import Derived.TacticsInMore
import Derived.LoopNIn
import Derived.LoopIn
import Derived.Lib.Hide
import Derived.RangeFuncWrites
import Derived.LaidMore
import Derived.LaidLaws
import Derived.ProofKit
import Derived.ChangeVars
import Derived.ChangeSame
import Derived.OpenShut
import Derived.ShutString
import Derived.ChangeOld
import Derived.SizedLaws
import Derived.SevenTiedAt
import Derived.Test.YtkopimbbgckcnaaDoorCards
import Derived.Test.YtkopimbbgckcnaaDoorRows
import Derived.Test.YtkopimbbgckcnaaDoorTie
import Derived.Test.YtkopimbbgckcnaaDoorZEdV
import Derived.Test.YtkopimbbgckcnaaDoorWSized
set_option linter.unusedVariables false
set_option linter.unusedSimpArgs false
set_option linter.unusedSectionVars false
namespace Go.Proofs.YtkopimbbgckcnaaDoor.P
open Go.RowKit Go.Proofs.YtkopimbbgckcnaaDoorW.PrintWords Go.Proofs.YtkopimbbgckcnaaDoorW.PrintLast Go.Proofs.YtkopimbbgckcnaaDoorW.PrintMore
theorem bel_ {p : Prop} (h : p := by repeat (first | (with_reducible first | exact HB.out | apply below_alloc | apply pw_below_drewN | apply below_drew1 | refine below_set ?_ (Aside0.out (by assumption)) | refine below_set ?_ (IsS106.ge (Aside0.out (by assumption)))) | exact HB.out)) : p := h
theorem bp_ {p q : Prop} (h : p) (f : p → q := by intro h_; (with_reducible repeat (first | refine blk_drewN ?_ _ | refine blk_drew ?_ | refine blk_alloc ?_ _)); exact h_) : q := f h
theorem rp_ {p q : Prop} (h : p) (f : p → q := by intro h_; (with_reducible repeat (first | apply Kd.R_alloc | apply Kd.R_drewN | apply Kd.R_drew)); exact h_) : q := f h
theorem ar_ {p : Prop} (h : p := by (try simp only [List.map_toArray, List.map_cons, List.map_nil]); first | done | rfl | (simp only [List.length_drop, List.length_take]; rfl)) : p := h
theorem fi_ {p : Prop} (h : p := by first | rfl | (simp [errW_none, errW_some] <;> rfl) | (simp [*, errW_none, errW_some] <;> rfl)) : p := h
theorem cp_ {p q : Prop} (h : p) (f : p → q := by intro h_; repeat (first | exact (Kd.C_below h_ HB.out) | (with_reducible refine Kd.C_alloc ?_ _) | (with_reducible refine Kd.C_drewN ?_ _) | (with_reducible refine Kd.C_drew ?_))) : q := f h
theorem ke_ {p : Prop} (h : p := by repeat (first | (with_reducible first | exact HK.out | apply KeepBut.set_ | apply keep_drewN | apply keep_drew | apply keep_alloc) | exact HK.out)) : p := h
theorem kf_ {w w1 W : World} {g : Nat} {row : Option Nat} (h0 : KeepBut w w1 g row) (h : KeepBut w W g row := by repeat (first | (with_reducible first | exact HK.out | apply KeepBut.set_ | apply keep_drewN | apply keep_drew | apply keep_alloc | refine keep_far ?_ (Aside0.out (by assumption)) _) | exact HK.out)) : KeepBut w W g row := h
theorem qp_ {p q : Prop} (h : p) (f : p → q := by intro h_; (with_reducible repeat (first | apply Kd.Q_alloc | apply Kd.Q_drewN | apply Kd.Q_drew)); exact h_) : q := f h
theorem cz_ {W : World} {g : Nat} {t : TypeId} {cs : Array Value} (h : W.heap[g]? = some (.cells cs t (0, 0))) (i : Nat) (v : Value) (hv : cs[i]? = some v := by exact rfl) : W.cell? ⟨g, i, none⟩ = some v := (blk_cell h i).trans hv
theorem kb_ {w w1 W0 : World} {g g' : Nat} {o : Obj} (hk : KeepBut w w1 g none) (h0 : W0.heap[g']? = some o) (hn : g' ≠ g) (f : W0.heap[g']? = some o → w.heap[g']? = some o := by intro h_; (with_reducible repeat (first | refine blk_drewN ?_ _ | refine blk_drew ?_ | refine blk_alloc ?_ _)); exact h_) : w1.heap[g']? = some o := hk.blk (f h0) hn (by simp)
theorem bb_ {w w1 W0 : World} {g : Nat} {o : Obj} (h0 : W0.heap[g]? = some o) (hb : Below w.heap.size w w1) (f : W0.heap[g]? = some o → w.heap[g]? = some o := by intro h_; (with_reducible repeat (first | refine blk_drewN ?_ _ | refine blk_drew ?_ | refine blk_alloc ?_ _)); exact h_) : w1.heap[g]? = some o := blk_below (f h0) hb
theorem bx_ {P : Program} {ops : Array Oper} {Q : Exit → Act → World → Prop} {rest : List Oper} {o : Oper} {a : Act} {W : World} (N : Tmp) (cs : Array Value) (t : TypeId)
    (h : ∀ g, g = W.heap.size → ∀ w1, w1.heap[g]? = some (.cells cs t (0, 0)) → Below W.heap.size W w1 → wpList P ops Q rest (a.put o.dst (.pointer (some ⟨g, 0, none⟩))) w1) (hd : o.dst = some N := by exact rfl) (hg : o.guard = none := by exact rfl)
    (hr : (execOp a.eval o).run P W = .ok (.value (.pointer (some ⟨W.heap.size, 0, none⟩))) (W.alloc (.cells cs t (0, 0))) := by first | (go_simp; done) | (go_simp; rfl)) : wpList P ops Q (o :: rest) a W := box_event hg hd hr h
theorem cx_ {p q : Prop} (h : p) (f : p → q := by intro h_; repeat (first | exact h_ | (with_reducible refine Kd.C_alloc ?_ _) | (with_reducible refine Kd.C_drewN ?_ _) | (with_reducible refine Kd.C_drew ?_))) : q := f h
theorem hg_ {p : Prop} (h : p := by repeat (first | (with_reducible first | exact HG.out | apply Glob.drewN | apply Glob.drew) | exact HG.out)) : p := h
theorem od_ {p : Prop} [d : Decidable p] (h : decide p = true := by first | (with_reducible assumption) | assumption) : p := of_decide_eq_true h
theorem si_ {p : Prop} (h : p := by first | rfl | (simp; done) | (simp [*]; done)) : p := h
theorem cb_ {w w' : World} {p : Addr} {v : Value} (hb : Below w.heap.size w w') (h : w.cell? p = some v) : w'.cell? p = some v := (hb.cell (World.block_lt_of_cell? w _ h)).trans h
theorem gl_ {P : Program} {ops : Array Oper} {Q : Exit → Act → World → Prop} {rest : List Oper} {oi : Oper} {a : Act} {w : World} (n : Tmp) {f : FuncId} {fn : Func} (hf : P.funcs[f]? = some fn) (args : Array Value) {as_ : Array Operand} {ts : Array TypeId}
    (h : Calls P f args w fun e w' => ∃ v, e = .returned v ∧ wpList P ops Q rest (a.put (some n) v) w') (hd : oi.dst = some n := by exact rfl) (hg : oi.guard = none := by exact rfl)
    (hname : (fn.name == "runtime.NumGoroutine") = false := by kernel_rfl) (hb : fn.body.isSome = true := by exact rfl) (hop : oi.op = .call { callee := .value (.func f), args := as_, argTypes := ts } := by exact rfl)
    (hargs : as_.map a.eval = args := by (try simp only [List.map_toArray, List.map_cons, List.map_nil]); first | done | rfl | (simp only [List.length_drop, List.length_take]; rfl)) : wpList P ops Q (oi :: rest) a w := goesL_ (some n) hd hg hf hname hb args hop hargs h
theorem pa_ {P : Program} {md : Region.Mode} {ops : Array Oper} {Q : Exit → Act → World → Prop} {S : World → Prop} {ds : List Nat} (i : Nat) (n : Tmp) {oi : Oper} {v : Value} {fuel : Nat} {l : Array Bool} {a : Act} {w : World} {a' : Act}
    (h : wpAnyLast P md ops Q S ds fuel (l.setIfInBounds i true) a' w) (hi : ops[i]? = some oi := by exact rfl) (hN : oi.dst = some n := by exact rfl) (hc : anyB md ops l (l.setIfInBounds i true) i = true := by exact any_of HT_.out (by kernel_rfl))
    (hQ : ∀ c a w, Q (.panic c) (a.put oi.dst v) w → Q (.panic c) a w := by exact fun _ _ _ h => h) (hy : Yields P ops oi v a := by exact Or.inl ⟨by rfl, by intro w'; go_simp; with_reducible rfl⟩)
    (ha : a.put (some n) v = a' := by simp only [Act.put, List.setIfInBounds_toArray, List.set_cons_zero, List.set_cons_succ, i64_w, i32_w]; rfl) : wpAnyLast P md ops Q S ds (fuel + 1) l a w := pure_ _ hi hN hc hQ hy ha h
theorem po_ {P : Program} {md : Region.Mode} {ops : Array Oper} {Q : Exit → Act → World → Prop} {S : World → Prop} {ds : List Nat} (i : Nat) (n : Tmp) {oi : Oper} {fuel : Nat} {l : Array Bool} {a : Act} {w : World} {a' : Act}
    (h : wpAnyLast P md ops Q S ds fuel (l.setIfInBounds i true) a' w) (hi : ops[i]? = some oi := by exact rfl) (hN : oi.dst = some n := by exact rfl) (hc : anyB md ops l (l.setIfInBounds i true) i = true := by exact any_of HT_.out (by kernel_rfl))
    (hQ : ∀ c a w, Q (.panic c) (a.put oi.dst undef) w → Q (.panic c) a w := by exact fun _ _ _ h => h) (hy : Yields P ops oi undef a := by exact Or.inr ⟨by rfl, rfl⟩)
    (ha : a.put (some n) undef = a' := by simp only [Act.put, List.setIfInBounds_toArray, List.set_cons_zero, List.set_cons_succ, i64_w, i32_w]; rfl) : wpAnyLast P md ops Q S ds (fuel + 1) l a w := pure_ _ hi hN hc hQ hy ha h
theorem on_ {P : Program} {md : Region.Mode} {ops : Array Oper} {Q : Exit → Act → World → Prop} {S : World → Prop} {ds : List Nat} (i : Nat) (n : Tmp) {oi : Oper} {fuel : Nat} {l : Array Bool} {a : Act} {w : World}
    (h : ∀ K : Act → World → Prop, Shut (∀ a' w', S w' → (S w' → wpAnyLast P md ops Q S ds fuel (l.setIfInBounds i true) a' w') → K a' w') → if Region.wanted oi (yielded ops a.tmps) = true then Oper.wp P oi a w K Q else K (a.put (some n) undef) w)
    (hi : ops[i]? = some oi := by exact rfl) (hN : oi.dst = some n := by exact rfl) (hc : readyB md ops l (l.setIfInBounds i true) i = true := by exact one_of HT_.out (by kernel_rfl)) (hd : i ∉ ds := by decide) : wpAnyLast P md ops Q S ds (fuel + 1) l a w := one_ _ hi hN hc hd h
theorem no_ (n : Tmp) {P : Program} {md : Region.Mode} {ops : Array Oper} {Q : Exit → Act → World → Prop} {S : World → Prop} {ds : List Nat} {fuel : Nat} {l : Array Bool} {a a' : Act} {v : Value} {w : World} (h : wpAnyLast P md ops Q S ds fuel l a' w)
    (ha : a.put (some n) v = a' := by simp only [Act.put, List.setIfInBounds_toArray, List.set_cons_zero, List.set_cons_succ, i64_w, i32_w]; rfl) : wpAnyLast P md ops Q S ds fuel l (a.put (some n) v) w := norm_ ha h
theorem ta3_ {P : Program} {md : Region.Mode} {ops : Array Oper} {Q : Exit → Act → World → Prop} {S : World → Prop} {ds : List Nat} (i : Nat) (n : Tmp) {oi : Oper} {v : Value} {fuel : Nat} {l : Array Bool} {a : Act} {w : World} {a' : Act} (hS : S w)
    (h : wpAnyLast P md ops Q S ds fuel (l.setIfInBounds i true) a' w) (hi : ops[i]? = some oi := by exact rfl) (hN : oi.dst = some n := by exact rfl) (hc : takeB md ops ds l (l.setIfInBounds i true) i = true := by exact take_ofW HT_.out HW_.out (by kernel_rfl))
    (hQ : ∀ c a w, Q (.panic c) (a.put oi.dst v) w → Q (.panic c) a w := by exact fun _ _ _ h => h) (hy : YieldsIf P ops S oi v a := by exact Or.inl ⟨by rfl, by rintro w' ⟨s0, s1, s2⟩; go_simp; with_reducible rfl⟩)
    (ha : a.put (some n) v = a' := by simp only [Act.put, List.setIfInBounds_toArray, List.set_cons_zero, List.set_cons_succ, i64_w, i32_w]; rfl) : wpAnyLast P md ops Q S ds (fuel + 1) l a w := take_ _ hi hN hc hQ hy hS ha h
theorem ta5_ {P : Program} {md : Region.Mode} {ops : Array Oper} {Q : Exit → Act → World → Prop} {S : World → Prop} {ds : List Nat} (i : Nat) (n : Tmp) {oi : Oper} {v : Value} {fuel : Nat} {l : Array Bool} {a : Act} {w : World} {a' : Act} (hS : S w)
    (h : wpAnyLast P md ops Q S ds fuel (l.setIfInBounds i true) a' w) (hi : ops[i]? = some oi := by exact rfl) (hN : oi.dst = some n := by exact rfl) (hc : takeB md ops ds l (l.setIfInBounds i true) i = true := by exact take_ofW HT_.out HW_.out (by kernel_rfl))
    (hQ : ∀ c a w, Q (.panic c) (a.put oi.dst v) w → Q (.panic c) a w := by exact fun _ _ _ h => h) (hy : YieldsIf P ops S oi v a := by exact Or.inl ⟨by rfl, by rintro w' ⟨s0, s1, s2, s3, s4⟩; go_simp; with_reducible rfl⟩)
    (ha : a.put (some n) v = a' := by simp only [Act.put, List.setIfInBounds_toArray, List.set_cons_zero, List.set_cons_succ, i64_w, i32_w]; rfl) : wpAnyLast P md ops Q S ds (fuel + 1) l a w := take_ _ hi hN hc hQ hy hS ha h
theorem ta6_ {P : Program} {md : Region.Mode} {ops : Array Oper} {Q : Exit → Act → World → Prop} {S : World → Prop} {ds : List Nat} (i : Nat) (n : Tmp) {oi : Oper} {v : Value} {fuel : Nat} {l : Array Bool} {a : Act} {w : World} {a' : Act} (hS : S w)
    (h : wpAnyLast P md ops Q S ds fuel (l.setIfInBounds i true) a' w) (hi : ops[i]? = some oi := by exact rfl) (hN : oi.dst = some n := by exact rfl) (hc : takeB md ops ds l (l.setIfInBounds i true) i = true := by exact take_ofW HT_.out HW_.out (by kernel_rfl))
    (hQ : ∀ c a w, Q (.panic c) (a.put oi.dst v) w → Q (.panic c) a w := by exact fun _ _ _ h => h) (hy : YieldsIf P ops S oi v a := by exact Or.inl ⟨by rfl, by rintro w' ⟨s0, s1, s2, s3, s4, s5⟩; go_simp; with_reducible rfl⟩)
    (ha : a.put (some n) v = a' := by simp only [Act.put, List.setIfInBounds_toArray, List.set_cons_zero, List.set_cons_succ, i64_w, i32_w]; rfl) : wpAnyLast P md ops Q S ds (fuel + 1) l a w := take_ _ hi hN hc hQ hy hS ha h
theorem ta9_ {P : Program} {md : Region.Mode} {ops : Array Oper} {Q : Exit → Act → World → Prop} {S : World → Prop} {ds : List Nat} (i : Nat) (n : Tmp) {oi : Oper} {v : Value} {fuel : Nat} {l : Array Bool} {a : Act} {w : World} {a' : Act} (hS : S w)
    (h : wpAnyLast P md ops Q S ds fuel (l.setIfInBounds i true) a' w) (hi : ops[i]? = some oi := by exact rfl) (hN : oi.dst = some n := by exact rfl) (hc : takeB md ops ds l (l.setIfInBounds i true) i = true := by exact take_ofW HT_.out HW_.out (by kernel_rfl))
    (hQ : ∀ c a w, Q (.panic c) (a.put oi.dst v) w → Q (.panic c) a w := by exact fun _ _ _ h => h) (hy : YieldsIf P ops S oi v a := by exact Or.inl ⟨by rfl, by rintro w' ⟨s0, s1, s2, s3, s4, s5, s6, s7, s8⟩; go_simp; with_reducible rfl⟩)
    (ha : a.put (some n) v = a' := by simp only [Act.put, List.setIfInBounds_toArray, List.set_cons_zero, List.set_cons_succ, i64_w, i32_w]; rfl) : wpAnyLast P md ops Q S ds (fuel + 1) l a w := take_ _ hi hN hc hQ hy hS ha h
end Go.Proofs.YtkopimbbgckcnaaDoor.P
namespace Go.Proofs.YtkopimbbgckcnaaDoor.P
open Go.RowKit Go.Proofs.YtkopimbbgckcnaaDoorW.PrintWords Go.Proofs.YtkopimbbgckcnaaDoorW.PrintLast
def errW : Option Int → Value
 | none => .nilIface
 | some c => .iface 0 (.int .i64 c)
theorem errW_none : errW none = .nilIface := rfl
theorem errW_some (c : Int) : errW (some c) = .iface 0 (.int .i64 c) := rfl

theorem info3 : (Tryd.prog.info? 3).map (fun i => (i.zero, i.size, i.bytes)) = some (some (.int .i64 0), 1, 8) := by kernel_rfl
theorem info5 : (Tryd.prog.info? 5).map (fun i => (i.zero, i.size, i.bytes)) = some (some (.int .u8 0), 1, 1) := by kernel_rfl
theorem info43 : (Tryd.prog.info? 43).map (fun i => (i.zero, i.size, i.bytes)) = some (some (.agg #[(.int .i64 0), (.int .i64 0), (.string ⟨#[]⟩)]), 3, 32) := by kernel_rfl
structure S43 where
 f0 : Int
 f1 : Int
 f2 : ByteArray
def z43 : S43 := ⟨(0 : Int), (0 : Int), (⟨#[]⟩ : ByteArray)⟩
def k43 : Kd S43 := Kd.iso (Kd.pair (Kd.int .i64) (Kd.pair (Kd.int .i64) Kd.string)) (fun x : S43 => (x.f0, x.f1, x.f2))
theorem k43_open {w : World} {x : S43} {cs : List Value} (h : k43.K w x cs) : cs = [.int .i64 x.f0, .int .i64 x.f1, .string x.f2] := by
 obtain ⟨_, _, rfl, rfl, ⟨_, _, rfl, rfl, rfl⟩⟩ := h
 exact rfl
theorem k43_openM {w : World} {base : Nat} {ok : Nat → Prop} {x : S43} {cs : List Value} (h : k43.M w base ok x cs) : cs = [.int .i64 x.f0, .int .i64 x.f1, .string x.f2] := by
 obtain ⟨_, _, rfl, rfl, ⟨_, _, rfl, rfl, rfl⟩⟩ := h
 exact rfl
theorem k43_mkM (w : World) (base : Nat) (ok : Nat → Prop) (x : S43)  : k43.M w base ok x [.int .i64 x.f0, .int .i64 x.f1, .string x.f2] := ⟨[.int .i64 x.f0], [.int .i64 x.f1, .string x.f2], rfl, rfl, ⟨[.int .i64 x.f1], [.string x.f2], rfl, rfl, rfl⟩⟩
def rd_T43 (xs : List S43) (i : Int) : S43 := xs.getD i.toNat z43
theorem at_T43 {w : World} {A : Option Addr} {n : Nat} {xs : List S43} (h : Kd.C k43 w A n xs) (i : Int) (h0 : 0 ≤ i) (h1 : i < n) : ∃ ad , A = some ad ∧ w.cell? (ad.add (i.toNat * 3)) = some (.int .i64 (rd_T43 xs i).f0) ∧ w.cell? ⟨(ad.add (i.toNat * 3)).block, (ad.add (i.toNat * 3)).off + 1, none⟩ = some (.int .i64 (rd_T43 xs i).f1) ∧ w.cell? ⟨(ad.add (i.toNat * 3)).block, (ad.add (i.toNat * 3)).off + 2, none⟩ = some (.string (rd_T43 xs i).f2) := by
 obtain ⟨ad, c, e, _, hK, hc0⟩ := Kd.C_get h z43 i h0 h1
 have hc : ∀ j u, c[j]? = some u → w.cell? (ad.add (i.toNat * 3 + j)) = some u := hc0
 obtain rfl := k43_open hK
 exact ⟨ad, e, hc 0 _ rfl, by rw [← add_field _ _ 1 (by omega)]; exact hc 1 _ rfl, by rw [← add_field _ _ 2 (by omega)]; exact hc 2 _ rfl⟩

def spec_l6In.f (a0 : Int) (a1 : Int) (a2 : Int) : Option (Bool) := if a0 ≥ a1 then (some (decide (a0 ≤ a2))) else (some false)
set_option maxHeartbeats 8000000 in
set_option maxRecDepth 100000 in
theorem spec_l6In.calls (a0 : Int) (a1 : Int) (a2 : Int) (r : Bool) (w : World) (h : spec_l6In.f a0 a1 a2 = some r) :
  Calls Tryd.prog 74 #[.int .i64 a0, .int .i64 a1, .int .i64 a2] w fun e w' => e = .returned (.bool r) ∧ Drawn0 w w' := by
 unfold spec_l6In.f at h
 have H := h
 clear h
 by_cases c4 : a0 ≥ a1
 ·rw [if_pos c4] at H
  have c4b0 : decide (a1 ≤ a0) = true := decide_eq_true c4
  clear c4
  obtain rfl := Option.some.inj H
  go_enter Tryd.func74, Tryd.ntmps74
  go_wp2
  go_ret
  exact ⟨si_, by repeat (first | exact Drawn0.refl _ | apply Drawn0.step)⟩
 ·rw [if_neg c4] at H
  have c4b0 : decide (a1 ≤ a0) = false := decide_eq_false c4
  clear c4
  obtain rfl := Option.some.inj H
  go_enter Tryd.func74, Tryd.ntmps74
  go_wp2
  go_ret
  exact ⟨si_, by repeat (first | exact Drawn0.refl _ | apply Drawn0.step)⟩

def spec_l1Root.f (a0 : Int) : Option (Bool) := (spec_l6In.f a0 1 3).bind fun t105 => (some t105)
set_option maxHeartbeats 8000000 in
set_option maxRecDepth 100000 in
theorem spec_l1Root.calls (a0 : Int) (r : Bool) (w : World) (h : spec_l1Root.f a0 = some r) :
  Calls Tryd.prog 49 #[.int .i64 a0] w fun e w' => e = .returned (.bool r) ∧ Drawn0 w w' := by
 unfold spec_l1Root.f at h
 have H := h
 clear h
 replace H := Option.bind_eq_some_iff.mp H
 obtain ⟨t105, A20, H⟩ := H
 try dsimp only at H
 have A2 := Aside0.mk A20
 clear A20
 obtain rfl := Option.some.inj H
 go_enter Tryd.func49, Tryd.ntmps49
 go_wp2_with (first | ((with_reducible refine gate_callee (f := 74) rfl ?_); refine gl_ 4 Tryd.func74 #[.int .i64 a0, .int .i64 1, .int .i64 3] ?_; (with_reducible refine (spec_l6In.calls a0 1 3 t105 _ A2.out).mono ?_); rintro e w' ⟨rfl, ⟨nd, rfl⟩⟩; refine ⟨_, rfl, ?_⟩))
 go_ret
 exact ⟨si_, by repeat (first | exact Drawn0.refl _ | apply Drawn0.step)⟩

def spec_l1Made.f (a0 : Int) : Option (Bool) := (spec_l6In.f (wrap64 (Int.tdiv a0 10)) 1 3).bind fun t106 => (if t106 = true then ((spec_l6In.f (Int.tmod a0 10) 1 6).bind fun t107 => (some t107)) else (some false))
set_option maxHeartbeats 8000000 in
set_option maxRecDepth 100000 in
theorem spec_l1Made.calls (a0 : Int) (r : Bool) (w : World) (h : spec_l1Made.f a0 = some r) :
  Calls Tryd.prog 50 #[.int .i64 a0] w fun e w' => e = .returned (.bool r) ∧ Drawn0 w w' := by
 unfold spec_l1Made.f at h
 have H := h
 clear h
 replace H := Option.bind_eq_some_iff.mp H
 obtain ⟨t106, A20, H⟩ := H
 try dsimp only at H
 have A2 := Aside0.mk A20
 clear A20
 by_cases c3 : t106 = true
 ·subst c3
  have H1 : ((spec_l6In.f (Int.tmod a0 10) 1 6).bind fun t107 => (some t107)) = some r := by rw [if_pos rfl] at H; exact H
  clear H
  have H := H1
  clear H1
  replace H := Option.bind_eq_some_iff.mp H
  obtain ⟨t107, A40, H⟩ := H
  try dsimp only at H
  have A4 := Aside0.mk A40
  clear A40
  obtain rfl := Option.some.inj H
  go_enter Tryd.func50, Tryd.ntmps50
  go_wp2_with (first | ((with_reducible refine gate_callee (f := 74) rfl ?_); refine gl_ 5 Tryd.func74 #[.int .i64 (wrap64 (Int.tdiv a0 10)), .int .i64 1, .int .i64 3] ?_; (with_reducible refine (spec_l6In.calls (wrap64 (Int.tdiv a0 10)) 1 3 true _ A2.out).mono ?_); rintro e w' ⟨rfl, ⟨nd, rfl⟩⟩; refine ⟨_, rfl, ?_⟩) | (go_at_call 74; (with_reducible refine (spec_l6In.calls (Int.tmod a0 10) 1 6 t107 _ A4.out).mono ?_); rintro e w' ⟨rfl, ⟨nd, rfl⟩⟩))
  go_ret
  exact ⟨si_, by repeat (first | exact Drawn0.refl _ | apply Drawn0.step)⟩
 ·replace c3 := Bool.eq_false_iff.mpr c3
  subst c3
  have H1 : (some false) = some r := by rw [if_neg (show ¬ (false = true) by decide)] at H; exact H
  clear H
  have H := H1
  clear H1
  obtain rfl := Option.some.inj H
  go_enter Tryd.func50, Tryd.ntmps50
  go_wp2_with (first | ((with_reducible refine gate_callee (f := 74) rfl ?_); refine gl_ 5 Tryd.func74 #[.int .i64 (wrap64 (Int.tdiv a0 10)), .int .i64 1, .int .i64 3] ?_; (with_reducible refine (spec_l6In.calls (wrap64 (Int.tdiv a0 10)) 1 3 false _ A2.out).mono ?_); rintro e w' ⟨rfl, ⟨nd, rfl⟩⟩; refine ⟨_, rfl, ?_⟩))
  go_ret
  exact ⟨si_, by repeat (first | exact Drawn0.refl _ | apply Drawn0.step)⟩

def spec_l1Text.l0 : Nat → ByteArray → Int → Option (Bool)
 | 0, _, _ => none
 | k + 1, x0, x3 => if x3 < (x0.size : Int) then (if 0 ≤ x3 then ((spec_l6In.f (wrap64 (bt x0 x3)) 97 100).bind fun t108 => (if t108 = true then (spec_l1Text.l0 k x0 (wrap64 (x3 + 1))) else (some false))) else (none)) else (some (decide ((x0.size : Int) ≤ 4)))
def spec_l1Text.f (k : Nat) (a0 : ByteArray) : Option (Bool) := spec_l1Text.l0 k a0 0
theorem spec_l1Text.mono_l : ∀ k, (∀ y0 y1, LeO (spec_l1Text.l0 k y0 y1) (spec_l1Text.l0 (k + 1) y0 y1))
 | 0 => fun _ _ r h => by simp [spec_l1Text.l0] at h
 | k + 1 => by
  have ih0 := spec_l1Text.mono_l k
  ·intro y0 y1
   unfold spec_l1Text.l0
   repeat' first
   | (with_reducible exact ih0 _ _)
   | (with_reducible exact LeO.refl _)
   | (with_reducible exact LeO.none _)
   | (with_reducible refine LeO.ite ?_ ?_)
   | (with_reducible refine LeO.bind ?_ (fun _ => ?_))
   | exact ih0 _ _
   | exact LeO.none _
   | refine LeO.ite ?_ ?_
   | refine LeO.bind ?_ (fun _ => ?_)
theorem spec_l1Text.mono : ∀ a0 k, LeO (spec_l1Text.f k a0) (spec_l1Text.f (k + 1) a0) := by
 intro a0 k
 have ih0 := spec_l1Text.mono_l k
 unfold spec_l1Text.f
 repeat' first
   | (with_reducible exact ih0 _ _)
   | (with_reducible exact LeO.refl _)
   | (with_reducible exact LeO.none _)
   | (with_reducible refine LeO.ite ?_ ?_)
   | (with_reducible refine LeO.bind ?_ (fun _ => ?_))
   | exact ih0 _ _
   | exact LeO.none _
   | refine LeO.ite ?_ ?_
   | refine LeO.bind ?_ (fun _ => ?_)
set_option maxHeartbeats 8000000 in
set_option maxRecDepth 100000 in
theorem spec_l1Text.calls (k : Nat) (a0 : ByteArray) (r : Bool) (w : World) (h : spec_l1Text.f k a0 = some r) :
  Calls Tryd.prog 51 #[.string a0] w fun e w' => e = .returned (.bool r) ∧ Drawn0 w w' := by
 unfold spec_l1Text.f at h
 have H := h
 clear h
 have H' := Aside0.mk H
 clear H
 go_enter Tryd.func51, Tryd.ntmps51
 go_wp2
 go_loopg [3] k (fun kq v3 w' => ∃ (x3_1 : Int), v3 = .int .i64 x3_1 ∧ Aside0 (spec_l1Text.l0 kq a0 x3_1 = some r) ∧ Aside0 (kq ≤ k) ∧ Drawn0 w w')
 case atStart => exact ⟨(0), (si_), H', ⟨Nat.le_refl _⟩, by repeat (first | exact Drawn0.refl _ | apply Drawn0.step)⟩
 case round =>
  clear H'
  obtain ⟨x3_1, rfl, HA, HK1, ⟨m1, rfl⟩⟩ := hrel
  cases gk with
  | zero => exact absurd HA.out (by simp [spec_l1Text.l0])
  | succ k1 =>
   have H := HA.out
   clear HA
   simp only [spec_l1Text.l0] at H
   by_cases c2 : x3_1 < (a0.size : Int)
   ·rw [if_pos c2] at H
    have c2b0 : decide (x3_1 < (a0.size : Int)) = true := decide_eq_true c2
    clear c2
    by_cases c3 : 0 ≤ x3_1
    ·rw [if_pos c3] at H
     have c3b0 : decide (0 ≤ x3_1) = true := decide_eq_true c3
     clear c3
     replace H := Option.bind_eq_some_iff.mp H
     obtain ⟨t108, A50, H⟩ := H
     try dsimp only at H
     have A5 := Aside0.mk A50
     clear A50
     by_cases c6 : t108 = true
     ·subst c6
      have H1 : (spec_l1Text.l0 k1 a0 (wrap64 (x3_1 + 1))) = some r := by rw [if_pos rfl] at H; exact H
      clear H
      have H := H1
      clear H1
      have H' := Aside0.mk H
      clear H
      have p4 : 0 ≤ (x3_1 : Int) := od_
      have q4 : x3_1 < (a0.size : Int) := od_
      have hx4 := bt_at a0 x3_1
      replace p4 := eq_true p4
      replace q4 := eq_true q4
      go_wp2_with (first | ((with_reducible refine gate_callee (f := 74) rfl ?_); refine gl_ 14 Tryd.func74 #[.int .i64 (wrap64 (bt a0 x3_1)), .int .i64 97, .int .i64 100] ?_; (with_reducible refine (spec_l6In.calls (wrap64 (bt a0 x3_1)) 97 100 true _ A5.out).mono ?_); rintro e w' ⟨rfl, ⟨nd, rfl⟩⟩; refine ⟨_, rfl, ?_⟩))
      go_roundg k1
      case measure => have := HK1.out; omega
      case rel => exact ⟨(wrap64 (x3_1 + 1)), (si_), H', ⟨by have := HK1.out; omega⟩, by repeat (first | exact Drawn0.refl _ | apply Drawn0.step)⟩
     ·replace c6 := Bool.eq_false_iff.mpr c6
      subst c6
      have H1 : (some false) = some r := by rw [if_neg (show ¬ (false = true) by decide)] at H; exact H
      clear H
      have H := H1
      clear H1
      obtain rfl := Option.some.inj H
      have p4 : 0 ≤ (x3_1 : Int) := od_
      have q4 : x3_1 < (a0.size : Int) := od_
      have hx4 := bt_at a0 x3_1
      replace p4 := eq_true p4
      replace q4 := eq_true q4
      go_wp2_with (first | ((with_reducible refine gate_callee (f := 74) rfl ?_); refine gl_ 14 Tryd.func74 #[.int .i64 (wrap64 (bt a0 x3_1)), .int .i64 97, .int .i64 100] ?_; (with_reducible refine (spec_l6In.calls (wrap64 (bt a0 x3_1)) 97 100 false _ A5.out).mono ?_); rintro e w' ⟨rfl, ⟨nd, rfl⟩⟩; refine ⟨_, rfl, ?_⟩))
      go_ret
      exact ⟨si_, by repeat (first | exact Drawn0.refl _ | apply Drawn0.step)⟩
    ·rw [if_neg c3] at H
     exact absurd H (by simp)
   ·rw [if_neg c2] at H
    have c2b0 : decide (x3_1 < (a0.size : Int)) = false := decide_eq_false c2
    clear c2
    obtain rfl := Option.some.inj H
    go_wp2
    go_ret
    exact ⟨si_, by repeat (first | exact Drawn0.refl _ | apply Drawn0.step)⟩

def spec_RowOk.f (k : Nat) (a0_0 : Int) (a0_1 : Int) (a0_2 : ByteArray) : Option (Bool) := (spec_l1Root.f a0_0).bind fun t110 => (if t110 = true then (if a0_1 = 0 then (some (a0_2.toList == ([] : List UInt8))) else (some false)) else ((spec_l1Made.f a0_0).bind fun t111 => (if t111 = true then ((spec_l6In.f a0_1 1 18).bind fun t112 => (if t112 = true then ((spec_l1Text.f k a0_2).bind fun t113 => (some t113)) else (some false))) else (some false))))
theorem spec_RowOk.mono : ∀ a0 a1 a2 k, LeO (spec_RowOk.f k a0 a1 a2) (spec_RowOk.f (k + 1) a0 a1 a2) := by
 intro a0 a1 a2 k
 unfold spec_RowOk.f
 repeat' first
   | (with_reducible exact spec_l1Text.mono _ _)
   | (with_reducible exact LeO.refl _)
   | (with_reducible exact LeO.none _)
   | (with_reducible refine LeO.ite ?_ ?_)
   | (with_reducible refine LeO.bind ?_ (fun _ => ?_))
   | exact spec_l1Text.mono _ _
   | exact LeO.none _
   | refine LeO.ite ?_ ?_
   | refine LeO.bind ?_ (fun _ => ?_)
set_option maxHeartbeats 8000000 in
set_option maxRecDepth 100000 in
theorem spec_RowOk.calls (k : Nat) (a0_0 : Int) (a0_1 : Int) (a0_2 : ByteArray) (r : Bool) (w : World) (h : spec_RowOk.f k a0_0 a0_1 a0_2 = some r) :
  Calls Tryd.prog 48 #[.agg #[.int .i64 a0_0, .int .i64 a0_1, .string a0_2]] w fun e w' => e = .returned (.bool r) ∧ Below w.heap.size w w' := by
 have hu43 := Tryd.underlying43
 have HB := Aside0.mk (Below.refl w.heap.size w)
 unfold spec_RowOk.f at h
 have H := h
 clear h
 replace H := Option.bind_eq_some_iff.mp H
 obtain ⟨t110, A20, H⟩ := H
 try dsimp only at H
 have A2 := Aside0.mk A20
 clear A20
 by_cases c3 : t110 = true
 ·subst c3
  have H1 : (if a0_1 = 0 then (some (a0_2.toList == ([] : List UInt8))) else (some false)) = some r := by rw [if_pos rfl] at H; exact H
  clear H
  have H := H1
  clear H1
  by_cases c4 : a0_1 = 0
  ·rw [if_pos c4] at H
   have c4b0 : (a0_1 == 0) = true := beq_iff_eq.mpr c4
   have c4b1 : (a0_1 != 0) = false := bne_eq_false_iff_eq.mpr c4
   clear c4
   obtain rfl := Option.some.inj H
   go_enter Tryd.func48, Tryd.ntmps48
   go_wp2_with (first | ((with_reducible refine gate_dst (N := 1) rfl ?_); refine bx_ 1 (#[.int .i64 a0_0, .int .i64 a0_1, .string a0_2]) 43 ?_; intro gb109 hg w5 hbox hb; have n0_ := Aside0.mk (below_step (bel_) hb); have n1_ := Aside0.mk (hbox); have n2_ := Aside0.mk ((by rw [hg]; exact (below_size (bel_)) : w.heap.size ≤ gb109)); have n3_ := Aside0.mk ((by rw [hg]; exact (below_size (bel_)) : w.heap.size ≤ gb109)); clear HB; have HB := n0_; have BK109 := n1_; have GW109 := n2_; have GE109 := n3_; clear n0_ n1_ n2_ n3_; clear hb hbox hg; have hcz6_0 := cz_ BK109.out 0 (.int .i64 a0_0); have hcz6_1 := cz_ BK109.out 1 (.int .i64 a0_1); have hcz6_2 := cz_ BK109.out 2 (.string a0_2); have hfz6_0 := blk_frozen BK109.out 0; have hfz6_1 := blk_frozen BK109.out 1; have hfz6_2 := blk_frozen BK109.out 2) | ((with_reducible refine gate_callee (f := 49) rfl ?_); refine gl_ 5 Tryd.func49 #[.int .i64 a0_0] ?_; (with_reducible refine (spec_l1Root.calls a0_0 true _ A2.out).mono ?_); rintro e w' ⟨rfl, ⟨nd, rfl⟩⟩; refine ⟨_, rfl, ?_⟩))
   go_ret
   exact ⟨fi_, bel_⟩
  ·rw [if_neg c4] at H
   have c4b0 : (a0_1 == 0) = false := beq_eq_false_iff_ne.mpr c4
   have c4b1 : (a0_1 != 0) = true := bne_iff_ne.mpr c4
   obtain rfl := Option.some.inj H
   go_enter Tryd.func48, Tryd.ntmps48
   go_wp2_with (first | ((with_reducible refine gate_dst (N := 1) rfl ?_); refine bx_ 1 (#[.int .i64 a0_0, .int .i64 a0_1, .string a0_2]) 43 ?_; intro gb109 hg w7 hbox hb; have n0_ := Aside0.mk (below_step (bel_) hb); have n1_ := Aside0.mk (hbox); have n2_ := Aside0.mk ((by rw [hg]; exact (below_size (bel_)) : w.heap.size ≤ gb109)); have n3_ := Aside0.mk ((by rw [hg]; exact (below_size (bel_)) : w.heap.size ≤ gb109)); clear HB; have HB := n0_; have BK109 := n1_; have GW109 := n2_; have GE109 := n3_; clear n0_ n1_ n2_ n3_; clear hb hbox hg; have hcz8_0 := cz_ BK109.out 0 (.int .i64 a0_0); have hcz8_1 := cz_ BK109.out 1 (.int .i64 a0_1); have hcz8_2 := cz_ BK109.out 2 (.string a0_2); have hfz8_0 := blk_frozen BK109.out 0; have hfz8_1 := blk_frozen BK109.out 1; have hfz8_2 := blk_frozen BK109.out 2) | ((with_reducible refine gate_callee (f := 49) rfl ?_); refine gl_ 5 Tryd.func49 #[.int .i64 a0_0] ?_; (with_reducible refine (spec_l1Root.calls a0_0 true _ A2.out).mono ?_); rintro e w' ⟨rfl, ⟨nd, rfl⟩⟩; refine ⟨_, rfl, ?_⟩))
   go_ret
   exact ⟨fi_, bel_⟩
 ·replace c3 := Bool.eq_false_iff.mpr c3
  subst c3
  have H1 : ((spec_l1Made.f a0_0).bind fun t111 => (if t111 = true then ((spec_l6In.f a0_1 1 18).bind fun t112 => (if t112 = true then ((spec_l1Text.f k a0_2).bind fun t113 => (some t113)) else (some false))) else (some false))) = some r := by rw [if_neg (show ¬ (false = true) by decide)] at H; exact H
  clear H
  have H := H1
  clear H1
  replace H := Option.bind_eq_some_iff.mp H
  obtain ⟨t111, A90, H⟩ := H
  try dsimp only at H
  have A9 := Aside0.mk A90
  clear A90
  by_cases c10 : t111 = true
  ·subst c10
   have H1 : ((spec_l6In.f a0_1 1 18).bind fun t112 => (if t112 = true then ((spec_l1Text.f k a0_2).bind fun t113 => (some t113)) else (some false))) = some r := by rw [if_pos rfl] at H; exact H
   clear H
   have H := H1
   clear H1
   replace H := Option.bind_eq_some_iff.mp H
   obtain ⟨t112, A110, H⟩ := H
   try dsimp only at H
   have A11 := Aside0.mk A110
   clear A110
   by_cases c12 : t112 = true
   ·subst c12
    have H1 : ((spec_l1Text.f k a0_2).bind fun t113 => (some t113)) = some r := by rw [if_pos rfl] at H; exact H
    clear H
    have H := H1
    clear H1
    replace H := Option.bind_eq_some_iff.mp H
    obtain ⟨t113, A130, H⟩ := H
    try dsimp only at H
    have A13 := Aside0.mk A130
    clear A130
    obtain rfl := Option.some.inj H
    go_enter Tryd.func48, Tryd.ntmps48
    go_wp2_with (first | ((with_reducible refine gate_dst (N := 1) rfl ?_); refine bx_ 1 (#[.int .i64 a0_0, .int .i64 a0_1, .string a0_2]) 43 ?_; intro gb109 hg w14 hbox hb; have n0_ := Aside0.mk (below_step (bel_) hb); have n1_ := Aside0.mk (hbox); have n2_ := Aside0.mk ((by rw [hg]; exact (below_size (bel_)) : w.heap.size ≤ gb109)); have n3_ := Aside0.mk ((by rw [hg]; exact (below_size (bel_)) : w.heap.size ≤ gb109)); clear HB; have HB := n0_; have BK109 := n1_; have GW109 := n2_; have GE109 := n3_; clear n0_ n1_ n2_ n3_; clear hb hbox hg; have hcz15_0 := cz_ BK109.out 0 (.int .i64 a0_0); have hcz15_1 := cz_ BK109.out 1 (.int .i64 a0_1); have hcz15_2 := cz_ BK109.out 2 (.string a0_2); have hfz15_0 := blk_frozen BK109.out 0; have hfz15_1 := blk_frozen BK109.out 1; have hfz15_2 := blk_frozen BK109.out 2) | ((with_reducible refine gate_callee (f := 49) rfl ?_); refine gl_ 5 Tryd.func49 #[.int .i64 a0_0] ?_; (with_reducible refine (spec_l1Root.calls a0_0 false _ A2.out).mono ?_); rintro e w' ⟨rfl, ⟨nd, rfl⟩⟩; refine ⟨_, rfl, ?_⟩) | ((with_reducible refine gate_callee (f := 50) rfl ?_); refine gl_ 16 Tryd.func50 #[.int .i64 a0_0] ?_; (with_reducible refine (spec_l1Made.calls a0_0 true _ A9.out).mono ?_); rintro e w' ⟨rfl, ⟨nd, rfl⟩⟩; refine ⟨_, rfl, ?_⟩) | (go_at_call 74; (with_reducible refine (spec_l6In.calls a0_1 1 18 true _ A11.out).mono ?_); rintro e w' ⟨rfl, ⟨nd, rfl⟩⟩) | (go_at_call 51; (with_reducible refine (spec_l1Text.calls k a0_2 t113 _ A13.out).mono ?_); rintro e w' ⟨rfl, ⟨nd, rfl⟩⟩))
    go_ret
    exact ⟨fi_, bel_⟩
   ·replace c12 := Bool.eq_false_iff.mpr c12
    subst c12
    have H1 : (some false) = some r := by rw [if_neg (show ¬ (false = true) by decide)] at H; exact H
    clear H
    have H := H1
    clear H1
    obtain rfl := Option.some.inj H
    go_enter Tryd.func48, Tryd.ntmps48
    go_wp2_with (first | ((with_reducible refine gate_dst (N := 1) rfl ?_); refine bx_ 1 (#[.int .i64 a0_0, .int .i64 a0_1, .string a0_2]) 43 ?_; intro gb109 hg w16 hbox hb; have n0_ := Aside0.mk (below_step (bel_) hb); have n1_ := Aside0.mk (hbox); have n2_ := Aside0.mk ((by rw [hg]; exact (below_size (bel_)) : w.heap.size ≤ gb109)); have n3_ := Aside0.mk ((by rw [hg]; exact (below_size (bel_)) : w.heap.size ≤ gb109)); clear HB; have HB := n0_; have BK109 := n1_; have GW109 := n2_; have GE109 := n3_; clear n0_ n1_ n2_ n3_; clear hb hbox hg; have hcz17_0 := cz_ BK109.out 0 (.int .i64 a0_0); have hcz17_1 := cz_ BK109.out 1 (.int .i64 a0_1); have hcz17_2 := cz_ BK109.out 2 (.string a0_2); have hfz17_0 := blk_frozen BK109.out 0; have hfz17_1 := blk_frozen BK109.out 1; have hfz17_2 := blk_frozen BK109.out 2) | ((with_reducible refine gate_callee (f := 49) rfl ?_); refine gl_ 5 Tryd.func49 #[.int .i64 a0_0] ?_; (with_reducible refine (spec_l1Root.calls a0_0 false _ A2.out).mono ?_); rintro e w' ⟨rfl, ⟨nd, rfl⟩⟩; refine ⟨_, rfl, ?_⟩) | ((with_reducible refine gate_callee (f := 50) rfl ?_); refine gl_ 16 Tryd.func50 #[.int .i64 a0_0] ?_; (with_reducible refine (spec_l1Made.calls a0_0 true _ A9.out).mono ?_); rintro e w' ⟨rfl, ⟨nd, rfl⟩⟩; refine ⟨_, rfl, ?_⟩) | (go_at_call 74; (with_reducible refine (spec_l6In.calls a0_1 1 18 false _ A11.out).mono ?_); rintro e w' ⟨rfl, ⟨nd, rfl⟩⟩))
    go_ret
    exact ⟨fi_, bel_⟩
  ·replace c10 := Bool.eq_false_iff.mpr c10
   subst c10
   have H1 : (some false) = some r := by rw [if_neg (show ¬ (false = true) by decide)] at H; exact H
   clear H
   have H := H1
   clear H1
   obtain rfl := Option.some.inj H
   go_enter Tryd.func48, Tryd.ntmps48
   go_wp2_with (first | ((with_reducible refine gate_dst (N := 1) rfl ?_); refine bx_ 1 (#[.int .i64 a0_0, .int .i64 a0_1, .string a0_2]) 43 ?_; intro gb109 hg w18 hbox hb; have n0_ := Aside0.mk (below_step (bel_) hb); have n1_ := Aside0.mk (hbox); have n2_ := Aside0.mk ((by rw [hg]; exact (below_size (bel_)) : w.heap.size ≤ gb109)); have n3_ := Aside0.mk ((by rw [hg]; exact (below_size (bel_)) : w.heap.size ≤ gb109)); clear HB; have HB := n0_; have BK109 := n1_; have GW109 := n2_; have GE109 := n3_; clear n0_ n1_ n2_ n3_; clear hb hbox hg; have hcz19_0 := cz_ BK109.out 0 (.int .i64 a0_0); have hcz19_1 := cz_ BK109.out 1 (.int .i64 a0_1); have hcz19_2 := cz_ BK109.out 2 (.string a0_2); have hfz19_0 := blk_frozen BK109.out 0; have hfz19_1 := blk_frozen BK109.out 1; have hfz19_2 := blk_frozen BK109.out 2) | ((with_reducible refine gate_callee (f := 49) rfl ?_); refine gl_ 5 Tryd.func49 #[.int .i64 a0_0] ?_; (with_reducible refine (spec_l1Root.calls a0_0 false _ A2.out).mono ?_); rintro e w' ⟨rfl, ⟨nd, rfl⟩⟩; refine ⟨_, rfl, ?_⟩) | ((with_reducible refine gate_callee (f := 50) rfl ?_); refine gl_ 16 Tryd.func50 #[.int .i64 a0_0] ?_; (with_reducible refine (spec_l1Made.calls a0_0 false _ A9.out).mono ?_); rintro e w' ⟨rfl, ⟨nd, rfl⟩⟩; refine ⟨_, rfl, ?_⟩))
   go_ret
   exact ⟨fi_, bel_⟩

mutual
def spec_TreeOk.l0 : Nat → List (S43) → Int → Int → Option (Bool)
 | 0, _, _, _ => none
 | k + 1, x0, x3, x4 => if x4 < (x0.length : Int) then (if 0 ≤ x4 then ((spec_RowOk.f k ((rd_T43 x0 x4).f0) ((rd_T43 x0 x4).f1) ((rd_T43 x0 x4).f2)).bind fun t116 => (if t116 = true then (if x4 > 0 then (if 0 ≤ (wrap64 (x4 - 1)) then (if (wrap64 (x4 - 1)) < (x0.length : Int) then (spec_TreeOk.j1 k x0 x3 x4 (decide (((rd_T43 x0 x4).f1) > (wrap64 (((rd_T43 x0 (wrap64 (x4 - 1))).f1) + 1))))) else (none)) else (none)) else (spec_TreeOk.j1 k x0 x3 x4 false)) else (spec_TreeOk.j1 k x0 x3 x4 true))) else (none)) else (if x3 = 3 then (if 0 < (x0.length : Int) then (some (((rd_T43 x0 0).f0) == 1)) else (none)) else (some false))
def spec_TreeOk.j1 : Nat → List (S43) → Int → Int → Bool → Option (Bool)
 | 0, _, _, _, _ => none
 | k + 1, x0, x3, x4, x36 => if x36 = true then (some false) else (if 0 ≤ x4 then (if x4 < (x0.length : Int) then ((spec_l1Root.f ((rd_T43 x0 x4).f0)).bind fun t120 => (if t120 = true then (if ((rd_T43 x0 x4).f0) = (wrap64 (x3 + 1)) then (spec_TreeOk.j2 k x0 (wrap64 (x3 + 1)) x4) else (some false)) else (spec_TreeOk.j2 k x0 x3 x4))) else (none)) else (none))
def spec_TreeOk.j2 : Nat → List (S43) → Int → Int → Option (Bool)
 | 0, _, _, _ => none
 | k + 1, x0, x3, x4 => spec_TreeOk.l1 k x0 x3 x4 0
def spec_TreeOk.l1 : Nat → List (S43) → Int → Int → Int → Option (Bool)
 | 0, _, _, _, _ => none
 | k + 1, x0, x3, x4, x5 => if x5 < x4 then (if 0 ≤ x5 then (if x5 < (x0.length : Int) then (if 0 ≤ x4 then (if x4 < (x0.length : Int) then (if ((rd_T43 x0 x5).f0) = ((rd_T43 x0 x4).f0) then (some false) else (spec_TreeOk.l1 k x0 x3 x4 (wrap64 (x5 + 1)))) else (none)) else (none)) else (none)) else (none)) else (spec_TreeOk.l0 k x0 x3 (wrap64 (x4 + 1)))
end
def spec_TreeOk.f (k : Nat) (l0 : List (S43)) : Option (Bool) := spec_TreeOk.l0 k l0 0 0
theorem spec_TreeOk.mono_l : ∀ k, (∀ y0 y1 y2, LeO (spec_TreeOk.l0 k y0 y1 y2) (spec_TreeOk.l0 (k + 1) y0 y1 y2)) ∧ (∀ y0 y1 y2 y3, LeO (spec_TreeOk.j1 k y0 y1 y2 y3) (spec_TreeOk.j1 (k + 1) y0 y1 y2 y3)) ∧ (∀ y0 y1 y2, LeO (spec_TreeOk.j2 k y0 y1 y2) (spec_TreeOk.j2 (k + 1) y0 y1 y2)) ∧ (∀ y0 y1 y2 y3, LeO (spec_TreeOk.l1 k y0 y1 y2 y3) (spec_TreeOk.l1 (k + 1) y0 y1 y2 y3))
 | 0 => ⟨fun _ _ _ r h => by simp [spec_TreeOk.l0] at h, fun _ _ _ _ r h => by simp [spec_TreeOk.j1] at h, fun _ _ _ r h => by simp [spec_TreeOk.j2] at h, fun _ _ _ _ r h => by simp [spec_TreeOk.l1] at h⟩
 | k + 1 => by
  obtain ⟨ih0, ih1, ih2, ih3⟩ := spec_TreeOk.mono_l k
  refine ⟨?_, ?_, ?_, ?_⟩
  all_goals intros
  all_goals first | unfold spec_TreeOk.l0 | unfold spec_TreeOk.j1 | unfold spec_TreeOk.j2 | unfold spec_TreeOk.l1
  all_goals repeat' first
  | (with_reducible exact ih0 _ _ _)
  | (with_reducible exact ih1 _ _ _ _)
  | (with_reducible exact ih2 _ _ _)
  | (with_reducible exact ih3 _ _ _ _)
  | (with_reducible exact spec_RowOk.mono _ _ _ _)
  | (with_reducible exact LeO.refl _)
  | (with_reducible exact LeO.none _)
  | (with_reducible refine LeO.ite ?_ ?_)
  | (with_reducible refine LeO.bind ?_ (fun _ => ?_))
  | exact ih0 _ _ _
  | exact ih1 _ _ _ _
  | exact ih2 _ _ _
  | exact ih3 _ _ _ _
  | exact spec_RowOk.mono _ _ _ _
  | exact LeO.none _
  | refine LeO.ite ?_ ?_
  | refine LeO.bind ?_ (fun _ => ?_)
theorem spec_TreeOk.mono : ∀ a0 k, LeO (spec_TreeOk.f k a0) (spec_TreeOk.f (k + 1) a0) := by
 intro a0 k
 obtain ⟨ih0, ih1, ih2, ih3⟩ := spec_TreeOk.mono_l k
 unfold spec_TreeOk.f
 repeat' first
   | (with_reducible exact ih0 _ _ _)
   | (with_reducible exact ih1 _ _ _ _)
   | (with_reducible exact ih2 _ _ _)
   | (with_reducible exact ih3 _ _ _ _)
   | (with_reducible exact spec_RowOk.mono _ _ _ _)
   | (with_reducible exact LeO.refl _)
   | (with_reducible exact LeO.none _)
   | (with_reducible refine LeO.ite ?_ ?_)
   | (with_reducible refine LeO.bind ?_ (fun _ => ?_))
   | exact ih0 _ _ _
   | exact ih1 _ _ _ _
   | exact ih2 _ _ _
   | exact ih3 _ _ _ _
   | exact spec_RowOk.mono _ _ _ _
   | exact LeO.none _
   | refine LeO.ite ?_ ?_
   | refine LeO.bind ?_ (fun _ => ?_)
def spec_TreeOk.T5 : Bool × List (List Nat × List Nat) := (true, [([], []), ([], []), ([0, 1], [0, 1]), ([2], [2]), ([3], [3]), ([4], [4]), ([5, 4], [5]), ([6], [6]), ([7, 6], [6, 7]), ([8, 6, 6], [6, 8]), ([9], [9]), ([9], [9]), ([10, 11, 9], [9, 10, 11]), ([12, 9], [9, 12]), ([13, 9], [9, 13]), ([9], [9]), ([9], [9]), ([16, 9], [9, 16]), ([15, 17, 9], [9, 15, 17]), ([18, 9], [9, 18]), ([19, 9], [9, 19]), ([20, 9], [9, 20]), ([14, 21, 9], [9, 14, 21]), ([9, 22, 6], [6, 9, 22]), ([6, 23], [6, 23])])
def spec_TreeOk.B5 : List Nat := [0, 0, 3, 7, 15, 31, 63, 127, 255, 511, 1023, 1023, 4095, 8191, 16383, 1023, 1023, 66559, 230399, 492543, 1016831, 2065407, 4194303, 8388607, 16777215]
theorem spec_TreeOk.tab5 : rtab .any (opsOf Tryd.f26 5) = spec_TreeOk.T5 := by kernel_rfl
theorem spec_TreeOk.bits5 : waitsOk spec_TreeOk.T5.2 spec_TreeOk.B5 = true := by kernel_rfl
def spec_TreeOk.T14 : Bool × List (List Nat × List Nat) := (true, [([], []), ([], []), ([0, 1], [0, 1]), ([2], [2]), ([3], [3]), ([], []), ([], []), ([5, 6], [5, 6]), ([7], [7]), ([8], [8]), ([4, 9], [4, 9])])
def spec_TreeOk.B14 : List Nat := [0, 0, 3, 7, 15, 0, 0, 96, 224, 480, 1023]
theorem spec_TreeOk.tab14 : rtab .any (opsOf Tryd.f26 14) = spec_TreeOk.T14 := by kernel_rfl
theorem spec_TreeOk.bits14 : waitsOk spec_TreeOk.T14.2 spec_TreeOk.B14 = true := by kernel_rfl
set_option maxHeartbeats 8000000 in
set_option maxRecDepth 100000 in
theorem spec_TreeOk.calls (k : Nat) (A0 : Option Addr) (c0 : Nat) (l0 : List (S43)) (r : Bool) (w : World) (hr0 : Kd.C k43 w A0 l0.length l0) (hc0 : l0.length ≤ c0) (h : spec_TreeOk.f k l0 = some r) :
  Calls Tryd.prog 26 #[.slice A0 l0.length c0] w fun e w' => e = .returned (.bool r) ∧ Below w.heap.size w w' := by
 have hu43 := Tryd.underlying43
 have HR0 := Aside0.mk hr0
 have HC0 := Aside0.mk hc0
 clear hr0 hc0
 have HB := Aside0.mk (Below.refl w.heap.size w)
 unfold spec_TreeOk.f at h
 have H := h
 clear h
 have H' := Aside0.mk H
 clear H
 go_enter Tryd.func26, Tryd.ntmps26
 go_wp2
 go_loopg [3, 4] k (fun kq v3 v4 w' => ∃ (x3_1 : Int) (x4_1 : Int), v3 = .int .i64 x3_1 ∧ v4 = .int .i64 x4_1 ∧ Aside0 (spec_TreeOk.l0 kq l0 x3_1 x4_1 = some r) ∧ Aside0 (kq ≤ k) ∧ Aside0 (Below w.heap.size w w'))
 case atStart => exact ⟨(0), (0), (si_), (si_), H', ⟨Nat.le_refl _⟩, ⟨bel_⟩⟩
 case round =>
  clear H'
  obtain ⟨x3_1, x4_1, rfl, rfl, HA, HK1, HB⟩ := hrel
  cases gk with
  | zero => exact absurd HA.out (by simp [spec_TreeOk.l0])
  | succ k1 =>
   have H := HA.out
   clear HA
   simp only [spec_TreeOk.l0] at H
   by_cases c2 : x4_1 < (l0.length : Int)
   ·rw [if_pos c2] at H
    have c2b0 : decide (x4_1 < (l0.length : Int)) = true := decide_eq_true c2
    clear c2
    have HC3 := Aside0.mk H
    clear H
    go_upto_region 5 with (fail)
    go_cut [36] (fun v36 wc => ∃ (kq : Nat) (x36_2 : Bool), v36 = .bool x36_2 ∧ Aside0 (spec_TreeOk.j1 kq l0 x3_1 x4_1 x36_2 = some r) ∧ Aside0 (kq ≤ k1) ∧ Aside0 (Below w.heap.size w wc))
    case first =>
     have H := HC3.out
     clear HC3
     by_cases c4 : 0 ≤ x4_1
     ·rw [if_pos c4] at H
      have c4b0 : decide (0 ≤ x4_1) = true := decide_eq_true c4
      clear c4
      (first | rw [c4b0] | (simp only [i64_w, i32_w]; rw [c4b0]) | skip)
      replace H := Option.bind_eq_some_iff.mp H
      obtain ⟨t116, A50, H⟩ := H
      try dsimp only at H
      have A5 := Aside0.mk A50
      clear A50
      by_cases c6 : t116 = true
      ·subst c6
       have H1 : (if x4_1 > 0 then (if 0 ≤ (wrap64 (x4_1 - 1)) then (if (wrap64 (x4_1 - 1)) < (l0.length : Int) then (spec_TreeOk.j1 k1 l0 x3_1 x4_1 (decide (((rd_T43 l0 x4_1).f1) > (wrap64 (((rd_T43 l0 (wrap64 (x4_1 - 1))).f1) + 1))))) else (none)) else (none)) else (spec_TreeOk.j1 k1 l0 x3_1 x4_1 false)) = some r := by rw [if_pos rfl] at H; exact H
       clear H
       have H := H1
       clear H1
       by_cases c7 : x4_1 > 0
       ·rw [if_pos c7] at H
        have c7b0 : decide (0 < x4_1) = true := decide_eq_true c7
        clear c7
        obtain ⟨ji8, hji8⟩ : ∃ j_ : Int, (wrap64 (x4_1 - 1)) = j_ := ⟨_, rfl⟩
        replace H : (if 0 ≤ (ji8) then (if (ji8) < (l0.length : Int) then (spec_TreeOk.j1 k1 l0 x3_1 x4_1 (decide (((rd_T43 l0 x4_1).f1) > (wrap64 (((rd_T43 l0 (ji8)).f1) + 1))))) else (none)) else (none)) = some r := by first | (rw [hji8] at H; exact H) | (simp only [hji8] at H ⊢; exact H)
        (try rw [hji8] at A5)
        have hji8w : (IntKind.i64.wrap (x4_1 - 1)) = ji8 := (i64_w _).trans hji8
        by_cases c9 : 0 ≤ (ji8)
        ·rw [if_pos c9] at H
         have c9b0 : decide (0 ≤ (ji8)) = true := decide_eq_true c9
         clear c9
         by_cases c10 : (ji8) < (l0.length : Int)
         ·rw [if_pos c10] at H
          have c10b0 : decide ((ji8) < (l0.length : Int)) = true := decide_eq_true c10
          clear c10
          have H' := Aside0.mk H
          clear H
          try go_wp2
          have n0_ := Aside0.mk (below_drew1 HB.out)
          clear HB
          have HB := n0_
          clear n0_
          have p115 : 0 ≤ (x4_1 : Int) := od_
          have q115 : x4_1 < (l0.length : Int) := od_
          obtain ⟨ad115, e115, hx115_0, hx115_1, hx115_2⟩ := at_T43 HR0.out x4_1 p115 q115
          have hw115_2 := hx115_2
          have hw115_1 := hx115_1
          have hw115_0 := hx115_0
          cases e115
          replace hx115_0 := (cb_ HB.out hx115_0 :)
          replace hx115_1 := (cb_ HB.out hx115_1 :)
          replace hx115_2 := (cb_ HB.out hx115_2 :)
          replace p115 := eq_true p115
          replace q115 := eq_true q115
          have p117 : 0 ≤ (x4_1 : Int) := od_
          have q117 : x4_1 < (l0.length : Int) := od_
          obtain ⟨ad117, e117, hx117_0, hx117_1, hx117_2⟩ := at_T43 HR0.out x4_1 p117 q117
          have hw117_2 := hx117_2
          have hw117_1 := hx117_1
          have hw117_0 := hx117_0
          obtain rfl : ad115 = ad117 := (by injection e117)
          replace hx117_0 := (cb_ HB.out hx117_0 :)
          replace hx117_1 := (cb_ HB.out hx117_1 :)
          replace hx117_2 := (cb_ HB.out hx117_2 :)
          replace p117 := eq_true p117
          replace q117 := eq_true q117
          have p118 : 0 ≤ ((ji8) : Int) := od_
          have q118 : (ji8) < (l0.length : Int) := od_
          obtain ⟨ad118, e118, hx118_0, hx118_1, hx118_2⟩ := at_T43 HR0.out (ji8) p118 q118
          have hw118_2 := hx118_2
          have hw118_1 := hx118_1
          have hw118_0 := hx118_0
          obtain rfl : ad115 = ad118 := (by injection e118)
          replace hx118_0 := (cb_ HB.out hx118_0 :)
          replace hx118_1 := (cb_ HB.out hx118_1 :)
          replace hx118_2 := (cb_ HB.out hx118_2 :)
          replace p118 := eq_true p118
          replace q118 := eq_true q118
          refine start_ (n := 25) (S := fun w' => w'.cell? (ad115.add ((x4_1).toNat * 3)) = some (.int .i64 ((rd_T43 l0 x4_1).f0)) ∧ w'.cell? ⟨(ad115.add ((x4_1).toNat * 3)).block, (ad115.add ((x4_1).toNat * 3)).off + 1, none⟩ = some (.int .i64 ((rd_T43 l0 x4_1).f1)) ∧ w'.cell? ⟨(ad115.add ((x4_1).toNat * 3)).block, (ad115.add ((x4_1).toNat * 3)).off + 2, none⟩ = some (.string ((rd_T43 l0 x4_1).f2)) ∧ w'.cell? (ad115.add ((x4_1).toNat * 3)) = some (.int .i64 ((rd_T43 l0 x4_1).f0)) ∧ w'.cell? ⟨(ad115.add ((x4_1).toNat * 3)).block, (ad115.add ((x4_1).toNat * 3)).off + 1, none⟩ = some (.int .i64 ((rd_T43 l0 x4_1).f1)) ∧ w'.cell? ⟨(ad115.add ((x4_1).toNat * 3)).block, (ad115.add ((x4_1).toNat * 3)).off + 2, none⟩ = some (.string ((rd_T43 l0 x4_1).f2)) ∧ w'.cell? (ad115.add (((ji8)).toNat * 3)) = some (.int .i64 ((rd_T43 l0 (ji8)).f0)) ∧ w'.cell? ⟨(ad115.add (((ji8)).toNat * 3)).block, (ad115.add (((ji8)).toNat * 3)).off + 1, none⟩ = some (.int .i64 ((rd_T43 l0 (ji8)).f1)) ∧ w'.cell? ⟨(ad115.add (((ji8)).toNat * 3)).block, (ad115.add (((ji8)).toNat * 3)).off + 2, none⟩ = some (.string ((rd_T43 l0 (ji8)).f2))) (ds := []) #[false, false, false, false, false, false, false, false, false, false, false, false, false, false, false, false, false, false, false, false, false, false, false, false, false] (by kernel_rfl) rfl rfl ⟨((cb_ HB.out hw115_0 :)), ((cb_ HB.out hw115_1 :)), ((cb_ HB.out hw115_2 :)), ((cb_ HB.out hw117_0 :)), ((cb_ HB.out hw117_1 :)), ((cb_ HB.out hw117_2 :)), ((cb_ HB.out hw118_0 :)), ((cb_ HB.out hw118_1 :)), ((cb_ HB.out hw118_2 :))⟩ (fun hHeld => ?_); refine with_tabW spec_TreeOk.tab5 spec_TreeOk.bits5 (fun HT_ HW_ => ?_)
          generalize wr.drew = w11 at HB hx115_0 hx115_1 hx115_2 hx117_0 hx117_1 hx117_2 hx118_0 hx118_1 hx118_2 hHeld ⊢
          refine pa_ 0 12 ?_
          refine pa_ 1 13 ?_
          refine pa_ 2 14 ?_
          refine ta9_ 3 15 hHeld ?_
          refine on_ 4 16 (fun K hK => ?_)
          refine goes_ Tryd.func48 (by kernel_rfl) rfl #[.agg #[.int .i64 ((rd_T43 l0 x4_1).f0), .int .i64 ((rd_T43 l0 x4_1).f1), .string ((rd_T43 l0 x4_1).f2)]] (by rfl) rfl rfl ar_ ?_
          with_reducible refine (spec_RowOk.calls k1 ((rd_T43 l0 x4_1).f0) ((rd_T43 l0 x4_1).f1) ((rd_T43 l0 x4_1).f2) true _ A5.out).mono ?_
          rintro e w12 ⟨rfl, hb⟩
          refine ⟨_, rfl, ?_⟩
          have n0_ := Aside0.mk (below_step (bel_) hb)
          clear HB
          have HB := n0_
          clear n0_
          (try clear hb)
          (try clear hb2)
          (try clear hk)
          (try clear hi)
          refine hK.out _ _ ⟨((cb_ HB.out hw115_0 :)), ((cb_ HB.out hw115_1 :)), ((cb_ HB.out hw115_2 :)), ((cb_ HB.out hw117_0 :)), ((cb_ HB.out hw117_1 :)), ((cb_ HB.out hw117_2 :)), ((cb_ HB.out hw118_0 :)), ((cb_ HB.out hw118_1 :)), ((cb_ HB.out hw118_2 :))⟩ (fun hHeld => ?_)
          clear hK K
          refine no_ 16 ?_
          refine pa_ 5 17 ?_
          refine pa_ 6 18 ?_
          refine pa_ 7 19 ?_
          refine pa_ 8 20 ?_
          refine pa_ 9 21 ?_
          refine pa_ 10 22 ?_
          refine pa_ 11 23 ?_
          refine pa_ 12 24 ?_
          refine pa_ 13 25 ?_
          refine pa_ 15 27 ?_
          refine pa_ 16 28 ?_
          refine pa_ 17 29 ?_
          refine pa_ 18 30 ?_
          refine pa_ 19 31 ?_
          refine ta9_ 14 26 hHeld ?_
          refine ta9_ 20 32 hHeld ?_
          refine pa_ 21 33 ?_
          refine pa_ 22 34 ?_
          refine pa_ 23 35 ?_
          refine pa_ 24 36 ?_
          refine done_ (done_of HT_.out (by kernel_rfl)) ?_
          try go_wp2
          go_meet
          case rel => exact ⟨_, (decide (((rd_T43 l0 x4_1).f1) > (wrap64 (((rd_T43 l0 (ji8)).f1) + 1)))), (by first | rfl | (simp; done) | (simp only [← hji8] <;> (first | rfl | simp)) | (simp [*]; done)), H', ⟨by have := HK1.out; first | omega | exact Nat.le_refl _⟩, ⟨bel_⟩⟩
         ·rw [if_neg c10] at H
          exact absurd H (by simp)
        ·rw [if_neg c9] at H
         exact absurd H (by simp)
       ·rw [if_neg c7] at H
        have c7b0 : decide (0 < x4_1) = false := decide_eq_false c7
        clear c7
        have H' := Aside0.mk H
        clear H
        try go_wp2
        have n0_ := Aside0.mk (below_drew1 HB.out)
        clear HB
        have HB := n0_
        clear n0_
        have p115 : 0 ≤ (x4_1 : Int) := od_
        have q115 : x4_1 < (l0.length : Int) := od_
        obtain ⟨ad115, e115, hx115_0, hx115_1, hx115_2⟩ := at_T43 HR0.out x4_1 p115 q115
        have hw115_2 := hx115_2
        have hw115_1 := hx115_1
        have hw115_0 := hx115_0
        cases e115
        replace hx115_0 := (cb_ HB.out hx115_0 :)
        replace hx115_1 := (cb_ HB.out hx115_1 :)
        replace hx115_2 := (cb_ HB.out hx115_2 :)
        replace p115 := eq_true p115
        replace q115 := eq_true q115
        refine start_ (n := 25) (S := fun w' => w'.cell? (ad115.add ((x4_1).toNat * 3)) = some (.int .i64 ((rd_T43 l0 x4_1).f0)) ∧ w'.cell? ⟨(ad115.add ((x4_1).toNat * 3)).block, (ad115.add ((x4_1).toNat * 3)).off + 1, none⟩ = some (.int .i64 ((rd_T43 l0 x4_1).f1)) ∧ w'.cell? ⟨(ad115.add ((x4_1).toNat * 3)).block, (ad115.add ((x4_1).toNat * 3)).off + 2, none⟩ = some (.string ((rd_T43 l0 x4_1).f2))) (ds := []) #[false, false, false, false, false, false, false, false, false, false, false, false, false, false, false, false, false, false, false, false, false, false, false, false, false] (by kernel_rfl) rfl rfl ⟨((cb_ HB.out hw115_0 :)), ((cb_ HB.out hw115_1 :)), ((cb_ HB.out hw115_2 :))⟩ (fun hHeld => ?_); refine with_tabW spec_TreeOk.tab5 spec_TreeOk.bits5 (fun HT_ HW_ => ?_)
        generalize wr.drew = w13 at HB hx115_0 hx115_1 hx115_2 hHeld ⊢
        refine pa_ 0 12 ?_
        refine pa_ 1 13 ?_
        refine pa_ 2 14 ?_
        refine ta3_ 3 15 hHeld ?_
        refine on_ 4 16 (fun K hK => ?_)
        refine goes_ Tryd.func48 (by kernel_rfl) rfl #[.agg #[.int .i64 ((rd_T43 l0 x4_1).f0), .int .i64 ((rd_T43 l0 x4_1).f1), .string ((rd_T43 l0 x4_1).f2)]] (by rfl) rfl rfl ar_ ?_
        with_reducible refine (spec_RowOk.calls k1 ((rd_T43 l0 x4_1).f0) ((rd_T43 l0 x4_1).f1) ((rd_T43 l0 x4_1).f2) true _ A5.out).mono ?_
        rintro e w14 ⟨rfl, hb⟩
        refine ⟨_, rfl, ?_⟩
        have n0_ := Aside0.mk (below_step (bel_) hb)
        clear HB
        have HB := n0_
        clear n0_
        (try clear hb)
        (try clear hb2)
        (try clear hk)
        (try clear hi)
        refine hK.out _ _ ⟨((cb_ HB.out hw115_0 :)), ((cb_ HB.out hw115_1 :)), ((cb_ HB.out hw115_2 :))⟩ (fun hHeld => ?_)
        clear hK K
        refine no_ 16 ?_
        refine pa_ 5 17 ?_
        refine pa_ 6 18 ?_
        refine pa_ 7 19 ?_
        refine pa_ 8 20 ?_
        refine pa_ 9 21 ?_
        refine po_ 10 22 ?_
        refine po_ 11 23 ?_
        refine po_ 12 24 ?_
        refine po_ 13 25 ?_
        refine po_ 14 26 ?_
        refine po_ 15 27 ?_
        refine po_ 16 28 ?_
        refine po_ 17 29 ?_
        refine po_ 18 30 ?_
        refine po_ 19 31 ?_
        refine po_ 20 32 ?_
        refine po_ 21 33 ?_
        refine po_ 22 34 ?_
        refine pa_ 23 35 ?_
        refine pa_ 24 36 ?_
        refine done_ (done_of HT_.out (by kernel_rfl)) ?_
        try go_wp2
        go_meet
        case rel => exact ⟨_, (false), (si_), H', ⟨by have := HK1.out; first | omega | exact Nat.le_refl _⟩, ⟨bel_⟩⟩
      ·replace c6 := Bool.eq_false_iff.mpr c6
       subst c6
       have H1 : (spec_TreeOk.j1 k1 l0 x3_1 x4_1 true) = some r := by rw [if_neg (show ¬ (false = true) by decide)] at H; exact H
       clear H
       have H := H1
       clear H1
       have H' := Aside0.mk H
       clear H
       try go_wp2
       have n0_ := Aside0.mk (below_drew1 HB.out)
       clear HB
       have HB := n0_
       clear n0_
       have p115 : 0 ≤ (x4_1 : Int) := od_
       have q115 : x4_1 < (l0.length : Int) := od_
       obtain ⟨ad115, e115, hx115_0, hx115_1, hx115_2⟩ := at_T43 HR0.out x4_1 p115 q115
       have hw115_2 := hx115_2
       have hw115_1 := hx115_1
       have hw115_0 := hx115_0
       cases e115
       replace hx115_0 := (cb_ HB.out hx115_0 :)
       replace hx115_1 := (cb_ HB.out hx115_1 :)
       replace hx115_2 := (cb_ HB.out hx115_2 :)
       replace p115 := eq_true p115
       replace q115 := eq_true q115
       refine start_ (n := 25) (S := fun w' => w'.cell? (ad115.add ((x4_1).toNat * 3)) = some (.int .i64 ((rd_T43 l0 x4_1).f0)) ∧ w'.cell? ⟨(ad115.add ((x4_1).toNat * 3)).block, (ad115.add ((x4_1).toNat * 3)).off + 1, none⟩ = some (.int .i64 ((rd_T43 l0 x4_1).f1)) ∧ w'.cell? ⟨(ad115.add ((x4_1).toNat * 3)).block, (ad115.add ((x4_1).toNat * 3)).off + 2, none⟩ = some (.string ((rd_T43 l0 x4_1).f2))) (ds := []) #[false, false, false, false, false, false, false, false, false, false, false, false, false, false, false, false, false, false, false, false, false, false, false, false, false] (by kernel_rfl) rfl rfl ⟨((cb_ HB.out hw115_0 :)), ((cb_ HB.out hw115_1 :)), ((cb_ HB.out hw115_2 :))⟩ (fun hHeld => ?_); refine with_tabW spec_TreeOk.tab5 spec_TreeOk.bits5 (fun HT_ HW_ => ?_)
       generalize wr.drew = w15 at HB hx115_0 hx115_1 hx115_2 hHeld ⊢
       refine pa_ 0 12 ?_
       refine pa_ 1 13 ?_
       refine pa_ 2 14 ?_
       refine ta3_ 3 15 hHeld ?_
       refine on_ 4 16 (fun K hK => ?_)
       refine goes_ Tryd.func48 (by kernel_rfl) rfl #[.agg #[.int .i64 ((rd_T43 l0 x4_1).f0), .int .i64 ((rd_T43 l0 x4_1).f1), .string ((rd_T43 l0 x4_1).f2)]] (by rfl) rfl rfl ar_ ?_
       with_reducible refine (spec_RowOk.calls k1 ((rd_T43 l0 x4_1).f0) ((rd_T43 l0 x4_1).f1) ((rd_T43 l0 x4_1).f2) false _ A5.out).mono ?_
       rintro e w16 ⟨rfl, hb⟩
       refine ⟨_, rfl, ?_⟩
       have n0_ := Aside0.mk (below_step (bel_) hb)
       clear HB
       have HB := n0_
       clear n0_
       (try clear hb)
       (try clear hb2)
       (try clear hk)
       (try clear hi)
       refine hK.out _ _ ⟨((cb_ HB.out hw115_0 :)), ((cb_ HB.out hw115_1 :)), ((cb_ HB.out hw115_2 :))⟩ (fun hHeld => ?_)
       clear hK K
       refine no_ 16 ?_
       refine pa_ 5 17 ?_
       refine pa_ 6 18 ?_
       refine po_ 7 19 ?_
       refine po_ 8 20 ?_
       refine po_ 9 21 ?_
       refine po_ 10 22 ?_
       refine po_ 11 23 ?_
       refine po_ 12 24 ?_
       refine po_ 13 25 ?_
       refine po_ 14 26 ?_
       refine po_ 15 27 ?_
       refine po_ 16 28 ?_
       refine po_ 17 29 ?_
       refine po_ 18 30 ?_
       refine po_ 19 31 ?_
       refine po_ 20 32 ?_
       refine po_ 21 33 ?_
       refine po_ 22 34 ?_
       refine po_ 23 35 ?_
       refine pa_ 24 36 ?_
       refine done_ (done_of HT_.out (by kernel_rfl)) ?_
       try go_wp2
       go_meet
       case rel => exact ⟨_, (true), (si_), H', ⟨by have := HK1.out; first | omega | exact Nat.le_refl _⟩, ⟨bel_⟩⟩
     ·rw [if_neg c4] at H
      exact absurd H (by simp)
    case rest =>
     clear HC3
     try clear c1
     try clear p1
     try clear q1
     try clear hx1
     try clear p2
     try clear c4
     try clear c6
     try clear p6
     try clear c7
     try clear c7b0
     try clear c9
     try clear c10
     try clear p11
     try clear q11
     try clear hx11
     try clear hx115_0
     try clear hx115_1
     try clear hx115_2
     try clear hx117_0
     try clear hx117_1
     try clear hx117_2
     try clear hx118_0
     try clear hx118_1
     try clear hx118_2
     try clear p115
     try clear p118
     try clear q115
     try clear q118
     obtain ⟨kq, x36_2, rfl, HA, HJ2, HB⟩ := hcut
     cases kq with
     | zero => exact absurd HA.out (by simp [spec_TreeOk.j1])
     | succ kj2 =>
      have H := HA.out
      clear HA
      simp only [spec_TreeOk.j1] at H
      by_cases c17 : x36_2 = true
      ·subst c17
       have H1 : (some false) = some r := by rw [if_pos rfl] at H; exact H
       clear H
       have H := H1
       clear H1
       obtain rfl := Option.some.inj H
       go_wp2
       go_ret
       exact ⟨fi_, bel_⟩
      ·replace c17 := Bool.eq_false_iff.mpr c17
       subst c17
       have H1 : (if 0 ≤ x4_1 then (if x4_1 < (l0.length : Int) then ((spec_l1Root.f ((rd_T43 l0 x4_1).f0)).bind fun t120 => (if t120 = true then (if ((rd_T43 l0 x4_1).f0) = (wrap64 (x3_1 + 1)) then (spec_TreeOk.j2 kj2 l0 (wrap64 (x3_1 + 1)) x4_1) else (some false)) else (spec_TreeOk.j2 kj2 l0 x3_1 x4_1))) else (none)) else (none)) = some r := by rw [if_neg (show ¬ (false = true) by decide)] at H; exact H
       clear H
       have H := H1
       clear H1
       by_cases c18 : 0 ≤ x4_1
       ·rw [if_pos c18] at H
        have c18b0 : decide (0 ≤ x4_1) = true := decide_eq_true c18
        clear c18
        by_cases c19 : x4_1 < (l0.length : Int)
        ·rw [if_pos c19] at H
         have c19b0 : decide (x4_1 < (l0.length : Int)) = true := decide_eq_true c19
         clear c19
         replace H := Option.bind_eq_some_iff.mp H
         obtain ⟨t120, A200, H⟩ := H
         try dsimp only at H
         have A20 := Aside0.mk A200
         clear A200
         have HC21 := Aside0.mk H
         clear H
         have p119 : 0 ≤ (x4_1 : Int) := od_
         have q119 : x4_1 < (l0.length : Int) := od_
         obtain ⟨ad119, e119, hx119_0, hx119_1, hx119_2⟩ := at_T43 HR0.out x4_1 p119 q119
         cases e119
         replace hx119_0 := (cb_ HB.out hx119_0 :)
         replace hx119_1 := (cb_ HB.out hx119_1 :)
         replace hx119_2 := (cb_ HB.out hx119_2 :)
         replace p119 := eq_true p119
         replace q119 := eq_true q119
         go_upto_if 42 with (first | ((with_reducible refine gate_callee (f := 49) rfl ?_); refine gl_ 42 Tryd.func49 #[.int .i64 ((rd_T43 l0 x4_1).f0)] ?_; (with_reducible refine (spec_l1Root.calls ((rd_T43 l0 x4_1).f0) t120 _ A20.out).mono ?_); rintro e w' ⟨rfl, ⟨nd, rfl⟩⟩; refine ⟨_, rfl, ?_⟩))
         (try simp only [Act.put, List.setIfInBounds_toArray, List.set_cons_zero, List.set_cons_succ])
         go_cut [3] (fun v3 wc => ∃ (kq : Nat) (x3_20 : Int), v3 = .int .i64 x3_20 ∧ Aside0 (spec_TreeOk.j2 kq l0 x3_20 x4_1 = some r) ∧ Aside0 (kq ≤ kj2) ∧ Aside0 (Below w.heap.size w wc))
         case first =>
          have H := HC21.out
          clear HC21
          by_cases c22 : t120 = true
          ·subst c22
           have H1 : (if ((rd_T43 l0 x4_1).f0) = (wrap64 (x3_1 + 1)) then (spec_TreeOk.j2 kj2 l0 (wrap64 (x3_1 + 1)) x4_1) else (some false)) = some r := by rw [if_pos rfl] at H; exact H
           clear H
           have H := H1
           clear H1
           by_cases c23 : ((rd_T43 l0 x4_1).f0) = (wrap64 (x3_1 + 1))
           ·rw [if_pos c23] at H
            have c23b0 : (((rd_T43 l0 x4_1).f0) == (wrap64 (x3_1 + 1))) = true := beq_iff_eq.mpr c23
            have c23b1 : (((rd_T43 l0 x4_1).f0) != (wrap64 (x3_1 + 1))) = false := bne_eq_false_iff_eq.mpr c23
            clear c23
            (first | rw [c23b0] | (simp only [i64_w, i32_w]; rw [c23b0]) | skip)
            have H' := Aside0.mk H
            clear H
            have p121 : 0 ≤ (x4_1 : Int) := od_
            have q121 : x4_1 < (l0.length : Int) := od_
            obtain ⟨ad121, e121, hx121_0, hx121_1, hx121_2⟩ := at_T43 HR0.out x4_1 p121 q121
            obtain rfl : ad119 = ad121 := (by injection e121)
            replace hx121_0 := (cb_ HB.out hx121_0 :)
            replace hx121_1 := (cb_ HB.out hx121_1 :)
            replace hx121_2 := (cb_ HB.out hx121_2 :)
            replace p121 := eq_true p121
            replace q121 := eq_true q121
            go_wp2
            go_meet
            case rel => exact ⟨_, (wrap64 (x3_1 + 1)), (si_), H', ⟨by have := HK1.out; have := HJ2.out; first | omega | exact Nat.le_refl _⟩, ⟨bel_⟩⟩
           ·rw [if_neg c23] at H
            have c23b0 : (((rd_T43 l0 x4_1).f0) == (wrap64 (x3_1 + 1))) = false := beq_eq_false_iff_ne.mpr c23
            have c23b1 : (((rd_T43 l0 x4_1).f0) != (wrap64 (x3_1 + 1))) = true := bne_iff_ne.mpr c23
            (first | rw [c23b0] | (simp only [i64_w, i32_w]; rw [c23b0]) | skip)
            obtain rfl := Option.some.inj H
            have p121 : 0 ≤ (x4_1 : Int) := od_
            have q121 : x4_1 < (l0.length : Int) := od_
            obtain ⟨ad121, e121, hx121_0, hx121_1, hx121_2⟩ := at_T43 HR0.out x4_1 p121 q121
            obtain rfl : ad119 = ad121 := (by injection e121)
            replace hx121_0 := (cb_ HB.out hx121_0 :)
            replace hx121_1 := (cb_ HB.out hx121_1 :)
            replace hx121_2 := (cb_ HB.out hx121_2 :)
            replace p121 := eq_true p121
            replace q121 := eq_true q121
            go_wp2
            go_ret
            exact ⟨fi_, bel_⟩
          ·replace c22 := Bool.eq_false_iff.mpr c22
           subst c22
           have H1 : (spec_TreeOk.j2 kj2 l0 x3_1 x4_1) = some r := by rw [if_neg (show ¬ (false = true) by decide)] at H; exact H
           clear H
           have H := H1
           clear H1
           have H' := Aside0.mk H
           clear H
           go_wp2
           go_meet
           case rel => exact ⟨_, (x3_1), (si_), H', ⟨by have := HK1.out; have := HJ2.out; first | omega | exact Nat.le_refl _⟩, ⟨bel_⟩⟩
         case rest =>
          clear HC21
          try clear c1
          try clear p1
          try clear q1
          try clear hx1
          try clear c2
          try clear p2
          try clear c4
          try clear c6
          try clear p6
          try clear c7
          try clear c7b0
          try clear c9
          try clear c10
          try clear p11
          try clear q11
          try clear hx11
          try clear p12
          try clear q12
          try clear hx12
          try clear c17
          try clear c18
          try clear c18b0
          try clear c19
          try clear c19b0
          try clear c22
          try clear c23
          try clear c23b0
          try clear c23b1
          try clear hx115_0
          try clear hx115_1
          try clear hx115_2
          try clear hx117_0
          try clear hx117_1
          try clear hx117_2
          try clear hx118_0
          try clear hx118_1
          try clear hx118_2
          try clear hx119_0
          try clear hx119_1
          try clear hx119_2
          try clear hx121_0
          try clear hx121_1
          try clear hx121_2
          try clear p1
          try clear p11
          try clear p115
          try clear p118
          try clear p119
          try clear p121
          try clear p2
          try clear p6
          try clear q1
          try clear q11
          try clear q115
          try clear q118
          try clear q119
          try clear q121
          obtain ⟨kq, x3_20, rfl, HA, HJ20, HB⟩ := hcut
          cases kq with
          | zero => exact absurd HA.out (by simp [spec_TreeOk.j2])
          | succ kj20 =>
           have H := HA.out
           clear HA
           simp only [spec_TreeOk.j2] at H
           have H' := Aside0.mk H
           clear H
           go_wp2
           go_loopg [5] kj20 (fun kq v5 w' => ∃ (x5_4 : Int), v5 = .int .i64 x5_4 ∧ Aside0 (spec_TreeOk.l1 kq l0 x3_20 x4_1 x5_4 = some r) ∧ Aside0 (kq ≤ kj20) ∧ Aside0 (Below w.heap.size w w'))
           case atStart => exact ⟨(0), (si_), H', ⟨Nat.le_refl _⟩, ⟨bel_⟩⟩
           case round =>
            clear H'
            try clear c1
            try clear p1
            try clear q1
            try clear hx1
            try clear c2
            try clear p2
            try clear c4
            try clear c6
            try clear p6
            try clear c7
            try clear c7b0
            try clear c9
            try clear c10
            try clear p11
            try clear q11
            try clear hx11
            try clear p12
            try clear q12
            try clear hx12
            try clear c17
            try clear c18
            try clear c18b0
            try clear c19
            try clear c19b0
            try clear c22
            try clear c23
            try clear c23b0
            try clear c23b1
            try clear hx115_0
            try clear hx115_1
            try clear hx115_2
            try clear hx117_0
            try clear hx117_1
            try clear hx117_2
            try clear hx118_0
            try clear hx118_1
            try clear hx118_2
            try clear hx119_0
            try clear hx119_1
            try clear hx119_2
            try clear hx121_0
            try clear hx121_1
            try clear hx121_2
            try clear p1
            try clear p11
            try clear p115
            try clear p118
            try clear p119
            try clear p12
            try clear p121
            try clear p2
            try clear p6
            try clear q1
            try clear q11
            try clear q115
            try clear q118
            try clear q119
            try clear q12
            try clear q121
            obtain ⟨x5_4, rfl, HA, HK4, HB⟩ := hrel
            cases gk with
            | zero => exact absurd HA.out (by simp [spec_TreeOk.l1])
            | succ k4 =>
             have H := HA.out
             clear HA
             simp only [spec_TreeOk.l1] at H
             by_cases c24 : x5_4 < x4_1
             ·rw [if_pos c24] at H
              have c24b0 : decide (x5_4 < x4_1) = true := decide_eq_true c24
              clear c24
              by_cases c25 : 0 ≤ x5_4
              ·rw [if_pos c25] at H
               have c25b0 : decide (0 ≤ x5_4) = true := decide_eq_true c25
               clear c25
               by_cases c26 : x5_4 < (l0.length : Int)
               ·rw [if_pos c26] at H
                have c26b0 : decide (x5_4 < (l0.length : Int)) = true := decide_eq_true c26
                clear c26
                by_cases c27 : 0 ≤ x4_1
                ·rw [if_pos c27] at H
                 have c27b0 : decide (0 ≤ x4_1) = true := decide_eq_true c27
                 clear c27
                 by_cases c28 : x4_1 < (l0.length : Int)
                 ·rw [if_pos c28] at H
                  have c28b0 : decide (x4_1 < (l0.length : Int)) = true := decide_eq_true c28
                  clear c28
                  by_cases c29 : ((rd_T43 l0 x5_4).f0) = ((rd_T43 l0 x4_1).f0)
                  ·rw [if_pos c29] at H
                   have c29b0 : (((rd_T43 l0 x5_4).f0) == ((rd_T43 l0 x4_1).f0)) = true := beq_iff_eq.mpr c29
                   have c29b1 : (((rd_T43 l0 x5_4).f0) != ((rd_T43 l0 x4_1).f0)) = false := bne_eq_false_iff_eq.mpr c29
                   clear c29
                   obtain rfl := Option.some.inj H
                   try go_wp2
                   have n0_ := Aside0.mk (below_drew1 HB.out)
                   clear HB
                   have HB := n0_
                   clear n0_
                   have p122 : 0 ≤ (x5_4 : Int) := od_
                   have q122 : x5_4 < (l0.length : Int) := od_
                   obtain ⟨ad122, e122, hx122_0, hx122_1, hx122_2⟩ := at_T43 HR0.out x5_4 p122 q122
                   have hw122_2 := hx122_2
                   have hw122_1 := hx122_1
                   have hw122_0 := hx122_0
                   obtain rfl : ad119 = ad122 := (by injection e122)
                   replace hx122_0 := (cb_ HB.out hx122_0 :)
                   replace hx122_1 := (cb_ HB.out hx122_1 :)
                   replace hx122_2 := (cb_ HB.out hx122_2 :)
                   replace p122 := eq_true p122
                   replace q122 := eq_true q122
                   have p123 : 0 ≤ (x4_1 : Int) := od_
                   have q123 : x4_1 < (l0.length : Int) := od_
                   obtain ⟨ad123, e123, hx123_0, hx123_1, hx123_2⟩ := at_T43 HR0.out x4_1 p123 q123
                   have hw123_2 := hx123_2
                   have hw123_1 := hx123_1
                   have hw123_0 := hx123_0
                   obtain rfl : ad119 = ad123 := (by injection e123)
                   replace hx123_0 := (cb_ HB.out hx123_0 :)
                   replace hx123_1 := (cb_ HB.out hx123_1 :)
                   replace hx123_2 := (cb_ HB.out hx123_2 :)
                   replace p123 := eq_true p123
                   replace q123 := eq_true q123
                   refine start_ (n := 11) (S := fun w' => w'.cell? (ad119.add ((x5_4).toNat * 3)) = some (.int .i64 ((rd_T43 l0 x5_4).f0)) ∧ w'.cell? ⟨(ad119.add ((x5_4).toNat * 3)).block, (ad119.add ((x5_4).toNat * 3)).off + 1, none⟩ = some (.int .i64 ((rd_T43 l0 x5_4).f1)) ∧ w'.cell? ⟨(ad119.add ((x5_4).toNat * 3)).block, (ad119.add ((x5_4).toNat * 3)).off + 2, none⟩ = some (.string ((rd_T43 l0 x5_4).f2)) ∧ w'.cell? (ad119.add ((x4_1).toNat * 3)) = some (.int .i64 ((rd_T43 l0 x4_1).f0)) ∧ w'.cell? ⟨(ad119.add ((x4_1).toNat * 3)).block, (ad119.add ((x4_1).toNat * 3)).off + 1, none⟩ = some (.int .i64 ((rd_T43 l0 x4_1).f1)) ∧ w'.cell? ⟨(ad119.add ((x4_1).toNat * 3)).block, (ad119.add ((x4_1).toNat * 3)).off + 2, none⟩ = some (.string ((rd_T43 l0 x4_1).f2))) (ds := []) #[false, false, false, false, false, false, false, false, false, false, false] (by kernel_rfl) rfl rfl ⟨((cb_ HB.out hw122_0 :)), ((cb_ HB.out hw122_1 :)), ((cb_ HB.out hw122_2 :)), ((cb_ HB.out hw123_0 :)), ((cb_ HB.out hw123_1 :)), ((cb_ HB.out hw123_2 :))⟩ (fun hHeld => ?_); refine with_tabW spec_TreeOk.tab14 spec_TreeOk.bits14 (fun HT_ HW_ => ?_)
                   generalize wr.drew = w30 at HB hx122_0 hx122_1 hx122_2 hx123_0 hx123_1 hx123_2 hHeld ⊢
                   refine pa_ 0 57 ?_
                   refine pa_ 1 58 ?_
                   refine pa_ 2 59 ?_
                   refine pa_ 3 60 ?_
                   refine pa_ 5 62 ?_
                   refine pa_ 6 63 ?_
                   refine pa_ 7 64 ?_
                   refine pa_ 8 65 ?_
                   refine ta6_ 4 61 hHeld ?_
                   refine ta6_ 9 66 hHeld ?_
                   refine pa_ 10 67 ?_
                   refine done_ (done_of HT_.out (by kernel_rfl)) ?_
                   try go_wp2
                   go_ret
                   exact ⟨fi_, bel_⟩
                  ·rw [if_neg c29] at H
                   have c29b0 : (((rd_T43 l0 x5_4).f0) == ((rd_T43 l0 x4_1).f0)) = false := beq_eq_false_iff_ne.mpr c29
                   have c29b1 : (((rd_T43 l0 x5_4).f0) != ((rd_T43 l0 x4_1).f0)) = true := bne_iff_ne.mpr c29
                   have H' := Aside0.mk H
                   clear H
                   try go_wp2
                   have n0_ := Aside0.mk (below_drew1 HB.out)
                   clear HB
                   have HB := n0_
                   clear n0_
                   have p122 : 0 ≤ (x5_4 : Int) := od_
                   have q122 : x5_4 < (l0.length : Int) := od_
                   obtain ⟨ad122, e122, hx122_0, hx122_1, hx122_2⟩ := at_T43 HR0.out x5_4 p122 q122
                   have hw122_2 := hx122_2
                   have hw122_1 := hx122_1
                   have hw122_0 := hx122_0
                   obtain rfl : ad119 = ad122 := (by injection e122)
                   replace hx122_0 := (cb_ HB.out hx122_0 :)
                   replace hx122_1 := (cb_ HB.out hx122_1 :)
                   replace hx122_2 := (cb_ HB.out hx122_2 :)
                   replace p122 := eq_true p122
                   replace q122 := eq_true q122
                   have p123 : 0 ≤ (x4_1 : Int) := od_
                   have q123 : x4_1 < (l0.length : Int) := od_
                   obtain ⟨ad123, e123, hx123_0, hx123_1, hx123_2⟩ := at_T43 HR0.out x4_1 p123 q123
                   have hw123_2 := hx123_2
                   have hw123_1 := hx123_1
                   have hw123_0 := hx123_0
                   obtain rfl : ad119 = ad123 := (by injection e123)
                   replace hx123_0 := (cb_ HB.out hx123_0 :)
                   replace hx123_1 := (cb_ HB.out hx123_1 :)
                   replace hx123_2 := (cb_ HB.out hx123_2 :)
                   replace p123 := eq_true p123
                   replace q123 := eq_true q123
                   refine start_ (n := 11) (S := fun w' => w'.cell? (ad119.add ((x5_4).toNat * 3)) = some (.int .i64 ((rd_T43 l0 x5_4).f0)) ∧ w'.cell? ⟨(ad119.add ((x5_4).toNat * 3)).block, (ad119.add ((x5_4).toNat * 3)).off + 1, none⟩ = some (.int .i64 ((rd_T43 l0 x5_4).f1)) ∧ w'.cell? ⟨(ad119.add ((x5_4).toNat * 3)).block, (ad119.add ((x5_4).toNat * 3)).off + 2, none⟩ = some (.string ((rd_T43 l0 x5_4).f2)) ∧ w'.cell? (ad119.add ((x4_1).toNat * 3)) = some (.int .i64 ((rd_T43 l0 x4_1).f0)) ∧ w'.cell? ⟨(ad119.add ((x4_1).toNat * 3)).block, (ad119.add ((x4_1).toNat * 3)).off + 1, none⟩ = some (.int .i64 ((rd_T43 l0 x4_1).f1)) ∧ w'.cell? ⟨(ad119.add ((x4_1).toNat * 3)).block, (ad119.add ((x4_1).toNat * 3)).off + 2, none⟩ = some (.string ((rd_T43 l0 x4_1).f2))) (ds := []) #[false, false, false, false, false, false, false, false, false, false, false] (by kernel_rfl) rfl rfl ⟨((cb_ HB.out hw122_0 :)), ((cb_ HB.out hw122_1 :)), ((cb_ HB.out hw122_2 :)), ((cb_ HB.out hw123_0 :)), ((cb_ HB.out hw123_1 :)), ((cb_ HB.out hw123_2 :))⟩ (fun hHeld => ?_); refine with_tabW spec_TreeOk.tab14 spec_TreeOk.bits14 (fun HT_ HW_ => ?_)
                   generalize wr.drew = w31 at HB hx122_0 hx122_1 hx122_2 hx123_0 hx123_1 hx123_2 hHeld ⊢
                   refine pa_ 0 57 ?_
                   refine pa_ 1 58 ?_
                   refine pa_ 2 59 ?_
                   refine pa_ 3 60 ?_
                   refine pa_ 5 62 ?_
                   refine pa_ 6 63 ?_
                   refine pa_ 7 64 ?_
                   refine pa_ 8 65 ?_
                   refine ta6_ 4 61 hHeld ?_
                   refine ta6_ 9 66 hHeld ?_
                   refine pa_ 10 67 ?_
                   refine done_ (done_of HT_.out (by kernel_rfl)) ?_
                   try go_wp2
                   go_roundg k4
                   case measure => have := HK1.out; have := HJ2.out; have := HJ20.out; have := HK4.out; omega
                   case rel => exact ⟨(wrap64 (x5_4 + 1)), (si_), H', ⟨by have := HK1.out; have := HJ2.out; have := HJ20.out; have := HK4.out; omega⟩, ⟨bel_⟩⟩
                 ·rw [if_neg c28] at H
                  exact absurd H (by simp)
                ·rw [if_neg c27] at H
                 exact absurd H (by simp)
               ·rw [if_neg c26] at H
                exact absurd H (by simp)
              ·rw [if_neg c25] at H
               exact absurd H (by simp)
             ·rw [if_neg c24] at H
              have c24b0 : decide (x5_4 < x4_1) = false := decide_eq_false c24
              clear c24
              have H' := Aside0.mk H
              clear H
              go_wp2
              go_roundg k4
              case measure => have := HK1.out; have := HJ2.out; have := HJ20.out; have := HK4.out; omega
              case rel => exact ⟨(x3_20), (wrap64 (x4_1 + 1)), (si_), (si_), H', ⟨by have := HK1.out; have := HJ2.out; have := HJ20.out; have := HK4.out; omega⟩, ⟨bel_⟩⟩
        ·rw [if_neg c19] at H
         exact absurd H (by simp)
       ·rw [if_neg c18] at H
        exact absurd H (by simp)
   ·rw [if_neg c2] at H
    have c2b0 : decide (x4_1 < (l0.length : Int)) = false := decide_eq_false c2
    clear c2
    by_cases c32 : x3_1 = 3
    ·rw [if_pos c32] at H
     have c32b0 : (x3_1 == 3) = true := beq_iff_eq.mpr c32
     have c32b1 : (x3_1 != 3) = false := bne_eq_false_iff_eq.mpr c32
     clear c32
     by_cases c33 : 0 < (l0.length : Int)
     ·rw [if_pos c33] at H
      have c33b0 : decide (0 < (l0.length : Int)) = true := decide_eq_true c33
      have c33b1 : decide (0 < l0.length) = true := decide_eq_true (by omega)
      clear c33
      obtain rfl := Option.some.inj H
      have p114 : 0 ≤ (0 : Int) := (by omega)
      have q114 : 0 < (l0.length : Int) := od_
      obtain ⟨ad114, e114, hx114_0, hx114_1, hx114_2⟩ := at_T43 HR0.out 0 p114 q114
      cases e114
      have qi114 : (0 < l0.length) = True := eq_true (by omega)
      (try rw [show ((0 : Int)).toNat = 0 from rfl] at hx114_0)
      (try rw [show 0 * 3 = 0 from rfl] at hx114_0)
      (try rw [Addr.add_zero'] at hx114_0)
      (try rw [show ((0 : Int)).toNat = 0 from rfl] at hx114_1)
      (try rw [show 0 * 3 = 0 from rfl] at hx114_1)
      (try rw [Addr.add_zero'] at hx114_1)
      (try rw [show ((0 : Int)).toNat = 0 from rfl] at hx114_2)
      (try rw [show 0 * 3 = 0 from rfl] at hx114_2)
      (try rw [Addr.add_zero'] at hx114_2)
      replace hx114_0 := (cb_ HB.out hx114_0 :)
      replace hx114_1 := (cb_ HB.out hx114_1 :)
      replace hx114_2 := (cb_ HB.out hx114_2 :)
      replace p114 := eq_true p114
      replace q114 := eq_true q114
      go_wp2
      go_ret
      exact ⟨fi_, bel_⟩
     ·rw [if_neg c33] at H
      exact absurd H (by simp)
    ·rw [if_neg c32] at H
     have c32b0 : (x3_1 == 3) = false := beq_eq_false_iff_ne.mpr c32
     have c32b1 : (x3_1 != 3) = true := bne_iff_ne.mpr c32
     obtain rfl := Option.some.inj H
     go_wp2
     go_ret
     exact ⟨fi_, bel_⟩

def spec_l3Id.f (a0 : Int) : Option (Bool) := (spec_l1Root.f a0).bind fun t124 => (if t124 = true then (some true) else ((spec_l1Made.f a0).bind fun t125 => (some t125)))
set_option maxHeartbeats 8000000 in
set_option maxRecDepth 100000 in
theorem spec_l3Id.calls (a0 : Int) (r : Bool) (w : World) (h : spec_l3Id.f a0 = some r) :
  Calls Tryd.prog 52 #[.int .i64 a0] w fun e w' => e = .returned (.bool r) ∧ Drawn0 w w' := by
 unfold spec_l3Id.f at h
 have H := h
 clear h
 replace H := Option.bind_eq_some_iff.mp H
 obtain ⟨t124, A20, H⟩ := H
 try dsimp only at H
 have A2 := Aside0.mk A20
 clear A20
 by_cases c3 : t124 = true
 ·subst c3
  have H1 : (some true) = some r := by rw [if_pos rfl] at H; exact H
  clear H
  have H := H1
  clear H1
  obtain rfl := Option.some.inj H
  go_enter Tryd.func52, Tryd.ntmps52
  go_wp2_with (first | ((with_reducible refine gate_callee (f := 49) rfl ?_); refine gl_ 4 Tryd.func49 #[.int .i64 a0] ?_; (with_reducible refine (spec_l1Root.calls a0 true _ A2.out).mono ?_); rintro e w' ⟨rfl, ⟨nd, rfl⟩⟩; refine ⟨_, rfl, ?_⟩))
  go_ret
  exact ⟨si_, by repeat (first | exact Drawn0.refl _ | apply Drawn0.step)⟩
 ·replace c3 := Bool.eq_false_iff.mpr c3
  subst c3
  have H1 : ((spec_l1Made.f a0).bind fun t125 => (some t125)) = some r := by rw [if_neg (show ¬ (false = true) by decide)] at H; exact H
  clear H
  have H := H1
  clear H1
  replace H := Option.bind_eq_some_iff.mp H
  obtain ⟨t125, A40, H⟩ := H
  try dsimp only at H
  have A4 := Aside0.mk A40
  clear A40
  obtain rfl := Option.some.inj H
  go_enter Tryd.func52, Tryd.ntmps52
  go_wp2_with (first | ((with_reducible refine gate_callee (f := 49) rfl ?_); refine gl_ 4 Tryd.func49 #[.int .i64 a0] ?_; (with_reducible refine (spec_l1Root.calls a0 false _ A2.out).mono ?_); rintro e w' ⟨rfl, ⟨nd, rfl⟩⟩; refine ⟨_, rfl, ?_⟩) | (go_at_call 50; (with_reducible refine (spec_l1Made.calls a0 t125 _ A4.out).mono ?_); rintro e w' ⟨rfl, ⟨nd, rfl⟩⟩))
  go_ret
  exact ⟨si_, by repeat (first | exact Drawn0.refl _ | apply Drawn0.step)⟩

def spec_OpOk.j0 : Nat → Bool → Int → Int → Int → Int → ByteArray → Option (Bool)
 | 0, _, _, _, _, _, _ => none
 | k + 1, x12, x127000, x127001, x127002, x127003, x127004 => if x12 = true then (some false) else (if x127000 = 1 then ((spec_l3Id.f x127002).bind fun t129 => (if t129 = true then (if x127003 = 0 then (some true) else ((spec_l1Made.f x127003).bind fun t130 => (some t130))) else (some false))) else (if x127000 = 2 then (if x127002 = 0 then (some (x127003 == 0)) else (some false)) else (if x127000 = 3 then ((spec_l3Id.f x127002).bind fun t131 => (if t131 = true then (if x127003 = 0 then (some (x127004.toList == ([] : List UInt8))) else ((spec_l1Made.f x127003).bind fun t132 => (if t132 = true then (some (x127004.toList == ([] : List UInt8))) else (some false)))) else (some false))) else (some false))))
def spec_OpOk.f (k : Nat) (a0_0 : Int) (a0_1 : Int) (a0_2 : Int) (a0_3 : Int) (a0_4 : ByteArray) : Option (Bool) := (spec_l1Made.f a0_1).bind fun t127 => (if t127 = true then ((spec_l1Text.f k a0_4).bind fun t128 => (spec_OpOk.j0 k (!t128) a0_0 a0_1 a0_2 a0_3 a0_4)) else (spec_OpOk.j0 k true a0_0 a0_1 a0_2 a0_3 a0_4))
theorem spec_OpOk.mono_l : ∀ k, (∀ y0 y1 y2 y3 y4 y5, LeO (spec_OpOk.j0 k y0 y1 y2 y3 y4 y5) (spec_OpOk.j0 (k + 1) y0 y1 y2 y3 y4 y5))
 | 0 => fun _ _ _ _ _ _ r h => by simp [spec_OpOk.j0] at h
 | k + 1 => by
  have ih0 := spec_OpOk.mono_l k
  ·intro y0 y1 y2 y3 y4 y5
   unfold spec_OpOk.j0
   repeat' first
   | (with_reducible exact ih0 _ _ _ _ _ _)
   | (with_reducible exact spec_l1Text.mono _ _)
   | (with_reducible exact LeO.refl _)
   | (with_reducible exact LeO.none _)
   | (with_reducible refine LeO.ite ?_ ?_)
   | (with_reducible refine LeO.bind ?_ (fun _ => ?_))
   | exact ih0 _ _ _ _ _ _
   | exact spec_l1Text.mono _ _
   | exact LeO.none _
   | refine LeO.ite ?_ ?_
   | refine LeO.bind ?_ (fun _ => ?_)
theorem spec_OpOk.mono : ∀ a0 a1 a2 a3 a4 k, LeO (spec_OpOk.f k a0 a1 a2 a3 a4) (spec_OpOk.f (k + 1) a0 a1 a2 a3 a4) := by
 intro a0 a1 a2 a3 a4 k
 have ih0 := spec_OpOk.mono_l k
 unfold spec_OpOk.f
 repeat' first
   | (with_reducible exact ih0 _ _ _ _ _ _)
   | (with_reducible exact spec_l1Text.mono _ _)
   | (with_reducible exact LeO.refl _)
   | (with_reducible exact LeO.none _)
   | (with_reducible refine LeO.ite ?_ ?_)
   | (with_reducible refine LeO.bind ?_ (fun _ => ?_))
   | exact ih0 _ _ _ _ _ _
   | exact spec_l1Text.mono _ _
   | exact LeO.none _
   | refine LeO.ite ?_ ?_
   | refine LeO.bind ?_ (fun _ => ?_)
set_option maxHeartbeats 8000000 in
set_option maxRecDepth 100000 in
theorem spec_OpOk.calls (k : Nat) (a0_0 : Int) (a0_1 : Int) (a0_2 : Int) (a0_3 : Int) (a0_4 : ByteArray) (r : Bool) (w : World) (h : spec_OpOk.f k a0_0 a0_1 a0_2 a0_3 a0_4 = some r) :
  Calls Tryd.prog 27 #[.agg #[.int .i64 a0_0, .int .i64 a0_1, .int .i64 a0_2, .int .i64 a0_3, .string a0_4]] w fun e w' => e = .returned (.bool r) ∧ Below w.heap.size w w' := by
 have hu30 := Tryd.underlying30
 have HB := Aside0.mk (Below.refl w.heap.size w)
 unfold spec_OpOk.f at h
 have H := h
 clear h
 have HC2 := Aside0.mk H
 clear H
 go_enter Tryd.func27, Tryd.ntmps27
 go_upto_region 1 with (first | ((with_reducible refine gate_dst (N := 1) rfl ?_); refine bx_ 1 (#[.int .i64 a0_0, .int .i64 a0_1, .int .i64 a0_2, .int .i64 a0_3, .string a0_4]) 30 ?_; intro gb126 hg w3 hbox hb; have n0_ := Aside0.mk (below_step (bel_) hb); have n1_ := Aside0.mk (hbox); have n2_ := Aside0.mk ((by rw [hg]; exact (below_size (bel_)) : w.heap.size ≤ gb126)); have n3_ := Aside0.mk ((by rw [hg]; exact (below_size (bel_)) : w.heap.size ≤ gb126)); clear HB; have HB := n0_; have BK126 := n1_; have GW126 := n2_; have GE126 := n3_; clear n0_ n1_ n2_ n3_; clear hb hbox hg))
 (try simp only [Act.put, List.setIfInBounds_toArray, List.set_cons_zero, List.set_cons_succ])
 go_cut [12] (fun v12 wc => ∃ (kq : Nat) (x12_1 : Bool), v12 = .bool x12_1 ∧ Aside0 (spec_OpOk.j0 kq x12_1 a0_0 a0_1 a0_2 a0_3 a0_4 = some r) ∧ Aside0 (kq ≤ k) ∧ Aside0 (wc.heap[gb126]? = some (.cells #[.int .i64 a0_0, .int .i64 a0_1, .int .i64 a0_2, .int .i64 a0_3, .string a0_4] 30 (0, 0))) ∧ Aside0 (Below w.heap.size w wc))
 case first =>
  have H := HC2.out
  clear HC2
  replace H := Option.bind_eq_some_iff.mp H
  obtain ⟨t127, A40, H⟩ := H
  try dsimp only at H
  have A4 := Aside0.mk A40
  clear A40
  by_cases c5 : t127 = true
  ·subst c5
   have H1 : ((spec_l1Text.f k a0_4).bind fun t128 => (spec_OpOk.j0 k (!t128) a0_0 a0_1 a0_2 a0_3 a0_4)) = some r := by rw [if_pos rfl] at H; exact H
   clear H
   have H := H1
   clear H1
   replace H := Option.bind_eq_some_iff.mp H
   obtain ⟨t128, A60, H⟩ := H
   try dsimp only at H
   have A6 := Aside0.mk A60
   clear A60
   have H' := Aside0.mk H
   clear H
   have hcz7_0 := cz_ BK126.out 0 (.int .i64 a0_0)
   have hcz7_1 := cz_ BK126.out 1 (.int .i64 a0_1)
   have hcz7_2 := cz_ BK126.out 2 (.int .i64 a0_2)
   have hcz7_3 := cz_ BK126.out 3 (.int .i64 a0_3)
   have hcz7_4 := cz_ BK126.out 4 (.string a0_4)
   have hfz7_0 := blk_frozen BK126.out 0
   have hfz7_1 := blk_frozen BK126.out 1
   have hfz7_2 := blk_frozen BK126.out 2
   have hfz7_3 := blk_frozen BK126.out 3
   have hfz7_4 := blk_frozen BK126.out 4
   go_wp2_with (first | ((with_reducible refine gate_callee (f := 50) rfl ?_); refine gl_ 5 Tryd.func50 #[.int .i64 a0_1] ?_; (with_reducible refine (spec_l1Made.calls a0_1 true _ A4.out).mono ?_); rintro e w' ⟨rfl, ⟨nd, rfl⟩⟩; refine ⟨_, rfl, ?_⟩) | (go_at_call 51; (with_reducible refine (spec_l1Text.calls k a0_4 t128 _ A6.out).mono ?_); rintro e w' ⟨rfl, ⟨nd, rfl⟩⟩))
   go_meet
   case rel => exact ⟨_, (!t128), (si_), H', ⟨by first | omega | exact Nat.le_refl _⟩, ⟨by (with_reducible repeat (first | refine blk_drewN ?_ _ | refine blk_drew ?_ | refine blk_alloc ?_ _)); exact BK126.out⟩, ⟨bel_⟩⟩
  ·replace c5 := Bool.eq_false_iff.mpr c5
   subst c5
   have H1 : (spec_OpOk.j0 k true a0_0 a0_1 a0_2 a0_3 a0_4) = some r := by rw [if_neg (show ¬ (false = true) by decide)] at H; exact H
   clear H
   have H := H1
   clear H1
   have H' := Aside0.mk H
   clear H
   have hcz8_0 := cz_ BK126.out 0 (.int .i64 a0_0)
   have hcz8_1 := cz_ BK126.out 1 (.int .i64 a0_1)
   have hcz8_2 := cz_ BK126.out 2 (.int .i64 a0_2)
   have hcz8_3 := cz_ BK126.out 3 (.int .i64 a0_3)
   have hcz8_4 := cz_ BK126.out 4 (.string a0_4)
   have hfz8_0 := blk_frozen BK126.out 0
   have hfz8_1 := blk_frozen BK126.out 1
   have hfz8_2 := blk_frozen BK126.out 2
   have hfz8_3 := blk_frozen BK126.out 3
   have hfz8_4 := blk_frozen BK126.out 4
   go_wp2_with (first | ((with_reducible refine gate_callee (f := 50) rfl ?_); refine gl_ 5 Tryd.func50 #[.int .i64 a0_1] ?_; (with_reducible refine (spec_l1Made.calls a0_1 false _ A4.out).mono ?_); rintro e w' ⟨rfl, ⟨nd, rfl⟩⟩; refine ⟨_, rfl, ?_⟩))
   go_meet
   case rel => exact ⟨_, (true), (si_), H', ⟨by first | omega | exact Nat.le_refl _⟩, ⟨by (with_reducible repeat (first | refine blk_drewN ?_ _ | refine blk_drew ?_ | refine blk_alloc ?_ _)); exact BK126.out⟩, ⟨bel_⟩⟩
 case rest =>
  clear HC2
  try clear c2
  try clear p2
  try clear c5
  try clear hcz7_0
  try clear hcz7_1
  try clear hcz7_2
  try clear hcz7_3
  try clear hcz7_4
  try clear hcz8_0
  try clear hcz8_1
  try clear hcz8_2
  try clear hcz8_3
  try clear hcz8_4
  try clear hfz7_0
  try clear hfz7_1
  try clear hfz7_2
  try clear hfz7_3
  try clear hfz7_4
  try clear hfz8_0
  try clear hfz8_1
  try clear hfz8_2
  try clear hfz8_3
  try clear hfz8_4
  obtain ⟨kq, x12_1, rfl, HA, HJ1, BK126, HB⟩ := hcut
  cases kq with
  | zero => exact absurd HA.out (by simp [spec_OpOk.j0])
  | succ kj1 =>
   have H := HA.out
   clear HA
   simp only [spec_OpOk.j0] at H
   by_cases c9 : x12_1 = true
   ·subst c9
    have H1 : (some false) = some r := by rw [if_pos rfl] at H; exact H
    clear H
    have H := H1
    clear H1
    obtain rfl := Option.some.inj H
    go_wp2
    go_ret
    exact ⟨fi_, bel_⟩
   ·replace c9 := Bool.eq_false_iff.mpr c9
    subst c9
    have H1 : (if a0_0 = 1 then ((spec_l3Id.f a0_2).bind fun t129 => (if t129 = true then (if a0_3 = 0 then (some true) else ((spec_l1Made.f a0_3).bind fun t130 => (some t130))) else (some false))) else (if a0_0 = 2 then (if a0_2 = 0 then (some (a0_3 == 0)) else (some false)) else (if a0_0 = 3 then ((spec_l3Id.f a0_2).bind fun t131 => (if t131 = true then (if a0_3 = 0 then (some (a0_4.toList == ([] : List UInt8))) else ((spec_l1Made.f a0_3).bind fun t132 => (if t132 = true then (some (a0_4.toList == ([] : List UInt8))) else (some false)))) else (some false))) else (some false)))) = some r := by rw [if_neg (show ¬ (false = true) by decide)] at H; exact H
    clear H
    have H := H1
    clear H1
    by_cases c10 : a0_0 = 1
    ·rw [if_pos c10] at H
     have c10b0 : (a0_0 == 1) = true := beq_iff_eq.mpr c10
     have c10b1 : (a0_0 != 1) = false := bne_eq_false_iff_eq.mpr c10
     clear c10
     replace H := Option.bind_eq_some_iff.mp H
     obtain ⟨t129, A110, H⟩ := H
     try dsimp only at H
     have A11 := Aside0.mk A110
     clear A110
     by_cases c12 : t129 = true
     ·subst c12
      have H1 : (if a0_3 = 0 then (some true) else ((spec_l1Made.f a0_3).bind fun t130 => (some t130))) = some r := by rw [if_pos rfl] at H; exact H
      clear H
      have H := H1
      clear H1
      by_cases c13 : a0_3 = 0
      ·rw [if_pos c13] at H
       have c13b0 : (a0_3 == 0) = true := beq_iff_eq.mpr c13
       have c13b1 : (a0_3 != 0) = false := bne_eq_false_iff_eq.mpr c13
       clear c13
       obtain rfl := Option.some.inj H
       have hcz14_0 : wc.cell? ⟨gb126, 0, none⟩ = some (.int .i64 a0_0) := (blk_cell BK126.out 0).trans rfl
       have hcz14_1 : wc.cell? ⟨gb126, 1, none⟩ = some (.int .i64 a0_1) := (blk_cell BK126.out 1).trans rfl
       have hcz14_2 : wc.cell? ⟨gb126, 2, none⟩ = some (.int .i64 a0_2) := (blk_cell BK126.out 2).trans rfl
       have hcz14_3 : wc.cell? ⟨gb126, 3, none⟩ = some (.int .i64 a0_3) := (blk_cell BK126.out 3).trans rfl
       have hcz14_4 : wc.cell? ⟨gb126, 4, none⟩ = some (.string a0_4) := (blk_cell BK126.out 4).trans rfl
       have hfz14_0 := blk_frozen BK126.out 0
       have hfz14_1 := blk_frozen BK126.out 1
       have hfz14_2 := blk_frozen BK126.out 2
       have hfz14_3 := blk_frozen BK126.out 3
       have hfz14_4 := blk_frozen BK126.out 4
       go_wp2_with (first | ((with_reducible refine gate_callee (f := 52) rfl ?_); refine gl_ 19 Tryd.func52 #[.int .i64 a0_2] ?_; (with_reducible refine (spec_l3Id.calls a0_2 true _ A11.out).mono ?_); rintro e w' ⟨rfl, ⟨nd, rfl⟩⟩; refine ⟨_, rfl, ?_⟩))
       go_ret
       exact ⟨fi_, bel_⟩
      ·rw [if_neg c13] at H
       have c13b0 : (a0_3 == 0) = false := beq_eq_false_iff_ne.mpr c13
       have c13b1 : (a0_3 != 0) = true := bne_iff_ne.mpr c13
       replace H := Option.bind_eq_some_iff.mp H
       obtain ⟨t130, A150, H⟩ := H
       try dsimp only at H
       have A15 := Aside0.mk A150
       clear A150
       obtain rfl := Option.some.inj H
       have hcz16_0 : wc.cell? ⟨gb126, 0, none⟩ = some (.int .i64 a0_0) := (blk_cell BK126.out 0).trans rfl
       have hcz16_1 : wc.cell? ⟨gb126, 1, none⟩ = some (.int .i64 a0_1) := (blk_cell BK126.out 1).trans rfl
       have hcz16_2 : wc.cell? ⟨gb126, 2, none⟩ = some (.int .i64 a0_2) := (blk_cell BK126.out 2).trans rfl
       have hcz16_3 : wc.cell? ⟨gb126, 3, none⟩ = some (.int .i64 a0_3) := (blk_cell BK126.out 3).trans rfl
       have hcz16_4 : wc.cell? ⟨gb126, 4, none⟩ = some (.string a0_4) := (blk_cell BK126.out 4).trans rfl
       have hfz16_0 := blk_frozen BK126.out 0
       have hfz16_1 := blk_frozen BK126.out 1
       have hfz16_2 := blk_frozen BK126.out 2
       have hfz16_3 := blk_frozen BK126.out 3
       have hfz16_4 := blk_frozen BK126.out 4
       go_wp2_with (first | ((with_reducible refine gate_callee (f := 52) rfl ?_); refine gl_ 19 Tryd.func52 #[.int .i64 a0_2] ?_; (with_reducible refine (spec_l3Id.calls a0_2 true _ A11.out).mono ?_); rintro e w' ⟨rfl, ⟨nd, rfl⟩⟩; refine ⟨_, rfl, ?_⟩) | (go_at_call 50; (with_reducible refine (spec_l1Made.calls a0_3 t130 _ A15.out).mono ?_); rintro e w' ⟨rfl, ⟨nd, rfl⟩⟩))
       go_ret
       exact ⟨fi_, bel_⟩
     ·replace c12 := Bool.eq_false_iff.mpr c12
      subst c12
      have H1 : (some false) = some r := by rw [if_neg (show ¬ (false = true) by decide)] at H; exact H
      clear H
      have H := H1
      clear H1
      obtain rfl := Option.some.inj H
      have hcz17_0 : wc.cell? ⟨gb126, 0, none⟩ = some (.int .i64 a0_0) := (blk_cell BK126.out 0).trans rfl
      have hcz17_1 : wc.cell? ⟨gb126, 1, none⟩ = some (.int .i64 a0_1) := (blk_cell BK126.out 1).trans rfl
      have hcz17_2 : wc.cell? ⟨gb126, 2, none⟩ = some (.int .i64 a0_2) := (blk_cell BK126.out 2).trans rfl
      have hcz17_3 : wc.cell? ⟨gb126, 3, none⟩ = some (.int .i64 a0_3) := (blk_cell BK126.out 3).trans rfl
      have hcz17_4 : wc.cell? ⟨gb126, 4, none⟩ = some (.string a0_4) := (blk_cell BK126.out 4).trans rfl
      have hfz17_0 := blk_frozen BK126.out 0
      have hfz17_1 := blk_frozen BK126.out 1
      have hfz17_2 := blk_frozen BK126.out 2
      have hfz17_3 := blk_frozen BK126.out 3
      have hfz17_4 := blk_frozen BK126.out 4
      go_wp2_with (first | ((with_reducible refine gate_callee (f := 52) rfl ?_); refine gl_ 19 Tryd.func52 #[.int .i64 a0_2] ?_; (with_reducible refine (spec_l3Id.calls a0_2 false _ A11.out).mono ?_); rintro e w' ⟨rfl, ⟨nd, rfl⟩⟩; refine ⟨_, rfl, ?_⟩))
      go_ret
      exact ⟨fi_, bel_⟩
    ·rw [if_neg c10] at H
     have c10b0 : (a0_0 == 1) = false := beq_eq_false_iff_ne.mpr c10
     have c10b1 : (a0_0 != 1) = true := bne_iff_ne.mpr c10
     by_cases c18 : a0_0 = 2
     ·rw [if_pos c18] at H
      have c18b0 : (a0_0 == 2) = true := beq_iff_eq.mpr c18
      have c18b1 : (a0_0 != 2) = false := bne_eq_false_iff_eq.mpr c18
      clear c18
      by_cases c19 : a0_2 = 0
      ·rw [if_pos c19] at H
       have c19b0 : (a0_2 == 0) = true := beq_iff_eq.mpr c19
       have c19b1 : (a0_2 != 0) = false := bne_eq_false_iff_eq.mpr c19
       clear c19
       obtain rfl := Option.some.inj H
       have hcz20_0 : wc.cell? ⟨gb126, 0, none⟩ = some (.int .i64 a0_0) := (blk_cell BK126.out 0).trans rfl
       have hcz20_1 : wc.cell? ⟨gb126, 1, none⟩ = some (.int .i64 a0_1) := (blk_cell BK126.out 1).trans rfl
       have hcz20_2 : wc.cell? ⟨gb126, 2, none⟩ = some (.int .i64 a0_2) := (blk_cell BK126.out 2).trans rfl
       have hcz20_3 : wc.cell? ⟨gb126, 3, none⟩ = some (.int .i64 a0_3) := (blk_cell BK126.out 3).trans rfl
       have hcz20_4 : wc.cell? ⟨gb126, 4, none⟩ = some (.string a0_4) := (blk_cell BK126.out 4).trans rfl
       have hfz20_0 := blk_frozen BK126.out 0
       have hfz20_1 := blk_frozen BK126.out 1
       have hfz20_2 := blk_frozen BK126.out 2
       have hfz20_3 := blk_frozen BK126.out 3
       have hfz20_4 := blk_frozen BK126.out 4
       go_wp2
       go_ret
       exact ⟨fi_, bel_⟩
      ·rw [if_neg c19] at H
       have c19b0 : (a0_2 == 0) = false := beq_eq_false_iff_ne.mpr c19
       have c19b1 : (a0_2 != 0) = true := bne_iff_ne.mpr c19
       obtain rfl := Option.some.inj H
       have hcz21_0 : wc.cell? ⟨gb126, 0, none⟩ = some (.int .i64 a0_0) := (blk_cell BK126.out 0).trans rfl
       have hcz21_1 : wc.cell? ⟨gb126, 1, none⟩ = some (.int .i64 a0_1) := (blk_cell BK126.out 1).trans rfl
       have hcz21_2 : wc.cell? ⟨gb126, 2, none⟩ = some (.int .i64 a0_2) := (blk_cell BK126.out 2).trans rfl
       have hcz21_3 : wc.cell? ⟨gb126, 3, none⟩ = some (.int .i64 a0_3) := (blk_cell BK126.out 3).trans rfl
       have hcz21_4 : wc.cell? ⟨gb126, 4, none⟩ = some (.string a0_4) := (blk_cell BK126.out 4).trans rfl
       have hfz21_0 := blk_frozen BK126.out 0
       have hfz21_1 := blk_frozen BK126.out 1
       have hfz21_2 := blk_frozen BK126.out 2
       have hfz21_3 := blk_frozen BK126.out 3
       have hfz21_4 := blk_frozen BK126.out 4
       go_wp2
       go_ret
       exact ⟨fi_, bel_⟩
     ·rw [if_neg c18] at H
      have c18b0 : (a0_0 == 2) = false := beq_eq_false_iff_ne.mpr c18
      have c18b1 : (a0_0 != 2) = true := bne_iff_ne.mpr c18
      by_cases c22 : a0_0 = 3
      ·rw [if_pos c22] at H
       have c22b0 : (a0_0 == 3) = true := beq_iff_eq.mpr c22
       have c22b1 : (a0_0 != 3) = false := bne_eq_false_iff_eq.mpr c22
       clear c22
       replace H := Option.bind_eq_some_iff.mp H
       obtain ⟨t131, A230, H⟩ := H
       try dsimp only at H
       have A23 := Aside0.mk A230
       clear A230
       by_cases c24 : t131 = true
       ·subst c24
        have H1 : (if a0_3 = 0 then (some (a0_4.toList == ([] : List UInt8))) else ((spec_l1Made.f a0_3).bind fun t132 => (if t132 = true then (some (a0_4.toList == ([] : List UInt8))) else (some false)))) = some r := by rw [if_pos rfl] at H; exact H
        clear H
        have H := H1
        clear H1
        by_cases c25 : a0_3 = 0
        ·rw [if_pos c25] at H
         have c25b0 : (a0_3 == 0) = true := beq_iff_eq.mpr c25
         have c25b1 : (a0_3 != 0) = false := bne_eq_false_iff_eq.mpr c25
         clear c25
         obtain rfl := Option.some.inj H
         have hcz26_0 : wc.cell? ⟨gb126, 0, none⟩ = some (.int .i64 a0_0) := (blk_cell BK126.out 0).trans rfl
         have hcz26_1 : wc.cell? ⟨gb126, 1, none⟩ = some (.int .i64 a0_1) := (blk_cell BK126.out 1).trans rfl
         have hcz26_2 : wc.cell? ⟨gb126, 2, none⟩ = some (.int .i64 a0_2) := (blk_cell BK126.out 2).trans rfl
         have hcz26_3 : wc.cell? ⟨gb126, 3, none⟩ = some (.int .i64 a0_3) := (blk_cell BK126.out 3).trans rfl
         have hcz26_4 : wc.cell? ⟨gb126, 4, none⟩ = some (.string a0_4) := (blk_cell BK126.out 4).trans rfl
         have hfz26_0 := blk_frozen BK126.out 0
         have hfz26_1 := blk_frozen BK126.out 1
         have hfz26_2 := blk_frozen BK126.out 2
         have hfz26_3 := blk_frozen BK126.out 3
         have hfz26_4 := blk_frozen BK126.out 4
         go_wp2_with (first | ((with_reducible refine gate_callee (f := 52) rfl ?_); refine gl_ 44 Tryd.func52 #[.int .i64 a0_2] ?_; (with_reducible refine (spec_l3Id.calls a0_2 true _ A23.out).mono ?_); rintro e w' ⟨rfl, ⟨nd, rfl⟩⟩; refine ⟨_, rfl, ?_⟩))
         go_ret
         exact ⟨fi_, bel_⟩
        ·rw [if_neg c25] at H
         have c25b0 : (a0_3 == 0) = false := beq_eq_false_iff_ne.mpr c25
         have c25b1 : (a0_3 != 0) = true := bne_iff_ne.mpr c25
         replace H := Option.bind_eq_some_iff.mp H
         obtain ⟨t132, A270, H⟩ := H
         try dsimp only at H
         have A27 := Aside0.mk A270
         clear A270
         by_cases c28 : t132 = true
         ·subst c28
          have H1 : (some (a0_4.toList == ([] : List UInt8))) = some r := by rw [if_pos rfl] at H; exact H
          clear H
          have H := H1
          clear H1
          obtain rfl := Option.some.inj H
          have hcz29_0 : wc.cell? ⟨gb126, 0, none⟩ = some (.int .i64 a0_0) := (blk_cell BK126.out 0).trans rfl
          have hcz29_1 : wc.cell? ⟨gb126, 1, none⟩ = some (.int .i64 a0_1) := (blk_cell BK126.out 1).trans rfl
          have hcz29_2 : wc.cell? ⟨gb126, 2, none⟩ = some (.int .i64 a0_2) := (blk_cell BK126.out 2).trans rfl
          have hcz29_3 : wc.cell? ⟨gb126, 3, none⟩ = some (.int .i64 a0_3) := (blk_cell BK126.out 3).trans rfl
          have hcz29_4 : wc.cell? ⟨gb126, 4, none⟩ = some (.string a0_4) := (blk_cell BK126.out 4).trans rfl
          have hfz29_0 := blk_frozen BK126.out 0
          have hfz29_1 := blk_frozen BK126.out 1
          have hfz29_2 := blk_frozen BK126.out 2
          have hfz29_3 := blk_frozen BK126.out 3
          have hfz29_4 := blk_frozen BK126.out 4
          go_wp2_with (first | ((with_reducible refine gate_callee (f := 52) rfl ?_); refine gl_ 44 Tryd.func52 #[.int .i64 a0_2] ?_; (with_reducible refine (spec_l3Id.calls a0_2 true _ A23.out).mono ?_); rintro e w' ⟨rfl, ⟨nd, rfl⟩⟩; refine ⟨_, rfl, ?_⟩) | (go_at_call 50; (with_reducible refine (spec_l1Made.calls a0_3 true _ A27.out).mono ?_); rintro e w' ⟨rfl, ⟨nd, rfl⟩⟩))
          go_ret
          exact ⟨fi_, bel_⟩
         ·replace c28 := Bool.eq_false_iff.mpr c28
          subst c28
          have H1 : (some false) = some r := by rw [if_neg (show ¬ (false = true) by decide)] at H; exact H
          clear H
          have H := H1
          clear H1
          obtain rfl := Option.some.inj H
          have hcz30_0 : wc.cell? ⟨gb126, 0, none⟩ = some (.int .i64 a0_0) := (blk_cell BK126.out 0).trans rfl
          have hcz30_1 : wc.cell? ⟨gb126, 1, none⟩ = some (.int .i64 a0_1) := (blk_cell BK126.out 1).trans rfl
          have hcz30_2 : wc.cell? ⟨gb126, 2, none⟩ = some (.int .i64 a0_2) := (blk_cell BK126.out 2).trans rfl
          have hcz30_3 : wc.cell? ⟨gb126, 3, none⟩ = some (.int .i64 a0_3) := (blk_cell BK126.out 3).trans rfl
          have hcz30_4 : wc.cell? ⟨gb126, 4, none⟩ = some (.string a0_4) := (blk_cell BK126.out 4).trans rfl
          have hfz30_0 := blk_frozen BK126.out 0
          have hfz30_1 := blk_frozen BK126.out 1
          have hfz30_2 := blk_frozen BK126.out 2
          have hfz30_3 := blk_frozen BK126.out 3
          have hfz30_4 := blk_frozen BK126.out 4
          go_wp2_with (first | ((with_reducible refine gate_callee (f := 52) rfl ?_); refine gl_ 44 Tryd.func52 #[.int .i64 a0_2] ?_; (with_reducible refine (spec_l3Id.calls a0_2 true _ A23.out).mono ?_); rintro e w' ⟨rfl, ⟨nd, rfl⟩⟩; refine ⟨_, rfl, ?_⟩) | (go_at_call 50; (with_reducible refine (spec_l1Made.calls a0_3 false _ A27.out).mono ?_); rintro e w' ⟨rfl, ⟨nd, rfl⟩⟩))
          go_ret
          exact ⟨fi_, bel_⟩
       ·replace c24 := Bool.eq_false_iff.mpr c24
        subst c24
        have H1 : (some false) = some r := by rw [if_neg (show ¬ (false = true) by decide)] at H; exact H
        clear H
        have H := H1
        clear H1
        obtain rfl := Option.some.inj H
        have hcz31_0 : wc.cell? ⟨gb126, 0, none⟩ = some (.int .i64 a0_0) := (blk_cell BK126.out 0).trans rfl
        have hcz31_1 : wc.cell? ⟨gb126, 1, none⟩ = some (.int .i64 a0_1) := (blk_cell BK126.out 1).trans rfl
        have hcz31_2 : wc.cell? ⟨gb126, 2, none⟩ = some (.int .i64 a0_2) := (blk_cell BK126.out 2).trans rfl
        have hcz31_3 : wc.cell? ⟨gb126, 3, none⟩ = some (.int .i64 a0_3) := (blk_cell BK126.out 3).trans rfl
        have hcz31_4 : wc.cell? ⟨gb126, 4, none⟩ = some (.string a0_4) := (blk_cell BK126.out 4).trans rfl
        have hfz31_0 := blk_frozen BK126.out 0
        have hfz31_1 := blk_frozen BK126.out 1
        have hfz31_2 := blk_frozen BK126.out 2
        have hfz31_3 := blk_frozen BK126.out 3
        have hfz31_4 := blk_frozen BK126.out 4
        go_wp2_with (first | ((with_reducible refine gate_callee (f := 52) rfl ?_); refine gl_ 44 Tryd.func52 #[.int .i64 a0_2] ?_; (with_reducible refine (spec_l3Id.calls a0_2 false _ A23.out).mono ?_); rintro e w' ⟨rfl, ⟨nd, rfl⟩⟩; refine ⟨_, rfl, ?_⟩))
        go_ret
        exact ⟨fi_, bel_⟩
      ·rw [if_neg c22] at H
       have c22b0 : (a0_0 == 3) = false := beq_eq_false_iff_ne.mpr c22
       have c22b1 : (a0_0 != 3) = true := bne_iff_ne.mpr c22
       obtain rfl := Option.some.inj H
       have hcz32_0 : wc.cell? ⟨gb126, 0, none⟩ = some (.int .i64 a0_0) := (blk_cell BK126.out 0).trans rfl
       have hcz32_1 : wc.cell? ⟨gb126, 1, none⟩ = some (.int .i64 a0_1) := (blk_cell BK126.out 1).trans rfl
       have hcz32_2 : wc.cell? ⟨gb126, 2, none⟩ = some (.int .i64 a0_2) := (blk_cell BK126.out 2).trans rfl
       have hcz32_3 : wc.cell? ⟨gb126, 3, none⟩ = some (.int .i64 a0_3) := (blk_cell BK126.out 3).trans rfl
       have hcz32_4 : wc.cell? ⟨gb126, 4, none⟩ = some (.string a0_4) := (blk_cell BK126.out 4).trans rfl
       have hfz32_0 := blk_frozen BK126.out 0
       have hfz32_1 := blk_frozen BK126.out 1
       have hfz32_2 := blk_frozen BK126.out 2
       have hfz32_3 := blk_frozen BK126.out 3
       have hfz32_4 := blk_frozen BK126.out 4
       go_wp2
       go_ret
       exact ⟨fi_, bel_⟩

def spec_l2At.l0 : Nat → List (S43) → Int → Int → Option (Int)
 | 0, _, _, _ => none
 | k + 1, x0, x1, x5 => if x5 < (x0.length : Int) then (if 0 ≤ x5 then (if ((rd_T43 x0 x5).f0) = x1 then (some x5) else (spec_l2At.l0 k x0 x1 (wrap64 (x5 + 1)))) else (none)) else (some (-1))
def spec_l2At.f (k : Nat) (l0 : List (S43)) (a1 : Int) : Option (Int) := spec_l2At.l0 k l0 a1 0
theorem spec_l2At.mono_l : ∀ k, (∀ y0 y1 y2, LeO (spec_l2At.l0 k y0 y1 y2) (spec_l2At.l0 (k + 1) y0 y1 y2))
 | 0 => fun _ _ _ r h => by simp [spec_l2At.l0] at h
 | k + 1 => by
  have ih0 := spec_l2At.mono_l k
  ·intro y0 y1 y2
   unfold spec_l2At.l0
   repeat' first
   | (with_reducible exact ih0 _ _ _)
   | (with_reducible exact LeO.refl _)
   | (with_reducible exact LeO.none _)
   | (with_reducible refine LeO.ite ?_ ?_)
   | (with_reducible refine LeO.bind ?_ (fun _ => ?_))
   | exact ih0 _ _ _
   | exact LeO.none _
   | refine LeO.ite ?_ ?_
   | refine LeO.bind ?_ (fun _ => ?_)
theorem spec_l2At.mono : ∀ a0 a1 k, LeO (spec_l2At.f k a0 a1) (spec_l2At.f (k + 1) a0 a1) := by
 intro a0 a1 k
 have ih0 := spec_l2At.mono_l k
 unfold spec_l2At.f
 repeat' first
   | (with_reducible exact ih0 _ _ _)
   | (with_reducible exact LeO.refl _)
   | (with_reducible exact LeO.none _)
   | (with_reducible refine LeO.ite ?_ ?_)
   | (with_reducible refine LeO.bind ?_ (fun _ => ?_))
   | exact ih0 _ _ _
   | exact LeO.none _
   | refine LeO.ite ?_ ?_
   | refine LeO.bind ?_ (fun _ => ?_)
set_option maxHeartbeats 8000000 in
set_option maxRecDepth 100000 in
theorem spec_l2At.calls (k : Nat) (A0 : Option Addr) (c0 : Nat) (l0 : List (S43)) (a1 : Int) (r : Int) (w : World) (hr0 : Kd.C k43 w A0 l0.length l0) (hc0 : l0.length ≤ c0) (h : spec_l2At.f k l0 a1 = some r) :
  Calls Tryd.prog 60 #[.slice A0 l0.length c0, .int .i64 a1] w fun e w' => e = .returned (.int .i64 r) ∧ Drawn0 w w' := by
 have HR0 := Aside0.mk hr0
 have HC0 := Aside0.mk hc0
 clear hr0 hc0
 unfold spec_l2At.f at h
 have H := h
 clear h
 have H' := Aside0.mk H
 clear H
 go_enter Tryd.func60, Tryd.ntmps60
 go_wp2
 go_loopg [5] k (fun kq v5 w' => ∃ (x5_1 : Int), v5 = .int .i64 x5_1 ∧ Aside0 (spec_l2At.l0 kq l0 a1 x5_1 = some r) ∧ Aside0 (kq ≤ k) ∧ Drawn0 w w')
 case atStart => exact ⟨(0), (si_), H', ⟨Nat.le_refl _⟩, by repeat (first | exact Drawn0.refl _ | apply Drawn0.step)⟩
 case round =>
  clear H'
  try clear p2
  obtain ⟨x5_1, rfl, HA, HK1, ⟨m1, rfl⟩⟩ := hrel
  cases gk with
  | zero => exact absurd HA.out (by simp [spec_l2At.l0])
  | succ k1 =>
   have H := HA.out
   clear HA
   simp only [spec_l2At.l0] at H
   by_cases c3 : x5_1 < (l0.length : Int)
   ·rw [if_pos c3] at H
    have c3b0 : decide (x5_1 < (l0.length : Int)) = true := decide_eq_true c3
    clear c3
    by_cases c4 : 0 ≤ x5_1
    ·rw [if_pos c4] at H
     have c4b0 : decide (0 ≤ x5_1) = true := decide_eq_true c4
     clear c4
     by_cases c5 : ((rd_T43 l0 x5_1).f0) = a1
     ·rw [if_pos c5] at H
      have c5b0 : (((rd_T43 l0 x5_1).f0) == a1) = true := beq_iff_eq.mpr c5
      have c5b1 : (((rd_T43 l0 x5_1).f0) != a1) = false := bne_eq_false_iff_eq.mpr c5
      clear c5
      obtain rfl := Option.some.inj H
      have p133 : 0 ≤ (x5_1 : Int) := od_
      have q133 : x5_1 < (l0.length : Int) := od_
      obtain ⟨ad133, e133, hx133_0, hx133_1, hx133_2⟩ := at_T43 HR0.out x5_1 p133 q133
      cases e133
      replace p133 := eq_true p133
      replace q133 := eq_true q133
      go_wp2
      go_ret
      exact ⟨si_, by repeat (first | exact Drawn0.refl _ | apply Drawn0.step)⟩
     ·rw [if_neg c5] at H
      have c5b0 : (((rd_T43 l0 x5_1).f0) == a1) = false := beq_eq_false_iff_ne.mpr c5
      have c5b1 : (((rd_T43 l0 x5_1).f0) != a1) = true := bne_iff_ne.mpr c5
      have H' := Aside0.mk H
      clear H
      have p133 : 0 ≤ (x5_1 : Int) := od_
      have q133 : x5_1 < (l0.length : Int) := od_
      obtain ⟨ad133, e133, hx133_0, hx133_1, hx133_2⟩ := at_T43 HR0.out x5_1 p133 q133
      cases e133
      replace p133 := eq_true p133
      replace q133 := eq_true q133
      go_wp2
      go_roundg k1
      case measure => have := HK1.out; omega
      case rel => exact ⟨(wrap64 (x5_1 + 1)), (si_), H', ⟨by have := HK1.out; omega⟩, by repeat (first | exact Drawn0.refl _ | apply Drawn0.step)⟩
    ·rw [if_neg c4] at H
     exact absurd H (by simp)
   ·rw [if_neg c3] at H
    have c3b0 : decide (x5_1 < (l0.length : Int)) = false := decide_eq_false c3
    clear c3
    obtain rfl := Option.some.inj H
    go_wp2
    go_ret
    exact ⟨si_, by repeat (first | exact Drawn0.refl _ | apply Drawn0.step)⟩

def spec_l2End.l0 : Nat → List (S43) → Int → Int → Option (Int)
 | 0, _, _, _ => none
 | k + 1, x0, x1, x5 => if x5 < (x0.length : Int) then (if 0 ≤ x5 then (if 0 ≤ x1 then (if x1 < (x0.length : Int) then (if ((rd_T43 x0 x5).f1) > ((rd_T43 x0 x1).f1) then (spec_l2End.l0 k x0 x1 (wrap64 (x5 + 1))) else (some x5)) else (none)) else (none)) else (none)) else (some x5)
def spec_l2End.f (k : Nat) (l0 : List (S43)) (a1 : Int) : Option (Int) := spec_l2End.l0 k l0 a1 (wrap64 (a1 + 1))
theorem spec_l2End.mono_l : ∀ k, (∀ y0 y1 y2, LeO (spec_l2End.l0 k y0 y1 y2) (spec_l2End.l0 (k + 1) y0 y1 y2))
 | 0 => fun _ _ _ r h => by simp [spec_l2End.l0] at h
 | k + 1 => by
  have ih0 := spec_l2End.mono_l k
  ·intro y0 y1 y2
   unfold spec_l2End.l0
   repeat' first
   | (with_reducible exact ih0 _ _ _)
   | (with_reducible exact LeO.refl _)
   | (with_reducible exact LeO.none _)
   | (with_reducible refine LeO.ite ?_ ?_)
   | (with_reducible refine LeO.bind ?_ (fun _ => ?_))
   | exact ih0 _ _ _
   | exact LeO.none _
   | refine LeO.ite ?_ ?_
   | refine LeO.bind ?_ (fun _ => ?_)
theorem spec_l2End.mono : ∀ a0 a1 k, LeO (spec_l2End.f k a0 a1) (spec_l2End.f (k + 1) a0 a1) := by
 intro a0 a1 k
 have ih0 := spec_l2End.mono_l k
 unfold spec_l2End.f
 repeat' first
   | (with_reducible exact ih0 _ _ _)
   | (with_reducible exact LeO.refl _)
   | (with_reducible exact LeO.none _)
   | (with_reducible refine LeO.ite ?_ ?_)
   | (with_reducible refine LeO.bind ?_ (fun _ => ?_))
   | exact ih0 _ _ _
   | exact LeO.none _
   | refine LeO.ite ?_ ?_
   | refine LeO.bind ?_ (fun _ => ?_)
set_option maxHeartbeats 8000000 in
set_option maxRecDepth 100000 in
theorem spec_l2End.calls (k : Nat) (A0 : Option Addr) (c0 : Nat) (l0 : List (S43)) (a1 : Int) (r : Int) (w : World) (hr0 : Kd.C k43 w A0 l0.length l0) (hc0 : l0.length ≤ c0) (h : spec_l2End.f k l0 a1 = some r) :
  Calls Tryd.prog 63 #[.slice A0 l0.length c0, .int .i64 a1] w fun e w' => e = .returned (.int .i64 r) ∧ Drawn0 w w' := by
 have HR0 := Aside0.mk hr0
 have HC0 := Aside0.mk hc0
 clear hr0 hc0
 unfold spec_l2End.f at h
 have H := h
 clear h
 have H' := Aside0.mk H
 clear H
 go_enter Tryd.func63, Tryd.ntmps63
 go_wp2
 repeat (go_quiet (fail); try go_wp2)
 go_loopg [5] k (fun kq v5 w' => ∃ (x5_1 : Int), v5 = .int .i64 x5_1 ∧ Aside0 (spec_l2End.l0 kq l0 a1 x5_1 = some r) ∧ Aside0 (kq ≤ k) ∧ Drawn0 w w')
 case atStart => exact ⟨(wrap64 (a1 + 1)), (si_), H', ⟨Nat.le_refl _⟩, by repeat (first | exact Drawn0.refl _ | apply Drawn0.step)⟩
 case round =>
  clear H'
  try clear p2
  obtain ⟨x5_1, rfl, HA, HK1, ⟨m1, rfl⟩⟩ := hrel
  cases gk with
  | zero => exact absurd HA.out (by simp [spec_l2End.l0])
  | succ k1 =>
   have H := HA.out
   clear HA
   simp only [spec_l2End.l0] at H
   by_cases c3 : x5_1 < (l0.length : Int)
   ·rw [if_pos c3] at H
    have c3b0 : decide (x5_1 < (l0.length : Int)) = true := decide_eq_true c3
    clear c3
    by_cases c4 : 0 ≤ x5_1
    ·rw [if_pos c4] at H
     have c4b0 : decide (0 ≤ x5_1) = true := decide_eq_true c4
     clear c4
     by_cases c5 : 0 ≤ a1
     ·rw [if_pos c5] at H
      have c5b0 : decide (0 ≤ a1) = true := decide_eq_true c5
      clear c5
      by_cases c6 : a1 < (l0.length : Int)
      ·rw [if_pos c6] at H
       have c6b0 : decide (a1 < (l0.length : Int)) = true := decide_eq_true c6
       clear c6
       by_cases c7 : ((rd_T43 l0 x5_1).f1) > ((rd_T43 l0 a1).f1)
       ·rw [if_pos c7] at H
        have c7b0 : decide (((rd_T43 l0 a1).f1) < ((rd_T43 l0 x5_1).f1)) = true := decide_eq_true c7
        clear c7
        have H' := Aside0.mk H
        clear H
        have p134 : 0 ≤ (x5_1 : Int) := od_
        have q134 : x5_1 < (l0.length : Int) := od_
        obtain ⟨ad134, e134, hx134_0, hx134_1, hx134_2⟩ := at_T43 HR0.out x5_1 p134 q134
        cases e134
        replace p134 := eq_true p134
        replace q134 := eq_true q134
        have p135 : 0 ≤ (a1 : Int) := od_
        have q135 : a1 < (l0.length : Int) := od_
        obtain ⟨ad135, e135, hx135_0, hx135_1, hx135_2⟩ := at_T43 HR0.out a1 p135 q135
        obtain rfl : ad134 = ad135 := (by injection e135)
        replace p135 := eq_true p135
        replace q135 := eq_true q135
        go_wp2
        repeat (go_quiet (fail); try go_wp2)
        go_roundg k1
        case measure => have := HK1.out; omega
        case rel => exact ⟨(wrap64 (x5_1 + 1)), (si_), H', ⟨by have := HK1.out; omega⟩, by repeat (first | exact Drawn0.refl _ | apply Drawn0.step)⟩
       ·rw [if_neg c7] at H
        have c7b0 : decide (((rd_T43 l0 a1).f1) < ((rd_T43 l0 x5_1).f1)) = false := decide_eq_false c7
        clear c7
        obtain rfl := Option.some.inj H
        have p134 : 0 ≤ (x5_1 : Int) := od_
        have q134 : x5_1 < (l0.length : Int) := od_
        obtain ⟨ad134, e134, hx134_0, hx134_1, hx134_2⟩ := at_T43 HR0.out x5_1 p134 q134
        cases e134
        replace p134 := eq_true p134
        replace q134 := eq_true q134
        have p135 : 0 ≤ (a1 : Int) := od_
        have q135 : a1 < (l0.length : Int) := od_
        obtain ⟨ad135, e135, hx135_0, hx135_1, hx135_2⟩ := at_T43 HR0.out a1 p135 q135
        obtain rfl : ad134 = ad135 := (by injection e135)
        replace p135 := eq_true p135
        replace q135 := eq_true q135
        go_wp2
        repeat (go_quiet (fail); try go_wp2)
        go_ret
        exact ⟨si_, by repeat (first | exact Drawn0.refl _ | apply Drawn0.step)⟩
      ·rw [if_neg c6] at H
       exact absurd H (by simp)
     ·rw [if_neg c5] at H
      exact absurd H (by simp)
    ·rw [if_neg c4] at H
     exact absurd H (by simp)
   ·rw [if_neg c3] at H
    have c3b0 : decide (x5_1 < (l0.length : Int)) = false := decide_eq_false c3
    clear c3
    obtain rfl := Option.some.inj H
    go_wp2
    repeat (go_quiet (fail); try go_wp2)
    go_ret
    exact ⟨si_, by repeat (first | exact Drawn0.refl _ | apply Drawn0.step)⟩

def spec_l2Kids.l0 : Nat → List (S43) → List Int → Int → Int → Option (List Int)
 | 0, _, _, _, _ => none
 | k + 1, x0, x5, x6, x7 => (spec_l2End.f k x0 x6).bind fun t140 => (if x7 < t140 then (if 0 ≤ x7 then (if x7 < (x0.length : Int) then (if 0 ≤ x6 then (if x6 < (x0.length : Int) then (if ((rd_T43 x0 x7).f1) = (wrap64 (((rd_T43 x0 x6).f1) + 1)) then (if x5.length < 17592186044416 then (spec_l2Kids.l0 k x0 (x5 ++ [(rd_T43 x0 x7).f0]) x6 (wrap64 (x7 + 1))) else (none)) else (spec_l2Kids.l0 k x0 x5 x6 (wrap64 (x7 + 1)))) else (none)) else (none)) else (none)) else (none)) else (some x5))
def spec_l2Kids.f (k : Nat) (l0 : List (S43)) (a1 : Int) : Option (List Int) := (some (([] : List Int) : List Int)).bind fun y136 => ((spec_l2At.f k l0 a1).bind fun t139 => (if t139 < 0 then (some y136) else (spec_l2Kids.l0 k l0 y136 t139 (wrap64 (t139 + 1)))))
theorem spec_l2Kids.mono_l : ∀ k, (∀ y0 y1 y2 y3, LeO (spec_l2Kids.l0 k y0 y1 y2 y3) (spec_l2Kids.l0 (k + 1) y0 y1 y2 y3))
 | 0 => fun _ _ _ _ r h => by simp [spec_l2Kids.l0] at h
 | k + 1 => by
  have ih0 := spec_l2Kids.mono_l k
  ·intro y0 y1 y2 y3
   unfold spec_l2Kids.l0
   repeat' first
   | (with_reducible exact ih0 _ _ _ _)
   | (with_reducible exact spec_l2At.mono _ _ _)
   | (with_reducible exact spec_l2End.mono _ _ _)
   | (with_reducible exact LeO.refl _)
   | (with_reducible exact LeO.none _)
   | (with_reducible refine LeO.ite ?_ ?_)
   | (with_reducible refine LeO.bind ?_ (fun _ => ?_))
   | exact ih0 _ _ _ _
   | exact spec_l2At.mono _ _ _
   | exact spec_l2End.mono _ _ _
   | exact LeO.none _
   | refine LeO.ite ?_ ?_
   | refine LeO.bind ?_ (fun _ => ?_)
theorem spec_l2Kids.mono : ∀ a0 a1 k, LeO (spec_l2Kids.f k a0 a1) (spec_l2Kids.f (k + 1) a0 a1) := by
 intro a0 a1 k
 have ih0 := spec_l2Kids.mono_l k
 unfold spec_l2Kids.f
 repeat' first
   | (with_reducible exact ih0 _ _ _ _)
   | (with_reducible exact spec_l2At.mono _ _ _)
   | (with_reducible exact spec_l2End.mono _ _ _)
   | (with_reducible exact LeO.refl _)
   | (with_reducible exact LeO.none _)
   | (with_reducible refine LeO.ite ?_ ?_)
   | (with_reducible refine LeO.bind ?_ (fun _ => ?_))
   | exact ih0 _ _ _ _
   | exact spec_l2At.mono _ _ _
   | exact spec_l2End.mono _ _ _
   | exact LeO.none _
   | refine LeO.ite ?_ ?_
   | refine LeO.bind ?_ (fun _ => ?_)
set_option maxHeartbeats 8000000 in
set_option maxRecDepth 100000 in
theorem spec_l2Kids.calls (k : Nat) (A0 : Option Addr) (c0 : Nat) (l0 : List (S43)) (a1 : Int) (r : List Int) (w : World) (hr0 : Kd.C k43 w A0 l0.length l0) (hc0 : l0.length ≤ c0) (h : spec_l2Kids.f k l0 a1 = some r) :
  Calls Tryd.prog 73 #[.slice A0 l0.length c0, .int .i64 a1] w fun e w' => ∃ v0_ : Value, e = .returned (v0_) ∧ Kd.R (Kd.int .i64) 3 w' w.heap.size (fun _ => True) v0_ r ∧ Below w.heap.size w w' := by
 have HR0 := Aside0.mk hr0
 have HC0 := Aside0.mk hc0
 clear hr0 hc0
 have HB := Aside0.mk (Below.refl w.heap.size w)
 unfold spec_l2Kids.f at h
 have H := h
 clear h
 obtain ⟨y136, hy136⟩ : ∃ y_ : List Int, y_ = (([] : List Int)) := ⟨_, rfl⟩
 replace H : ((spec_l2At.f k l0 a1).bind fun t139 => (if t139 < 0 then (some y136) else (spec_l2Kids.l0 k l0 y136 t139 (wrap64 (t139 + 1))))) = some r := by first | (rw [hy136]; with_reducible exact H) | (have H2_ := (Option.bind_some _ _).symm.trans H; rw [hy136]; with_reducible exact H2_) | (have H2_ := (Option.bind_some _ _).symm.trans H; with_reducible exact H2_) | with_reducible exact H | (rw [hy136]; exact H) | exact H
 have Ny136 := Aside0.mk hy136
 clear hy136
 replace H := Option.bind_eq_some_iff.mp H
 obtain ⟨t139, A30, H⟩ := H
 try dsimp only at H
 have A3 := Aside0.mk A30
 clear A30
 by_cases c4 : t139 < 0
 ·rw [if_pos c4] at H
  have c4b0 : decide (t139 < 0) = true := decide_eq_true c4
  clear c4
  obtain rfl := Option.some.inj H
  go_enter Tryd.func73, Tryd.ntmps73
  go_wp2_with (first | ((with_reducible refine gate_dst (N := 8) rfl ?_); refine Kd.R_lit (Kd.int .i64) _ 3 ?hg (N := 8) ?hd (xs := ([] : List Int)) (inner := []) (ok := fun _ => True) (okp := fun _ => True) ?hr ?hp (fun _ hk => hk) trivial (Below.refl _ _) (Nat.le_refl _) (by simp) ?_; (case hd => rfl); (case hg => rfl); (case hr => first | (go_simp; done) | (go_simp; rfl)); (case hp => exact (Reps.none _ _)); intro v137 w5 ho6 hb hg_ hnew_; clear hg_ hnew_; (first | rw [← Ny136.out] at ho6 | (simp only [Int.reduceToNat] at ho6; rw [← Ny136.out] at ho6)); have HO138 := Aside0.mk (Kd.R_lower ho6 (below_size (bel_))); replace HB := Aside0.mk (below_step (bel_) hb); clear hb ho6) | (go_at_call 60; (with_reducible refine (spec_l2At.calls k _ _ l0 a1 t139 _ ?side1 ?side2 A3.out).mono ?_); (case side1 => exact cp_ HR0.out); (case side2 => exact HC0.out); rintro e w' ⟨rfl, ⟨nd, rfl⟩⟩; (try first | exact ⟨rfl, _, World.drewN_drewN _ _ _⟩ | exact ⟨rfl, _, Eq.trans (World.drewN_drewN _ _ _) (congrArg (World.drewN _) (Nat.add_assoc _ _ _))⟩)))
  repeat (go_quiet (first | ((with_reducible refine gate_dst (N := 8) rfl ?_); refine Kd.R_lit (Kd.int .i64) _ 3 ?hg (N := 8) ?hd (xs := ([] : List Int)) (inner := []) (ok := fun _ => True) (okp := fun _ => True) ?hr ?hp (fun _ hk => hk) trivial (Below.refl _ _) (Nat.le_refl _) (by simp) ?_; (case hd => rfl); (case hg => rfl); (case hr => first | (go_simp; done) | (go_simp; rfl)); (case hp => exact (Reps.none _ _)); intro v137 w5 ho6 hb hg_ hnew_; clear hg_ hnew_; (first | rw [← Ny136.out] at ho6 | (simp only [Int.reduceToNat] at ho6; rw [← Ny136.out] at ho6)); have HO138 := Aside0.mk (Kd.R_lower ho6 (below_size (bel_))); replace HB := Aside0.mk (below_step (bel_) hb); clear hb ho6) | (go_at_call 60; (with_reducible refine (spec_l2At.calls k _ _ l0 a1 t139 _ ?side1 ?side2 A3.out).mono ?_); (case side1 => exact cp_ HR0.out); (case side2 => exact HC0.out); rintro e w' ⟨rfl, ⟨nd, rfl⟩⟩; (try first | exact ⟨rfl, _, World.drewN_drewN _ _ _⟩ | exact ⟨rfl, _, Eq.trans (World.drewN_drewN _ _ _) (congrArg (World.drewN _) (Nat.add_assoc _ _ _))⟩))); try go_wp2_with (first | ((with_reducible refine gate_dst (N := 8) rfl ?_); refine Kd.R_lit (Kd.int .i64) _ 3 ?hg (N := 8) ?hd (xs := ([] : List Int)) (inner := []) (ok := fun _ => True) (okp := fun _ => True) ?hr ?hp (fun _ hk => hk) trivial (Below.refl _ _) (Nat.le_refl _) (by simp) ?_; (case hd => rfl); (case hg => rfl); (case hr => first | (go_simp; done) | (go_simp; rfl)); (case hp => exact (Reps.none _ _)); intro v137 w5 ho6 hb hg_ hnew_; clear hg_ hnew_; (first | rw [← Ny136.out] at ho6 | (simp only [Int.reduceToNat] at ho6; rw [← Ny136.out] at ho6)); have HO138 := Aside0.mk (Kd.R_lower ho6 (below_size (bel_))); replace HB := Aside0.mk (below_step (bel_) hb); clear hb ho6) | (go_at_call 60; (with_reducible refine (spec_l2At.calls k _ _ l0 a1 t139 _ ?side1 ?side2 A3.out).mono ?_); (case side1 => exact cp_ HR0.out); (case side2 => exact HC0.out); rintro e w' ⟨rfl, ⟨nd, rfl⟩⟩; (try first | exact ⟨rfl, _, World.drewN_drewN _ _ _⟩ | exact ⟨rfl, _, Eq.trans (World.drewN_drewN _ _ _) (congrArg (World.drewN _) (Nat.add_assoc _ _ _))⟩))))
  go_ret
  exact ⟨_, fi_, by (with_reducible repeat (first | apply Kd.R_alloc | apply Kd.R_drewN | apply Kd.R_drew)); exact HO138.out, bel_⟩
 ·rw [if_neg c4] at H
  have c4b0 : decide (t139 < 0) = false := decide_eq_false c4
  clear c4
  have H' := Aside0.mk H
  clear H
  go_enter Tryd.func73, Tryd.ntmps73
  go_wp2_with (first | ((with_reducible refine gate_dst (N := 8) rfl ?_); refine Kd.R_lit (Kd.int .i64) _ 3 ?hg (N := 8) ?hd (xs := ([] : List Int)) (inner := []) (ok := fun _ => True) (okp := fun _ => True) ?hr ?hp (fun _ hk => hk) trivial (Below.refl _ _) (Nat.le_refl _) (by simp) ?_; (case hd => rfl); (case hg => rfl); (case hr => first | (go_simp; done) | (go_simp; rfl)); (case hp => exact (Reps.none _ _)); intro v137 w7 ho8 hb hg_ hnew_; clear hg_ hnew_; (first | rw [← Ny136.out] at ho8 | (simp only [Int.reduceToNat] at ho8; rw [← Ny136.out] at ho8)); have HO138 := Aside0.mk (Kd.R_lower ho8 (below_size (bel_))); replace HB := Aside0.mk (below_step (bel_) hb); clear hb ho8) | (go_at_call 60; (with_reducible refine (spec_l2At.calls k _ _ l0 a1 t139 _ ?side1 ?side2 A3.out).mono ?_); (case side1 => exact cp_ HR0.out); (case side2 => exact HC0.out); rintro e w' ⟨rfl, ⟨nd, rfl⟩⟩; (try first | exact ⟨rfl, _, World.drewN_drewN _ _ _⟩ | exact ⟨rfl, _, Eq.trans (World.drewN_drewN _ _ _) (congrArg (World.drewN _) (Nat.add_assoc _ _ _))⟩)))
  repeat (go_quiet (first | ((with_reducible refine gate_dst (N := 8) rfl ?_); refine Kd.R_lit (Kd.int .i64) _ 3 ?hg (N := 8) ?hd (xs := ([] : List Int)) (inner := []) (ok := fun _ => True) (okp := fun _ => True) ?hr ?hp (fun _ hk => hk) trivial (Below.refl _ _) (Nat.le_refl _) (by simp) ?_; (case hd => rfl); (case hg => rfl); (case hr => first | (go_simp; done) | (go_simp; rfl)); (case hp => exact (Reps.none _ _)); intro v137 w7 ho8 hb hg_ hnew_; clear hg_ hnew_; (first | rw [← Ny136.out] at ho8 | (simp only [Int.reduceToNat] at ho8; rw [← Ny136.out] at ho8)); have HO138 := Aside0.mk (Kd.R_lower ho8 (below_size (bel_))); replace HB := Aside0.mk (below_step (bel_) hb); clear hb ho8) | (go_at_call 60; (with_reducible refine (spec_l2At.calls k _ _ l0 a1 t139 _ ?side1 ?side2 A3.out).mono ?_); (case side1 => exact cp_ HR0.out); (case side2 => exact HC0.out); rintro e w' ⟨rfl, ⟨nd, rfl⟩⟩; (try first | exact ⟨rfl, _, World.drewN_drewN _ _ _⟩ | exact ⟨rfl, _, Eq.trans (World.drewN_drewN _ _ _) (congrArg (World.drewN _) (Nat.add_assoc _ _ _))⟩))); try go_wp2_with (first | ((with_reducible refine gate_dst (N := 8) rfl ?_); refine Kd.R_lit (Kd.int .i64) _ 3 ?hg (N := 8) ?hd (xs := ([] : List Int)) (inner := []) (ok := fun _ => True) (okp := fun _ => True) ?hr ?hp (fun _ hk => hk) trivial (Below.refl _ _) (Nat.le_refl _) (by simp) ?_; (case hd => rfl); (case hg => rfl); (case hr => first | (go_simp; done) | (go_simp; rfl)); (case hp => exact (Reps.none _ _)); intro v137 w7 ho8 hb hg_ hnew_; clear hg_ hnew_; (first | rw [← Ny136.out] at ho8 | (simp only [Int.reduceToNat] at ho8; rw [← Ny136.out] at ho8)); have HO138 := Aside0.mk (Kd.R_lower ho8 (below_size (bel_))); replace HB := Aside0.mk (below_step (bel_) hb); clear hb ho8) | (go_at_call 60; (with_reducible refine (spec_l2At.calls k _ _ l0 a1 t139 _ ?side1 ?side2 A3.out).mono ?_); (case side1 => exact cp_ HR0.out); (case side2 => exact HC0.out); rintro e w' ⟨rfl, ⟨nd, rfl⟩⟩; (try first | exact ⟨rfl, _, World.drewN_drewN _ _ _⟩ | exact ⟨rfl, _, Eq.trans (World.drewN_drewN _ _ _) (congrArg (World.drewN _) (Nat.add_assoc _ _ _))⟩))))
  go_loopg [5, 7] k (fun kq v5 v7 w' => ∃ (x5_1 : List Int) (x7_1 : Int), v7 = .int .i64 x7_1 ∧ Aside0 (spec_l2Kids.l0 kq l0 x5_1 t139 x7_1 = some r) ∧ Aside0 (kq ≤ k) ∧ Aside0 (Kd.R (Kd.int .i64) 3 w' w.heap.size (fun _ => True) v5 x5_1) ∧ Aside0 (Below w.heap.size w w'))
  case atStart => exact ⟨(y136), (wrap64 (t139 + 1)), (si_), H', ⟨Nat.le_refl _⟩, ⟨by (with_reducible repeat (first | apply Kd.R_alloc | apply Kd.R_drewN | apply Kd.R_drew)); exact HO138.out⟩, ⟨bel_⟩⟩
  case round =>
   clear H'
   try clear p2
   try clear c4
   try clear c4b0
   try clear p6
   try clear c7
   obtain ⟨x5_1, x7_1, rfl, HA, HK1, HO_5, HB⟩ := hrel
   cases gk with
   | zero => exact absurd HA.out (by simp [spec_l2Kids.l0])
   | succ k1 =>
    have H := HA.out
    clear HA
    simp only [spec_l2Kids.l0] at H
    replace H := Option.bind_eq_some_iff.mp H
    obtain ⟨t140, A90, H⟩ := H
    try dsimp only at H
    have A9 := Aside0.mk A90
    clear A90
    by_cases c10 : x7_1 < t140
    ·rw [if_pos c10] at H
     have c10b0 : decide (x7_1 < t140) = true := decide_eq_true c10
     clear c10
     by_cases c11 : 0 ≤ x7_1
     ·rw [if_pos c11] at H
      have c11b0 : decide (0 ≤ x7_1) = true := decide_eq_true c11
      clear c11
      by_cases c12 : x7_1 < (l0.length : Int)
      ·rw [if_pos c12] at H
       have c12b0 : decide (x7_1 < (l0.length : Int)) = true := decide_eq_true c12
       clear c12
       by_cases c13 : 0 ≤ t139
       ·rw [if_pos c13] at H
        have c13b0 : decide (0 ≤ t139) = true := decide_eq_true c13
        clear c13
        by_cases c14 : t139 < (l0.length : Int)
        ·rw [if_pos c14] at H
         have c14b0 : decide (t139 < (l0.length : Int)) = true := decide_eq_true c14
         clear c14
         by_cases c15 : ((rd_T43 l0 x7_1).f1) = (wrap64 (((rd_T43 l0 t139).f1) + 1))
         ·rw [if_pos c15] at H
          have c15b0 : (((rd_T43 l0 x7_1).f1) == (wrap64 (((rd_T43 l0 t139).f1) + 1))) = true := beq_iff_eq.mpr c15
          have c15b1 : (((rd_T43 l0 x7_1).f1) != (wrap64 (((rd_T43 l0 t139).f1) + 1))) = false := bne_eq_false_iff_eq.mpr c15
          clear c15
          by_cases c16 : x5_1.length < 17592186044416
          ·rw [if_pos c16] at H
           have LMc16 := Aside0.mk c16
           clear c16
           obtain ⟨y144, hy144⟩ : ∃ y_ : List Int, y_ = (x5_1 ++ [(rd_T43 l0 x7_1).f0]) := ⟨_, rfl⟩
           replace H : (spec_l2Kids.l0 k1 l0 y144 t139 (wrap64 (x7_1 + 1))) = some r := by first | (rw [hy144]; with_reducible exact H) | (have H2_ := (Option.bind_some _ _).symm.trans H; rw [hy144]; with_reducible exact H2_) | (have H2_ := (Option.bind_some _ _).symm.trans H; with_reducible exact H2_) | with_reducible exact H | (rw [hy144]; exact H) | exact H
           have Ny144 := Aside0.mk hy144
           clear hy144
           have H' := Aside0.mk H
           clear H
           go_wp2_with (first | (go_at_call 63; (with_reducible refine (spec_l2End.calls k1 _ _ l0 t139 t140 _ ?side1 ?side2 A9.out).mono ?_); (case side1 => exact cp_ HR0.out); (case side2 => exact HC0.out); rintro e w' ⟨rfl, ⟨nd, rfl⟩⟩; (try first | exact ⟨rfl, _, World.drewN_drewN _ _ _⟩ | exact ⟨rfl, _, Eq.trans (World.drewN_drewN _ _ _) (congrArg (World.drewN _) (Nat.add_assoc _ _ _))⟩); have p141 : 0 ≤ (x7_1 : Int) := od_; have q141 : x7_1 < (l0.length : Int) := od_; obtain ⟨ad141, e141, hx141_0, hx141_1, hx141_2⟩ := at_T43 HR0.out x7_1 p141 q141; cases e141; replace hx141_0 := (cb_ HB.out hx141_0 :); replace hx141_1 := (cb_ HB.out hx141_1 :); replace hx141_2 := (cb_ HB.out hx141_2 :); replace p141 := eq_true p141; replace q141 := eq_true q141; have p142 : 0 ≤ (t139 : Int) := od_; have q142 : t139 < (l0.length : Int) := od_; obtain ⟨ad142, e142, hx142_0, hx142_1, hx142_2⟩ := at_T43 HR0.out t139 p142 q142; obtain rfl : ad141 = ad142 := (by injection e142); replace hx142_0 := (cb_ HB.out hx142_0 :); replace hx142_1 := (cb_ HB.out hx142_1 :); replace hx142_2 := (cb_ HB.out hx142_2 :); replace p142 := eq_true p142; replace q142 := eq_true q142; have p143 : 0 ≤ (x7_1 : Int) := od_; have q143 : x7_1 < (l0.length : Int) := od_; obtain ⟨ad143, e143, hx143_0, hx143_1, hx143_2⟩ := at_T43 HR0.out x7_1 p143 q143; obtain rfl : ad141 = ad143 := (by injection e143); replace hx143_0 := (cb_ HB.out hx143_0 :); replace hx143_1 := (cb_ HB.out hx143_1 :); replace hx143_2 := (cb_ HB.out hx143_2 :); replace p143 := eq_true p143; replace q143 := eq_true q143) | ((with_reducible refine gate_builtin (b := .append) (xs := #[.tmp 36, .tmp 42]) rfl ?_); at_builtin; refine Kd.R_append (Kd.int .i64) (w0 := w) w.heap.size rfl (.tmp 36) (.tmp 42) 45 3 (.int .i64 0) 8 rfl Tryd.underlying45 info3 rfl (by decide) (by omega) u5 x5_1 ((rd_T43 l0 x7_1).f0) [.int .i64 ((rd_T43 l0 x7_1).f0)] (fun _ => True) (fun _ => False) rfl rfl ?aP (fun _ hk => hk.elim) ?aF ?aO ?aB ?aS ?aL ?_; (case aP => exact rfl); (case aB => exact (bel_)); (case aF => exact (fun _ _ => trivial)); (case aO => exact (rp_ HO_5.out)); (case aS => exact (below_size (bel_))); (case aL => have := LMc16.out; omega); intro v145 w17 ho hb hg hat; rw [← Ny144.out] at ho; replace HB := Aside0.mk (hb); have HO146 := Aside0.mk (ho); clear HO_5; clear ho hb hg hat))
           repeat (go_quiet (first | (go_at_call 63; (with_reducible refine (spec_l2End.calls k1 _ _ l0 t139 t140 _ ?side1 ?side2 A9.out).mono ?_); (case side1 => exact cp_ HR0.out); (case side2 => exact HC0.out); rintro e w' ⟨rfl, ⟨nd, rfl⟩⟩; (try first | exact ⟨rfl, _, World.drewN_drewN _ _ _⟩ | exact ⟨rfl, _, Eq.trans (World.drewN_drewN _ _ _) (congrArg (World.drewN _) (Nat.add_assoc _ _ _))⟩); have p141 : 0 ≤ (x7_1 : Int) := od_; have q141 : x7_1 < (l0.length : Int) := od_; obtain ⟨ad141, e141, hx141_0, hx141_1, hx141_2⟩ := at_T43 HR0.out x7_1 p141 q141; cases e141; replace hx141_0 := (cb_ HB.out hx141_0 :); replace hx141_1 := (cb_ HB.out hx141_1 :); replace hx141_2 := (cb_ HB.out hx141_2 :); replace p141 := eq_true p141; replace q141 := eq_true q141; have p142 : 0 ≤ (t139 : Int) := od_; have q142 : t139 < (l0.length : Int) := od_; obtain ⟨ad142, e142, hx142_0, hx142_1, hx142_2⟩ := at_T43 HR0.out t139 p142 q142; obtain rfl : ad141 = ad142 := (by injection e142); replace hx142_0 := (cb_ HB.out hx142_0 :); replace hx142_1 := (cb_ HB.out hx142_1 :); replace hx142_2 := (cb_ HB.out hx142_2 :); replace p142 := eq_true p142; replace q142 := eq_true q142; have p143 : 0 ≤ (x7_1 : Int) := od_; have q143 : x7_1 < (l0.length : Int) := od_; obtain ⟨ad143, e143, hx143_0, hx143_1, hx143_2⟩ := at_T43 HR0.out x7_1 p143 q143; obtain rfl : ad141 = ad143 := (by injection e143); replace hx143_0 := (cb_ HB.out hx143_0 :); replace hx143_1 := (cb_ HB.out hx143_1 :); replace hx143_2 := (cb_ HB.out hx143_2 :); replace p143 := eq_true p143; replace q143 := eq_true q143) | ((with_reducible refine gate_builtin (b := .append) (xs := #[.tmp 36, .tmp 42]) rfl ?_); at_builtin; refine Kd.R_append (Kd.int .i64) (w0 := w) w.heap.size rfl (.tmp 36) (.tmp 42) 45 3 (.int .i64 0) 8 rfl Tryd.underlying45 info3 rfl (by decide) (by omega) u5 x5_1 ((rd_T43 l0 x7_1).f0) [.int .i64 ((rd_T43 l0 x7_1).f0)] (fun _ => True) (fun _ => False) rfl rfl ?aP (fun _ hk => hk.elim) ?aF ?aO ?aB ?aS ?aL ?_; (case aP => exact rfl); (case aB => exact (bel_)); (case aF => exact (fun _ _ => trivial)); (case aO => exact (rp_ HO_5.out)); (case aS => exact (below_size (bel_))); (case aL => have := LMc16.out; omega); intro v145 w17 ho hb hg hat; rw [← Ny144.out] at ho; replace HB := Aside0.mk (hb); have HO146 := Aside0.mk (ho); clear HO_5; clear ho hb hg hat)); try go_wp2_with (first | (go_at_call 63; (with_reducible refine (spec_l2End.calls k1 _ _ l0 t139 t140 _ ?side1 ?side2 A9.out).mono ?_); (case side1 => exact cp_ HR0.out); (case side2 => exact HC0.out); rintro e w' ⟨rfl, ⟨nd, rfl⟩⟩; (try first | exact ⟨rfl, _, World.drewN_drewN _ _ _⟩ | exact ⟨rfl, _, Eq.trans (World.drewN_drewN _ _ _) (congrArg (World.drewN _) (Nat.add_assoc _ _ _))⟩); have p141 : 0 ≤ (x7_1 : Int) := od_; have q141 : x7_1 < (l0.length : Int) := od_; obtain ⟨ad141, e141, hx141_0, hx141_1, hx141_2⟩ := at_T43 HR0.out x7_1 p141 q141; cases e141; replace hx141_0 := (cb_ HB.out hx141_0 :); replace hx141_1 := (cb_ HB.out hx141_1 :); replace hx141_2 := (cb_ HB.out hx141_2 :); replace p141 := eq_true p141; replace q141 := eq_true q141; have p142 : 0 ≤ (t139 : Int) := od_; have q142 : t139 < (l0.length : Int) := od_; obtain ⟨ad142, e142, hx142_0, hx142_1, hx142_2⟩ := at_T43 HR0.out t139 p142 q142; obtain rfl : ad141 = ad142 := (by injection e142); replace hx142_0 := (cb_ HB.out hx142_0 :); replace hx142_1 := (cb_ HB.out hx142_1 :); replace hx142_2 := (cb_ HB.out hx142_2 :); replace p142 := eq_true p142; replace q142 := eq_true q142; have p143 : 0 ≤ (x7_1 : Int) := od_; have q143 : x7_1 < (l0.length : Int) := od_; obtain ⟨ad143, e143, hx143_0, hx143_1, hx143_2⟩ := at_T43 HR0.out x7_1 p143 q143; obtain rfl : ad141 = ad143 := (by injection e143); replace hx143_0 := (cb_ HB.out hx143_0 :); replace hx143_1 := (cb_ HB.out hx143_1 :); replace hx143_2 := (cb_ HB.out hx143_2 :); replace p143 := eq_true p143; replace q143 := eq_true q143) | ((with_reducible refine gate_builtin (b := .append) (xs := #[.tmp 36, .tmp 42]) rfl ?_); at_builtin; refine Kd.R_append (Kd.int .i64) (w0 := w) w.heap.size rfl (.tmp 36) (.tmp 42) 45 3 (.int .i64 0) 8 rfl Tryd.underlying45 info3 rfl (by decide) (by omega) u5 x5_1 ((rd_T43 l0 x7_1).f0) [.int .i64 ((rd_T43 l0 x7_1).f0)] (fun _ => True) (fun _ => False) rfl rfl ?aP (fun _ hk => hk.elim) ?aF ?aO ?aB ?aS ?aL ?_; (case aP => exact rfl); (case aB => exact (bel_)); (case aF => exact (fun _ _ => trivial)); (case aO => exact (rp_ HO_5.out)); (case aS => exact (below_size (bel_))); (case aL => have := LMc16.out; omega); intro v145 w17 ho hb hg hat; rw [← Ny144.out] at ho; replace HB := Aside0.mk (hb); have HO146 := Aside0.mk (ho); clear HO_5; clear ho hb hg hat)))
           go_roundg k1
           case measure => have := HK1.out; omega
           case rel => exact ⟨(y144), (wrap64 (x7_1 + 1)), (si_), H', ⟨by have := HK1.out; omega⟩, ⟨by (with_reducible repeat (first | apply Kd.R_alloc | apply Kd.R_drewN | apply Kd.R_drew)); exact HO146.out⟩, ⟨bel_⟩⟩
          ·rw [if_neg c16] at H
           exact absurd H (by simp)
         ·rw [if_neg c15] at H
          have c15b0 : (((rd_T43 l0 x7_1).f1) == (wrap64 (((rd_T43 l0 t139).f1) + 1))) = false := beq_eq_false_iff_ne.mpr c15
          have c15b1 : (((rd_T43 l0 x7_1).f1) != (wrap64 (((rd_T43 l0 t139).f1) + 1))) = true := bne_iff_ne.mpr c15
          have H' := Aside0.mk H
          clear H
          go_wp2_with (first | (go_at_call 63; (with_reducible refine (spec_l2End.calls k1 _ _ l0 t139 t140 _ ?side1 ?side2 A9.out).mono ?_); (case side1 => exact cp_ HR0.out); (case side2 => exact HC0.out); rintro e w' ⟨rfl, ⟨nd, rfl⟩⟩; (try first | exact ⟨rfl, _, World.drewN_drewN _ _ _⟩ | exact ⟨rfl, _, Eq.trans (World.drewN_drewN _ _ _) (congrArg (World.drewN _) (Nat.add_assoc _ _ _))⟩); have p141 : 0 ≤ (x7_1 : Int) := od_; have q141 : x7_1 < (l0.length : Int) := od_; obtain ⟨ad141, e141, hx141_0, hx141_1, hx141_2⟩ := at_T43 HR0.out x7_1 p141 q141; cases e141; replace hx141_0 := (cb_ HB.out hx141_0 :); replace hx141_1 := (cb_ HB.out hx141_1 :); replace hx141_2 := (cb_ HB.out hx141_2 :); replace p141 := eq_true p141; replace q141 := eq_true q141; have p142 : 0 ≤ (t139 : Int) := od_; have q142 : t139 < (l0.length : Int) := od_; obtain ⟨ad142, e142, hx142_0, hx142_1, hx142_2⟩ := at_T43 HR0.out t139 p142 q142; obtain rfl : ad141 = ad142 := (by injection e142); replace hx142_0 := (cb_ HB.out hx142_0 :); replace hx142_1 := (cb_ HB.out hx142_1 :); replace hx142_2 := (cb_ HB.out hx142_2 :); replace p142 := eq_true p142; replace q142 := eq_true q142))
          repeat (go_quiet (first | (go_at_call 63; (with_reducible refine (spec_l2End.calls k1 _ _ l0 t139 t140 _ ?side1 ?side2 A9.out).mono ?_); (case side1 => exact cp_ HR0.out); (case side2 => exact HC0.out); rintro e w' ⟨rfl, ⟨nd, rfl⟩⟩; (try first | exact ⟨rfl, _, World.drewN_drewN _ _ _⟩ | exact ⟨rfl, _, Eq.trans (World.drewN_drewN _ _ _) (congrArg (World.drewN _) (Nat.add_assoc _ _ _))⟩); have p141 : 0 ≤ (x7_1 : Int) := od_; have q141 : x7_1 < (l0.length : Int) := od_; obtain ⟨ad141, e141, hx141_0, hx141_1, hx141_2⟩ := at_T43 HR0.out x7_1 p141 q141; cases e141; replace hx141_0 := (cb_ HB.out hx141_0 :); replace hx141_1 := (cb_ HB.out hx141_1 :); replace hx141_2 := (cb_ HB.out hx141_2 :); replace p141 := eq_true p141; replace q141 := eq_true q141; have p142 : 0 ≤ (t139 : Int) := od_; have q142 : t139 < (l0.length : Int) := od_; obtain ⟨ad142, e142, hx142_0, hx142_1, hx142_2⟩ := at_T43 HR0.out t139 p142 q142; obtain rfl : ad141 = ad142 := (by injection e142); replace hx142_0 := (cb_ HB.out hx142_0 :); replace hx142_1 := (cb_ HB.out hx142_1 :); replace hx142_2 := (cb_ HB.out hx142_2 :); replace p142 := eq_true p142; replace q142 := eq_true q142)); try go_wp2_with (first | (go_at_call 63; (with_reducible refine (spec_l2End.calls k1 _ _ l0 t139 t140 _ ?side1 ?side2 A9.out).mono ?_); (case side1 => exact cp_ HR0.out); (case side2 => exact HC0.out); rintro e w' ⟨rfl, ⟨nd, rfl⟩⟩; (try first | exact ⟨rfl, _, World.drewN_drewN _ _ _⟩ | exact ⟨rfl, _, Eq.trans (World.drewN_drewN _ _ _) (congrArg (World.drewN _) (Nat.add_assoc _ _ _))⟩); have p141 : 0 ≤ (x7_1 : Int) := od_; have q141 : x7_1 < (l0.length : Int) := od_; obtain ⟨ad141, e141, hx141_0, hx141_1, hx141_2⟩ := at_T43 HR0.out x7_1 p141 q141; cases e141; replace hx141_0 := (cb_ HB.out hx141_0 :); replace hx141_1 := (cb_ HB.out hx141_1 :); replace hx141_2 := (cb_ HB.out hx141_2 :); replace p141 := eq_true p141; replace q141 := eq_true q141; have p142 : 0 ≤ (t139 : Int) := od_; have q142 : t139 < (l0.length : Int) := od_; obtain ⟨ad142, e142, hx142_0, hx142_1, hx142_2⟩ := at_T43 HR0.out t139 p142 q142; obtain rfl : ad141 = ad142 := (by injection e142); replace hx142_0 := (cb_ HB.out hx142_0 :); replace hx142_1 := (cb_ HB.out hx142_1 :); replace hx142_2 := (cb_ HB.out hx142_2 :); replace p142 := eq_true p142; replace q142 := eq_true q142)))
          go_roundg k1
          case measure => have := HK1.out; omega
          case rel => exact ⟨(x5_1), (wrap64 (x7_1 + 1)), (si_), H', ⟨by have := HK1.out; omega⟩, ⟨by (with_reducible repeat (first | apply Kd.R_alloc | apply Kd.R_drewN | apply Kd.R_drew)); exact HO_5.out⟩, ⟨bel_⟩⟩
        ·rw [if_neg c14] at H
         exact absurd H (by simp)
       ·rw [if_neg c13] at H
        exact absurd H (by simp)
      ·rw [if_neg c12] at H
       exact absurd H (by simp)
     ·rw [if_neg c11] at H
      exact absurd H (by simp)
    ·rw [if_neg c10] at H
     have c10b0 : decide (x7_1 < t140) = false := decide_eq_false c10
     clear c10
     obtain rfl := Option.some.inj H
     go_wp2_with (first | (go_at_call 63; (with_reducible refine (spec_l2End.calls k1 _ _ l0 t139 t140 _ ?side1 ?side2 A9.out).mono ?_); (case side1 => exact cp_ HR0.out); (case side2 => exact HC0.out); rintro e w' ⟨rfl, ⟨nd, rfl⟩⟩; (try first | exact ⟨rfl, _, World.drewN_drewN _ _ _⟩ | exact ⟨rfl, _, Eq.trans (World.drewN_drewN _ _ _) (congrArg (World.drewN _) (Nat.add_assoc _ _ _))⟩)))
     repeat (go_quiet (first | (go_at_call 63; (with_reducible refine (spec_l2End.calls k1 _ _ l0 t139 t140 _ ?side1 ?side2 A9.out).mono ?_); (case side1 => exact cp_ HR0.out); (case side2 => exact HC0.out); rintro e w' ⟨rfl, ⟨nd, rfl⟩⟩; (try first | exact ⟨rfl, _, World.drewN_drewN _ _ _⟩ | exact ⟨rfl, _, Eq.trans (World.drewN_drewN _ _ _) (congrArg (World.drewN _) (Nat.add_assoc _ _ _))⟩))); try go_wp2_with (first | (go_at_call 63; (with_reducible refine (spec_l2End.calls k1 _ _ l0 t139 t140 _ ?side1 ?side2 A9.out).mono ?_); (case side1 => exact cp_ HR0.out); (case side2 => exact HC0.out); rintro e w' ⟨rfl, ⟨nd, rfl⟩⟩; (try first | exact ⟨rfl, _, World.drewN_drewN _ _ _⟩ | exact ⟨rfl, _, Eq.trans (World.drewN_drewN _ _ _) (congrArg (World.drewN _) (Nat.add_assoc _ _ _))⟩))))
     go_ret
     exact ⟨_, fi_, by (with_reducible repeat (first | apply Kd.R_alloc | apply Kd.R_drewN | apply Kd.R_drew)); exact HO_5.out, bel_⟩

def spec_l2Under.f (k : Nat) (l0 : List (S43)) (a1 : Int) (a2 : Int) : Option (Bool) := (spec_l2At.f k l0 a1).bind fun t147 => ((spec_l2At.f k l0 a2).bind fun t148 => (if t147 ≥ 0 then (if t148 ≥ 0 then ((spec_l2End.f k l0 t148).bind fun t149 => ((spec_l6In.f t147 t148 (wrap64 (t149 - 1))).bind fun t150 => (some t150))) else (some false)) else (some false)))
theorem spec_l2Under.mono : ∀ a0 a1 a2 k, LeO (spec_l2Under.f k a0 a1 a2) (spec_l2Under.f (k + 1) a0 a1 a2) := by
 intro a0 a1 a2 k
 unfold spec_l2Under.f
 repeat' first
   | (with_reducible exact spec_l2At.mono _ _ _)
   | (with_reducible exact spec_l2End.mono _ _ _)
   | (with_reducible exact LeO.refl _)
   | (with_reducible exact LeO.none _)
   | (with_reducible refine LeO.ite ?_ ?_)
   | (with_reducible refine LeO.bind ?_ (fun _ => ?_))
   | exact spec_l2At.mono _ _ _
   | exact spec_l2End.mono _ _ _
   | exact LeO.none _
   | refine LeO.ite ?_ ?_
   | refine LeO.bind ?_ (fun _ => ?_)
set_option maxHeartbeats 8000000 in
set_option maxRecDepth 100000 in
theorem spec_l2Under.calls (k : Nat) (A0 : Option Addr) (c0 : Nat) (l0 : List (S43)) (a1 : Int) (a2 : Int) (r : Bool) (w : World) (hr0 : Kd.C k43 w A0 l0.length l0) (hc0 : l0.length ≤ c0) (h : spec_l2Under.f k l0 a1 a2 = some r) :
  Calls Tryd.prog 78 #[.slice A0 l0.length c0, .int .i64 a1, .int .i64 a2] w fun e w' => e = .returned (.bool r) ∧ Drawn0 w w' := by
 have HR0 := Aside0.mk hr0
 have HC0 := Aside0.mk hc0
 clear hr0 hc0
 unfold spec_l2Under.f at h
 have H := h
 clear h
 replace H := Option.bind_eq_some_iff.mp H
 obtain ⟨t147, A40, H⟩ := H
 try dsimp only at H
 have A4 := Aside0.mk A40
 clear A40
 replace H := Option.bind_eq_some_iff.mp H
 obtain ⟨t148, A50, H⟩ := H
 try dsimp only at H
 have A5 := Aside0.mk A50
 clear A50
 by_cases c6 : t147 ≥ 0
 ·rw [if_pos c6] at H
  have c6b0 : decide (0 ≤ t147) = true := decide_eq_true c6
  clear c6
  by_cases c7 : t148 ≥ 0
  ·rw [if_pos c7] at H
   have c7b0 : decide (0 ≤ t148) = true := decide_eq_true c7
   clear c7
   replace H := Option.bind_eq_some_iff.mp H
   obtain ⟨t149, A80, H⟩ := H
   try dsimp only at H
   have A8 := Aside0.mk A80
   clear A80
   replace H := Option.bind_eq_some_iff.mp H
   obtain ⟨t150, A90, H⟩ := H
   try dsimp only at H
   have A9 := Aside0.mk A90
   clear A90
   obtain rfl := Option.some.inj H
   go_enter Tryd.func78, Tryd.ntmps78
   go_wp2_with (first | ((with_reducible refine gate_callee (f := 60) rfl ?_); refine gl_ 11 Tryd.func60 #[.slice A0 l0.length c0, .int .i64 a1] ?_; (with_reducible refine (spec_l2At.calls k _ _ l0 a1 t147 _ ?side1 ?side2 A4.out).mono ?_); (case side1 => exact cx_ HR0.out); (case side2 => exact HC0.out); rintro e w' ⟨rfl, ⟨nd, rfl⟩⟩; refine ⟨_, rfl, ?_⟩) | ((with_reducible refine gate_callee (f := 60) rfl ?_); refine gl_ 14 Tryd.func60 #[.slice A0 l0.length c0, .int .i64 a2] ?_; (with_reducible refine (spec_l2At.calls k _ _ l0 a2 t148 _ ?side1 ?side2 A5.out).mono ?_); (case side1 => exact cx_ HR0.out); (case side2 => exact HC0.out); rintro e w' ⟨rfl, ⟨nd, rfl⟩⟩; refine ⟨_, rfl, ?_⟩) | (go_at_call 63; (with_reducible refine (spec_l2End.calls k _ _ l0 t148 t149 _ ?side1 ?side2 A8.out).mono ?_); (case side1 => exact cx_ HR0.out); (case side2 => exact HC0.out); rintro e w' ⟨rfl, ⟨nd, rfl⟩⟩) | (go_at_call 74; (with_reducible refine (spec_l6In.calls t147 t148 (wrap64 (t149 - 1)) t150 _ A9.out).mono ?_); rintro e w' ⟨rfl, ⟨nd, rfl⟩⟩))
   go_ret
   exact ⟨si_, by repeat (first | exact Drawn0.refl _ | apply Drawn0.step)⟩
  ·rw [if_neg c7] at H
   have c7b0 : decide (0 ≤ t148) = false := decide_eq_false c7
   clear c7
   obtain rfl := Option.some.inj H
   go_enter Tryd.func78, Tryd.ntmps78
   go_wp2_with (first | ((with_reducible refine gate_callee (f := 60) rfl ?_); refine gl_ 11 Tryd.func60 #[.slice A0 l0.length c0, .int .i64 a1] ?_; (with_reducible refine (spec_l2At.calls k _ _ l0 a1 t147 _ ?side1 ?side2 A4.out).mono ?_); (case side1 => exact cx_ HR0.out); (case side2 => exact HC0.out); rintro e w' ⟨rfl, ⟨nd, rfl⟩⟩; refine ⟨_, rfl, ?_⟩) | ((with_reducible refine gate_callee (f := 60) rfl ?_); refine gl_ 14 Tryd.func60 #[.slice A0 l0.length c0, .int .i64 a2] ?_; (with_reducible refine (spec_l2At.calls k _ _ l0 a2 t148 _ ?side1 ?side2 A5.out).mono ?_); (case side1 => exact cx_ HR0.out); (case side2 => exact HC0.out); rintro e w' ⟨rfl, ⟨nd, rfl⟩⟩; refine ⟨_, rfl, ?_⟩))
   go_ret
   exact ⟨si_, by repeat (first | exact Drawn0.refl _ | apply Drawn0.step)⟩
 ·rw [if_neg c6] at H
  have c6b0 : decide (0 ≤ t147) = false := decide_eq_false c6
  clear c6
  obtain rfl := Option.some.inj H
  go_enter Tryd.func78, Tryd.ntmps78
  go_wp2_with (first | ((with_reducible refine gate_callee (f := 60) rfl ?_); refine gl_ 11 Tryd.func60 #[.slice A0 l0.length c0, .int .i64 a1] ?_; (with_reducible refine (spec_l2At.calls k _ _ l0 a1 t147 _ ?side1 ?side2 A4.out).mono ?_); (case side1 => exact cx_ HR0.out); (case side2 => exact HC0.out); rintro e w' ⟨rfl, ⟨nd, rfl⟩⟩; refine ⟨_, rfl, ?_⟩) | ((with_reducible refine gate_callee (f := 60) rfl ?_); refine gl_ 14 Tryd.func60 #[.slice A0 l0.length c0, .int .i64 a2] ?_; (with_reducible refine (spec_l2At.calls k _ _ l0 a2 t148 _ ?side1 ?side2 A5.out).mono ?_); (case side1 => exact cx_ HR0.out); (case side2 => exact HC0.out); rintro e w' ⟨rfl, ⟨nd, rfl⟩⟩; refine ⟨_, rfl, ?_⟩))
  go_ret
  exact ⟨si_, by repeat (first | exact Drawn0.refl _ | apply Drawn0.step)⟩

mutual
def spec_l3Where.j0 : Nat → List (S43) → Bool → Int → Int → Int → Int → ByteArray → Option (Int × Int × Bool)
 | 0, _, _, _, _, _, _, _ => none
 | k + 1, x0, x37, x152000, x152001, x152002, x152003, x152004 => if x37 = true then (some (0, 0, false)) else ((spec_l2At.f k x0 x152002).bind fun t154 => (if t154 < 0 then (some (3, 0, true)) else ((spec_l2Kids.f k x0 x152002).bind fun t155 => (spec_l3Where.l0 k x152002 0 t155 0 x152000 x152001 x152002 x152003 x152004))))
def spec_l3Where.l0 : Nat → Int → Int → List Int → Int → Int → Int → Int → Int → ByteArray → Option (Int × Int × Bool)
 | 0, _, _, _, _, _, _, _, _, _ => none
 | k + 1, x8, x9, x10, x11, x152000, x152001, x152002, x152003, x152004 => if x11 < (x10.length : Int) then (if 0 ≤ x11 then (if (rd x10 x11) = x152003 then (if x152003 = x152001 then (spec_l3Where.l0 k x8 x9 x10 (wrap64 (x11 + 1)) x152000 x152001 x152002 x152003 x152004) else (spec_l3Where.l0 k x8 x152003 x10 (wrap64 (x11 + 1)) x152000 x152001 x152002 x152003 x152004)) else (spec_l3Where.l0 k x8 x9 x10 (wrap64 (x11 + 1)) x152000 x152001 x152002 x152003 x152004)) else (none)) else (some (x8, x9, true))
end
def spec_l3Where.f (k : Nat) (l0 : List (S43)) (a1_0 : Int) (a1_1 : Int) (a1_2 : Int) (a1_3 : Int) (a1_4 : ByteArray) : Option (Int × Int × Bool) := (spec_l2At.f k l0 a1_1).bind fun t152 => (if a1_0 = 2 then (spec_l3Where.j0 k l0 true a1_0 a1_1 a1_2 a1_3 a1_4) else (if ((decide (t152 ≥ 0)) != (a1_0 == 3)) = true then (spec_l3Where.j0 k l0 true a1_0 a1_1 a1_2 a1_3 a1_4) else (if t152 ≥ 0 then ((spec_l2Under.f k l0 a1_2 a1_1).bind fun t153 => (spec_l3Where.j0 k l0 t153 a1_0 a1_1 a1_2 a1_3 a1_4)) else (spec_l3Where.j0 k l0 false a1_0 a1_1 a1_2 a1_3 a1_4))))
theorem spec_l3Where.mono_l : ∀ k, (∀ y0 y1 y2 y3 y4 y5 y6, LeO (spec_l3Where.j0 k y0 y1 y2 y3 y4 y5 y6) (spec_l3Where.j0 (k + 1) y0 y1 y2 y3 y4 y5 y6)) ∧ (∀ y0 y1 y2 y3 y4 y5 y6 y7 y8, LeO (spec_l3Where.l0 k y0 y1 y2 y3 y4 y5 y6 y7 y8) (spec_l3Where.l0 (k + 1) y0 y1 y2 y3 y4 y5 y6 y7 y8))
 | 0 => ⟨fun _ _ _ _ _ _ _ r h => by simp [spec_l3Where.j0] at h, fun _ _ _ _ _ _ _ _ _ r h => by simp [spec_l3Where.l0] at h⟩
 | k + 1 => by
  obtain ⟨ih0, ih1⟩ := spec_l3Where.mono_l k
  refine ⟨?_, ?_⟩
  all_goals intros
  all_goals first | unfold spec_l3Where.j0 | unfold spec_l3Where.l0
  all_goals repeat' first
  | (with_reducible exact ih0 _ _ _ _ _ _ _)
  | (with_reducible exact ih1 _ _ _ _ _ _ _ _ _)
  | (with_reducible exact spec_l2At.mono _ _ _)
  | (with_reducible exact spec_l2Kids.mono _ _ _)
  | (with_reducible exact spec_l2Under.mono _ _ _ _)
  | (with_reducible exact LeO.refl _)
  | (with_reducible exact LeO.none _)
  | (with_reducible refine LeO.ite ?_ ?_)
  | (with_reducible refine LeO.bind ?_ (fun _ => ?_))
  | exact ih0 _ _ _ _ _ _ _
  | exact ih1 _ _ _ _ _ _ _ _ _
  | exact spec_l2At.mono _ _ _
  | exact spec_l2Kids.mono _ _ _
  | exact spec_l2Under.mono _ _ _ _
  | exact LeO.none _
  | refine LeO.ite ?_ ?_
  | refine LeO.bind ?_ (fun _ => ?_)
theorem spec_l3Where.mono : ∀ a0 a1 a2 a3 a4 a5 k, LeO (spec_l3Where.f k a0 a1 a2 a3 a4 a5) (spec_l3Where.f (k + 1) a0 a1 a2 a3 a4 a5) := by
 intro a0 a1 a2 a3 a4 a5 k
 obtain ⟨ih0, ih1⟩ := spec_l3Where.mono_l k
 unfold spec_l3Where.f
 repeat' first
   | (with_reducible exact ih0 _ _ _ _ _ _ _)
   | (with_reducible exact ih1 _ _ _ _ _ _ _ _ _)
   | (with_reducible exact spec_l2At.mono _ _ _)
   | (with_reducible exact spec_l2Kids.mono _ _ _)
   | (with_reducible exact spec_l2Under.mono _ _ _ _)
   | (with_reducible exact LeO.refl _)
   | (with_reducible exact LeO.none _)
   | (with_reducible refine LeO.ite ?_ ?_)
   | (with_reducible refine LeO.bind ?_ (fun _ => ?_))
   | exact ih0 _ _ _ _ _ _ _
   | exact ih1 _ _ _ _ _ _ _ _ _
   | exact spec_l2At.mono _ _ _
   | exact spec_l2Kids.mono _ _ _
   | exact spec_l2Under.mono _ _ _ _
   | exact LeO.none _
   | refine LeO.ite ?_ ?_
   | refine LeO.bind ?_ (fun _ => ?_)
set_option maxHeartbeats 8000000 in
set_option maxRecDepth 100000 in
theorem spec_l3Where.calls (k : Nat) (A0 : Option Addr) (c0 : Nat) (l0 : List (S43)) (a1_0 : Int) (a1_1 : Int) (a1_2 : Int) (a1_3 : Int) (a1_4 : ByteArray) (r1 : Int) (r2 : Int) (r3 : Bool) (w : World) (hr0 : Kd.C k43 w A0 l0.length l0) (hc0 : l0.length ≤ c0) (h : spec_l3Where.f k l0 a1_0 a1_1 a1_2 a1_3 a1_4 = some (r1, r2, r3)) :
  Calls Tryd.prog 61 #[.slice A0 l0.length c0, .agg #[.int .i64 a1_0, .int .i64 a1_1, .int .i64 a1_2, .int .i64 a1_3, .string a1_4]] w fun e w' => e = .returned (.tuple #[.int .i64 r1, .int .i64 r2, .bool r3]) ∧ Below w.heap.size w w' := by
 have hu30 := Tryd.underlying30
 have HR0 := Aside0.mk hr0
 have HC0 := Aside0.mk hc0
 clear hr0 hc0
 have HB := Aside0.mk (Below.refl w.heap.size w)
 unfold spec_l3Where.f at h
 have H := h
 clear h
 replace H := Option.bind_eq_some_iff.mp H
 obtain ⟨t152, A30, H⟩ := H
 try dsimp only at H
 have A3 := Aside0.mk A30
 clear A30
 have HC4 := Aside0.mk H
 clear H
 go_enter Tryd.func61, Tryd.ntmps61
 go_upto_region 2 with (first | ((with_reducible refine gate_dst (N := 3) rfl ?_); refine bx_ 3 (#[.int .i64 a1_0, .int .i64 a1_1, .int .i64 a1_2, .int .i64 a1_3, .string a1_4]) 30 ?_; intro gb151 hg w5 hbox hb; have n0_ := Aside0.mk (below_step (bel_) hb); have n1_ := Aside0.mk (hbox); have n2_ := Aside0.mk ((by rw [hg]; exact (below_size (bel_)) : w.heap.size ≤ gb151)); have n3_ := Aside0.mk ((by rw [hg]; exact (below_size (bel_)) : w.heap.size ≤ gb151)); clear HB; have HB := n0_; have BK151 := n1_; have GW151 := n2_; have GE151 := n3_; clear n0_ n1_ n2_ n3_; clear hb hbox hg; have hcz6_0 := cz_ BK151.out 0 (.int .i64 a1_0); have hcz6_1 := cz_ BK151.out 1 (.int .i64 a1_1); have hcz6_2 := cz_ BK151.out 2 (.int .i64 a1_2); have hcz6_3 := cz_ BK151.out 3 (.int .i64 a1_3); have hcz6_4 := cz_ BK151.out 4 (.string a1_4); have hfz6_0 := blk_frozen BK151.out 0; have hfz6_1 := blk_frozen BK151.out 1; have hfz6_2 := blk_frozen BK151.out 2; have hfz6_3 := blk_frozen BK151.out 3; have hfz6_4 := blk_frozen BK151.out 4) | (go_at_call 60; (with_reducible refine (spec_l2At.calls k _ _ l0 a1_1 t152 _ ?side1 ?side2 A3.out).mono ?_); (case side1 => exact cp_ HR0.out); (case side2 => exact HC0.out); rintro e w' ⟨rfl, ⟨nd, rfl⟩⟩; (try first | exact ⟨rfl, _, World.drewN_drewN _ _ _⟩ | exact ⟨rfl, _, Eq.trans (World.drewN_drewN _ _ _) (congrArg (World.drewN _) (Nat.add_assoc _ _ _))⟩)))
 repeat (go_quiet (first | ((with_reducible refine gate_dst (N := 3) rfl ?_); refine bx_ 3 (#[.int .i64 a1_0, .int .i64 a1_1, .int .i64 a1_2, .int .i64 a1_3, .string a1_4]) 30 ?_; intro gb151 hg w5 hbox hb; have n0_ := Aside0.mk (below_step (bel_) hb); have n1_ := Aside0.mk (hbox); have n2_ := Aside0.mk ((by rw [hg]; exact (below_size (bel_)) : w.heap.size ≤ gb151)); have n3_ := Aside0.mk ((by rw [hg]; exact (below_size (bel_)) : w.heap.size ≤ gb151)); clear HB; have HB := n0_; have BK151 := n1_; have GW151 := n2_; have GE151 := n3_; clear n0_ n1_ n2_ n3_; clear hb hbox hg; have hcz6_0 := cz_ BK151.out 0 (.int .i64 a1_0); have hcz6_1 := cz_ BK151.out 1 (.int .i64 a1_1); have hcz6_2 := cz_ BK151.out 2 (.int .i64 a1_2); have hcz6_3 := cz_ BK151.out 3 (.int .i64 a1_3); have hcz6_4 := cz_ BK151.out 4 (.string a1_4); have hfz6_0 := blk_frozen BK151.out 0; have hfz6_1 := blk_frozen BK151.out 1; have hfz6_2 := blk_frozen BK151.out 2; have hfz6_3 := blk_frozen BK151.out 3; have hfz6_4 := blk_frozen BK151.out 4) | (go_at_call 60; (with_reducible refine (spec_l2At.calls k _ _ l0 a1_1 t152 _ ?side1 ?side2 A3.out).mono ?_); (case side1 => exact cp_ HR0.out); (case side2 => exact HC0.out); rintro e w' ⟨rfl, ⟨nd, rfl⟩⟩; (try first | exact ⟨rfl, _, World.drewN_drewN _ _ _⟩ | exact ⟨rfl, _, Eq.trans (World.drewN_drewN _ _ _) (congrArg (World.drewN _) (Nat.add_assoc _ _ _))⟩))); go_upto_region 2 with (first | ((with_reducible refine gate_dst (N := 3) rfl ?_); refine bx_ 3 (#[.int .i64 a1_0, .int .i64 a1_1, .int .i64 a1_2, .int .i64 a1_3, .string a1_4]) 30 ?_; intro gb151 hg w5 hbox hb; have n0_ := Aside0.mk (below_step (bel_) hb); have n1_ := Aside0.mk (hbox); have n2_ := Aside0.mk ((by rw [hg]; exact (below_size (bel_)) : w.heap.size ≤ gb151)); have n3_ := Aside0.mk ((by rw [hg]; exact (below_size (bel_)) : w.heap.size ≤ gb151)); clear HB; have HB := n0_; have BK151 := n1_; have GW151 := n2_; have GE151 := n3_; clear n0_ n1_ n2_ n3_; clear hb hbox hg; have hcz6_0 := cz_ BK151.out 0 (.int .i64 a1_0); have hcz6_1 := cz_ BK151.out 1 (.int .i64 a1_1); have hcz6_2 := cz_ BK151.out 2 (.int .i64 a1_2); have hcz6_3 := cz_ BK151.out 3 (.int .i64 a1_3); have hcz6_4 := cz_ BK151.out 4 (.string a1_4); have hfz6_0 := blk_frozen BK151.out 0; have hfz6_1 := blk_frozen BK151.out 1; have hfz6_2 := blk_frozen BK151.out 2; have hfz6_3 := blk_frozen BK151.out 3; have hfz6_4 := blk_frozen BK151.out 4) | (go_at_call 60; (with_reducible refine (spec_l2At.calls k _ _ l0 a1_1 t152 _ ?side1 ?side2 A3.out).mono ?_); (case side1 => exact cp_ HR0.out); (case side2 => exact HC0.out); rintro e w' ⟨rfl, ⟨nd, rfl⟩⟩; (try first | exact ⟨rfl, _, World.drewN_drewN _ _ _⟩ | exact ⟨rfl, _, Eq.trans (World.drewN_drewN _ _ _) (congrArg (World.drewN _) (Nat.add_assoc _ _ _))⟩))))
 (try simp only [Act.put, List.setIfInBounds_toArray, List.set_cons_zero, List.set_cons_succ])
 go_cut [37] from 7 to 16 (fun v37 wc => ∃ (kq : Nat) (x37_3 : Bool), v37 = .bool x37_3 ∧ Aside0 (spec_l3Where.j0 kq l0 x37_3 a1_0 a1_1 a1_2 a1_3 a1_4 = some (r1, r2, r3)) ∧ Aside0 (kq ≤ k) ∧ Aside0 (wc.heap[gb151]? = some (.cells #[.int .i64 a1_0, .int .i64 a1_1, .int .i64 a1_2, .int .i64 a1_3, .string a1_4] 30 (0, 0))) ∧ Aside0 (Below w.heap.size w wc))
 case first =>
  have H := HC4.out
  clear HC4
  by_cases c7 : a1_0 = 2
  ·rw [if_pos c7] at H
   have c7b0 : (a1_0 == 2) = true := beq_iff_eq.mpr c7
   have c7b1 : (a1_0 != 2) = false := bne_eq_false_iff_eq.mpr c7
   clear c7
   (first | rw [c7b0] | (simp only [i64_w, i32_w]; rw [c7b0]) | skip)
   have H' := Aside0.mk H
   clear H
   have hcz8_0 := cz_ BK151.out 0 (.int .i64 a1_0)
   have hcz8_1 := cz_ BK151.out 1 (.int .i64 a1_1)
   have hcz8_2 := cz_ BK151.out 2 (.int .i64 a1_2)
   have hcz8_3 := cz_ BK151.out 3 (.int .i64 a1_3)
   have hcz8_4 := cz_ BK151.out 4 (.string a1_4)
   have hfz8_0 := blk_frozen BK151.out 0
   have hfz8_1 := blk_frozen BK151.out 1
   have hfz8_2 := blk_frozen BK151.out 2
   have hfz8_3 := blk_frozen BK151.out 3
   have hfz8_4 := blk_frozen BK151.out 4
   go_wp2
   repeat (go_quiet (fail); try go_wp2)
   go_meet
   case rel => exact ⟨_, (true), (si_), H', ⟨by first | omega | exact Nat.le_refl _⟩, ⟨by (with_reducible repeat (first | refine blk_drewN ?_ _ | refine blk_drew ?_ | refine blk_alloc ?_ _)); exact BK151.out⟩, ⟨bel_⟩⟩
  ·rw [if_neg c7] at H
   have c7b0 : (a1_0 == 2) = false := beq_eq_false_iff_ne.mpr c7
   have c7b1 : (a1_0 != 2) = true := bne_iff_ne.mpr c7
   (first | rw [c7b0] | (simp only [i64_w, i32_w]; rw [c7b0]) | skip)
   by_cases c9 : ((decide (t152 ≥ 0)) != (a1_0 == 3)) = true
   ·rw [if_pos c9] at H
    have c9b0 : ((decide (t152 ≥ 0)) != (a1_0 == 3)) = true := c9
    (try (have c9b1 : decide ((decide (t152 ≥ 0)) = (a1_0 == 3)) = false := by simpa using c9))
    (try (have c9b2 : ((decide (t152 ≥ 0)) == (a1_0 == 3)) = false := by simpa using c9))
    (try (have c9b3 : ¬ ((decide (t152 ≥ 0)) = (a1_0 == 3)) := by simpa using c9))
    clear c9
    have H' := Aside0.mk H
    clear H
    have hcz10_0 := cz_ BK151.out 0 (.int .i64 a1_0)
    have hcz10_1 := cz_ BK151.out 1 (.int .i64 a1_1)
    have hcz10_2 := cz_ BK151.out 2 (.int .i64 a1_2)
    have hcz10_3 := cz_ BK151.out 3 (.int .i64 a1_3)
    have hcz10_4 := cz_ BK151.out 4 (.string a1_4)
    have hfz10_0 := blk_frozen BK151.out 0
    have hfz10_1 := blk_frozen BK151.out 1
    have hfz10_2 := blk_frozen BK151.out 2
    have hfz10_3 := blk_frozen BK151.out 3
    have hfz10_4 := blk_frozen BK151.out 4
    go_wp2
    repeat (go_quiet (fail); try go_wp2)
    go_meet
    case rel => exact ⟨_, (true), (si_), H', ⟨by first | omega | exact Nat.le_refl _⟩, ⟨by (with_reducible repeat (first | refine blk_drewN ?_ _ | refine blk_drew ?_ | refine blk_alloc ?_ _)); exact BK151.out⟩, ⟨bel_⟩⟩
   ·rw [if_neg c9] at H
    have c9b0 : ((decide (t152 ≥ 0)) != (a1_0 == 3)) = false := by simpa using c9
    (try (have c9b1 : decide ((decide (t152 ≥ 0)) = (a1_0 == 3)) = true := by simpa using c9))
    (try (have c9b2 : ((decide (t152 ≥ 0)) == (a1_0 == 3)) = true := by simpa using c9))
    clear c9
    by_cases c11 : t152 ≥ 0
    ·rw [if_pos c11] at H
     have k3_ : (a1_0 == 3) = true := by
      have h_ := c9b0
      rw [show decide (t152 ≥ 0) = true from decide_eq_true c11] at h_
      generalize (a1_0 == 3) = z at h_
      cases z
      all_goals first | rfl | cases h_
     clear c9b0
     (try clear c9b1)
     (try clear c9b2)
     have c11b0 : decide (0 ≤ t152) = true := decide_eq_true c11
     clear c11
     replace H := Option.bind_eq_some_iff.mp H
     obtain ⟨t153, A120, H⟩ := H
     try dsimp only at H
     have A12 := Aside0.mk A120
     clear A120
     have H' := Aside0.mk H
     clear H
     have hcz13_0 := cz_ BK151.out 0 (.int .i64 a1_0)
     have hcz13_1 := cz_ BK151.out 1 (.int .i64 a1_1)
     have hcz13_2 := cz_ BK151.out 2 (.int .i64 a1_2)
     have hcz13_3 := cz_ BK151.out 3 (.int .i64 a1_3)
     have hcz13_4 := cz_ BK151.out 4 (.string a1_4)
     have hfz13_0 := blk_frozen BK151.out 0
     have hfz13_1 := blk_frozen BK151.out 1
     have hfz13_2 := blk_frozen BK151.out 2
     have hfz13_3 := blk_frozen BK151.out 3
     have hfz13_4 := blk_frozen BK151.out 4
     go_wp2_with (first | (go_at_call 78; (with_reducible refine (spec_l2Under.calls k _ _ l0 a1_2 a1_1 t153 _ ?side1 ?side2 A12.out).mono ?_); (case side1 => exact cp_ HR0.out); (case side2 => exact HC0.out); rintro e w' ⟨rfl, ⟨nd, rfl⟩⟩; (try first | exact ⟨rfl, _, World.drewN_drewN _ _ _⟩ | exact ⟨rfl, _, Eq.trans (World.drewN_drewN _ _ _) (congrArg (World.drewN _) (Nat.add_assoc _ _ _))⟩)))
     repeat (go_quiet (first | (go_at_call 78; (with_reducible refine (spec_l2Under.calls k _ _ l0 a1_2 a1_1 t153 _ ?side1 ?side2 A12.out).mono ?_); (case side1 => exact cp_ HR0.out); (case side2 => exact HC0.out); rintro e w' ⟨rfl, ⟨nd, rfl⟩⟩; (try first | exact ⟨rfl, _, World.drewN_drewN _ _ _⟩ | exact ⟨rfl, _, Eq.trans (World.drewN_drewN _ _ _) (congrArg (World.drewN _) (Nat.add_assoc _ _ _))⟩))); try go_wp2_with (first | (go_at_call 78; (with_reducible refine (spec_l2Under.calls k _ _ l0 a1_2 a1_1 t153 _ ?side1 ?side2 A12.out).mono ?_); (case side1 => exact cp_ HR0.out); (case side2 => exact HC0.out); rintro e w' ⟨rfl, ⟨nd, rfl⟩⟩; (try first | exact ⟨rfl, _, World.drewN_drewN _ _ _⟩ | exact ⟨rfl, _, Eq.trans (World.drewN_drewN _ _ _) (congrArg (World.drewN _) (Nat.add_assoc _ _ _))⟩))))
     go_meet
     case rel => exact ⟨_, (t153), (si_), H', ⟨by first | omega | exact Nat.le_refl _⟩, ⟨by (with_reducible repeat (first | refine blk_drewN ?_ _ | refine blk_drew ?_ | refine blk_alloc ?_ _)); exact BK151.out⟩, ⟨bel_⟩⟩
    ·rw [if_neg c11] at H
     have k3_ : (a1_0 == 3) = false := by
      have h_ := c9b0
      rw [show decide (t152 ≥ 0) = false from decide_eq_false c11] at h_
      generalize (a1_0 == 3) = z at h_
      cases z
      all_goals first | rfl | cases h_
     clear c9b0
     (try clear c9b1)
     (try clear c9b2)
     have c11b0 : decide (0 ≤ t152) = false := decide_eq_false c11
     clear c11
     have H' := Aside0.mk H
     clear H
     have hcz14_0 := cz_ BK151.out 0 (.int .i64 a1_0)
     have hcz14_1 := cz_ BK151.out 1 (.int .i64 a1_1)
     have hcz14_2 := cz_ BK151.out 2 (.int .i64 a1_2)
     have hcz14_3 := cz_ BK151.out 3 (.int .i64 a1_3)
     have hcz14_4 := cz_ BK151.out 4 (.string a1_4)
     have hfz14_0 := blk_frozen BK151.out 0
     have hfz14_1 := blk_frozen BK151.out 1
     have hfz14_2 := blk_frozen BK151.out 2
     have hfz14_3 := blk_frozen BK151.out 3
     have hfz14_4 := blk_frozen BK151.out 4
     go_wp2
     repeat (go_quiet (fail); try go_wp2)
     go_meet
     case rel => exact ⟨_, (false), (si_), H', ⟨by first | omega | exact Nat.le_refl _⟩, ⟨by (with_reducible repeat (first | refine blk_drewN ?_ _ | refine blk_drew ?_ | refine blk_alloc ?_ _)); exact BK151.out⟩, ⟨bel_⟩⟩
 case rest =>
  clear HC4
  try clear c1
  try clear p2
  try clear c6
  try clear c7
  try clear c7b0
  try clear c7b1
  try clear c9
  try clear c9b0
  try clear c9b1
  try clear c9b2
  try clear c11
  try clear c11b0
  try clear hcz10_0
  try clear hcz10_1
  try clear hcz10_2
  try clear hcz10_3
  try clear hcz10_4
  try clear hcz13_0
  try clear hcz13_1
  try clear hcz13_2
  try clear hcz13_3
  try clear hcz13_4
  try clear hcz14_0
  try clear hcz14_1
  try clear hcz14_2
  try clear hcz14_3
  try clear hcz14_4
  try clear hcz6_0
  try clear hcz6_1
  try clear hcz6_2
  try clear hcz6_3
  try clear hcz6_4
  try clear hcz8_0
  try clear hcz8_1
  try clear hcz8_2
  try clear hcz8_3
  try clear hcz8_4
  try clear hfz10_0
  try clear hfz10_1
  try clear hfz10_2
  try clear hfz10_3
  try clear hfz10_4
  try clear hfz13_0
  try clear hfz13_1
  try clear hfz13_2
  try clear hfz13_3
  try clear hfz13_4
  try clear hfz14_0
  try clear hfz14_1
  try clear hfz14_2
  try clear hfz14_3
  try clear hfz14_4
  try clear hfz6_0
  try clear hfz6_1
  try clear hfz6_2
  try clear hfz6_3
  try clear hfz6_4
  try clear hfz8_0
  try clear hfz8_1
  try clear hfz8_2
  try clear hfz8_3
  try clear hfz8_4
  obtain ⟨kq, x37_3, rfl, HA, HJ3, BK151, HB⟩ := hcut
  cases kq with
  | zero => exact absurd HA.out (by simp [spec_l3Where.j0])
  | succ kj3 =>
   have H := HA.out
   clear HA
   simp only [spec_l3Where.j0] at H
   by_cases c15 : x37_3 = true
   ·subst c15
    have H1 : (some (0, 0, false)) = some (r1, r2, r3) := by rw [if_pos rfl] at H; exact H
    clear H
    have H := H1
    clear H1
    simp only [Option.some.injEq, Prod.mk.injEq] at H
    obtain ⟨rfl, rfl, rfl⟩ := H
    go_wp2
    repeat (go_quiet (fail); try go_wp2)
    go_ret3
    exact ⟨fi_, bel_⟩
   ·replace c15 := Bool.eq_false_iff.mpr c15
    subst c15
    have H1 : ((spec_l2At.f kj3 l0 a1_2).bind fun t154 => (if t154 < 0 then (some (3, 0, true)) else ((spec_l2Kids.f kj3 l0 a1_2).bind fun t155 => (spec_l3Where.l0 kj3 a1_2 0 t155 0 a1_0 a1_1 a1_2 a1_3 a1_4)))) = some (r1, r2, r3) := by rw [if_neg (show ¬ (false = true) by decide)] at H; exact H
    clear H
    have H := H1
    clear H1
    replace H := Option.bind_eq_some_iff.mp H
    obtain ⟨t154, A160, H⟩ := H
    try dsimp only at H
    have A16 := Aside0.mk A160
    clear A160
    by_cases c17 : t154 < 0
    ·rw [if_pos c17] at H
     have c17b0 : decide (t154 < 0) = true := decide_eq_true c17
     clear c17
     simp only [Option.some.injEq, Prod.mk.injEq] at H
     obtain ⟨rfl, rfl, rfl⟩ := H
     have hcz18_0 : wc.cell? ⟨gb151, 0, none⟩ = some (.int .i64 a1_0) := (blk_cell BK151.out 0).trans rfl
     have hcz18_1 : wc.cell? ⟨gb151, 1, none⟩ = some (.int .i64 a1_1) := (blk_cell BK151.out 1).trans rfl
     have hcz18_2 : wc.cell? ⟨gb151, 2, none⟩ = some (.int .i64 a1_2) := (blk_cell BK151.out 2).trans rfl
     have hcz18_3 : wc.cell? ⟨gb151, 3, none⟩ = some (.int .i64 a1_3) := (blk_cell BK151.out 3).trans rfl
     have hcz18_4 : wc.cell? ⟨gb151, 4, none⟩ = some (.string a1_4) := (blk_cell BK151.out 4).trans rfl
     have hfz18_0 := blk_frozen BK151.out 0
     have hfz18_1 := blk_frozen BK151.out 1
     have hfz18_2 := blk_frozen BK151.out 2
     have hfz18_3 := blk_frozen BK151.out 3
     have hfz18_4 := blk_frozen BK151.out 4
     go_wp2_with (first | (go_at_call 60; (with_reducible refine (spec_l2At.calls kj3 _ _ l0 a1_2 t154 _ ?side1 ?side2 A16.out).mono ?_); (case side1 => exact cp_ HR0.out); (case side2 => exact HC0.out); rintro e w' ⟨rfl, ⟨nd, rfl⟩⟩; (try first | exact ⟨rfl, _, World.drewN_drewN _ _ _⟩ | exact ⟨rfl, _, Eq.trans (World.drewN_drewN _ _ _) (congrArg (World.drewN _) (Nat.add_assoc _ _ _))⟩)))
     repeat (go_quiet (first | (go_at_call 60; (with_reducible refine (spec_l2At.calls kj3 _ _ l0 a1_2 t154 _ ?side1 ?side2 A16.out).mono ?_); (case side1 => exact cp_ HR0.out); (case side2 => exact HC0.out); rintro e w' ⟨rfl, ⟨nd, rfl⟩⟩; (try first | exact ⟨rfl, _, World.drewN_drewN _ _ _⟩ | exact ⟨rfl, _, Eq.trans (World.drewN_drewN _ _ _) (congrArg (World.drewN _) (Nat.add_assoc _ _ _))⟩))); try go_wp2_with (first | (go_at_call 60; (with_reducible refine (spec_l2At.calls kj3 _ _ l0 a1_2 t154 _ ?side1 ?side2 A16.out).mono ?_); (case side1 => exact cp_ HR0.out); (case side2 => exact HC0.out); rintro e w' ⟨rfl, ⟨nd, rfl⟩⟩; (try first | exact ⟨rfl, _, World.drewN_drewN _ _ _⟩ | exact ⟨rfl, _, Eq.trans (World.drewN_drewN _ _ _) (congrArg (World.drewN _) (Nat.add_assoc _ _ _))⟩))))
     go_ret3
     exact ⟨fi_, bel_⟩
    ·rw [if_neg c17] at H
     have c17b0 : decide (t154 < 0) = false := decide_eq_false c17
     clear c17
     replace H := Option.bind_eq_some_iff.mp H
     obtain ⟨t155, A190, H⟩ := H
     try dsimp only at H
     have A19 := Aside0.mk A190
     clear A190
     have H' := Aside0.mk H
     clear H
     have hcz20_0 : wc.cell? ⟨gb151, 0, none⟩ = some (.int .i64 a1_0) := (blk_cell BK151.out 0).trans rfl
     have hcz20_1 : wc.cell? ⟨gb151, 1, none⟩ = some (.int .i64 a1_1) := (blk_cell BK151.out 1).trans rfl
     have hcz20_2 : wc.cell? ⟨gb151, 2, none⟩ = some (.int .i64 a1_2) := (blk_cell BK151.out 2).trans rfl
     have hcz20_3 : wc.cell? ⟨gb151, 3, none⟩ = some (.int .i64 a1_3) := (blk_cell BK151.out 3).trans rfl
     have hcz20_4 : wc.cell? ⟨gb151, 4, none⟩ = some (.string a1_4) := (blk_cell BK151.out 4).trans rfl
     have hfz20_0 := blk_frozen BK151.out 0
     have hfz20_1 := blk_frozen BK151.out 1
     have hfz20_2 := blk_frozen BK151.out 2
     have hfz20_3 := blk_frozen BK151.out 3
     have hfz20_4 := blk_frozen BK151.out 4
     go_wp2_with (first | (go_at_call 60; (with_reducible refine (spec_l2At.calls kj3 _ _ l0 a1_2 t154 _ ?side1 ?side2 A16.out).mono ?_); (case side1 => exact cp_ HR0.out); (case side2 => exact HC0.out); rintro e w' ⟨rfl, ⟨nd, rfl⟩⟩; (try first | exact ⟨rfl, _, World.drewN_drewN _ _ _⟩ | exact ⟨rfl, _, Eq.trans (World.drewN_drewN _ _ _) (congrArg (World.drewN _) (Nat.add_assoc _ _ _))⟩)) | (go_at_call 73; (with_reducible refine (spec_l2Kids.calls kj3 _ _ l0 a1_2 t155 _ ?side1 ?side2 A19.out).mono ?_); (case side1 => repeat (first | exact (Kd.C_below HR0.out (bel_)) | (with_reducible refine Kd.C_alloc ?_ _) | (with_reducible refine Kd.C_drewN ?_ _) | (with_reducible refine Kd.C_drew ?_))); (case side2 => exact HC0.out); rintro e w21 ⟨v156, rfl, ho0, hb⟩; have HO157 := Aside0.mk (Kd.R_lower ho0 (below_size (bel_))); replace HB := Aside0.mk (below_step (bel_) hb); replace BK151 := Aside0.mk (bb_ BK151.out hb); (try clear hb ho0)))
     repeat (go_quiet (first | (go_at_call 60; (with_reducible refine (spec_l2At.calls kj3 _ _ l0 a1_2 t154 _ ?side1 ?side2 A16.out).mono ?_); (case side1 => exact cp_ HR0.out); (case side2 => exact HC0.out); rintro e w' ⟨rfl, ⟨nd, rfl⟩⟩; (try first | exact ⟨rfl, _, World.drewN_drewN _ _ _⟩ | exact ⟨rfl, _, Eq.trans (World.drewN_drewN _ _ _) (congrArg (World.drewN _) (Nat.add_assoc _ _ _))⟩)) | (go_at_call 73; (with_reducible refine (spec_l2Kids.calls kj3 _ _ l0 a1_2 t155 _ ?side1 ?side2 A19.out).mono ?_); (case side1 => repeat (first | exact (Kd.C_below HR0.out (bel_)) | (with_reducible refine Kd.C_alloc ?_ _) | (with_reducible refine Kd.C_drewN ?_ _) | (with_reducible refine Kd.C_drew ?_))); (case side2 => exact HC0.out); rintro e w21 ⟨v156, rfl, ho0, hb⟩; have HO157 := Aside0.mk (Kd.R_lower ho0 (below_size (bel_))); replace HB := Aside0.mk (below_step (bel_) hb); replace BK151 := Aside0.mk (bb_ BK151.out hb); (try clear hb ho0))); try go_wp2_with (first | (go_at_call 60; (with_reducible refine (spec_l2At.calls kj3 _ _ l0 a1_2 t154 _ ?side1 ?side2 A16.out).mono ?_); (case side1 => exact cp_ HR0.out); (case side2 => exact HC0.out); rintro e w' ⟨rfl, ⟨nd, rfl⟩⟩; (try first | exact ⟨rfl, _, World.drewN_drewN _ _ _⟩ | exact ⟨rfl, _, Eq.trans (World.drewN_drewN _ _ _) (congrArg (World.drewN _) (Nat.add_assoc _ _ _))⟩)) | (go_at_call 73; (with_reducible refine (spec_l2Kids.calls kj3 _ _ l0 a1_2 t155 _ ?side1 ?side2 A19.out).mono ?_); (case side1 => repeat (first | exact (Kd.C_below HR0.out (bel_)) | (with_reducible refine Kd.C_alloc ?_ _) | (with_reducible refine Kd.C_drewN ?_ _) | (with_reducible refine Kd.C_drew ?_))); (case side2 => exact HC0.out); rintro e w21 ⟨v156, rfl, ho0, hb⟩; have HO157 := Aside0.mk (Kd.R_lower ho0 (below_size (bel_))); replace HB := Aside0.mk (below_step (bel_) hb); replace BK151 := Aside0.mk (bb_ BK151.out hb); (try clear hb ho0))))
     go_loopg [9, 11] kj3 (fun kq v9 v11 w' => ∃ (x9_2 : Int) (x11_2 : Int), v9 = .int .i64 x9_2 ∧ v11 = .int .i64 x11_2 ∧ Aside0 (spec_l3Where.l0 kq a1_2 x9_2 t155 x11_2 a1_0 a1_1 a1_2 a1_3 a1_4 = some (r1, r2, r3)) ∧ Aside0 (kq ≤ kj3) ∧ Aside0 (Kd.R (Kd.int .i64) 3 w' w.heap.size (fun _ => True) v156 t155) ∧ Aside0 (w'.heap[gb151]? = some (.cells #[.int .i64 a1_0, .int .i64 a1_1, .int .i64 a1_2, .int .i64 a1_3, .string a1_4] 30 (0, 0))) ∧ Aside0 (Below w.heap.size w w'))
     case atStart => exact ⟨(0), (0), (si_), (si_), H', ⟨Nat.le_refl _⟩, ⟨by (with_reducible repeat (first | apply Kd.R_alloc | apply Kd.R_drewN | apply Kd.R_drew)); exact HO157.out⟩, ⟨by (with_reducible repeat (first | refine blk_drewN ?_ _ | refine blk_drew ?_ | refine blk_alloc ?_ _)); exact BK151.out⟩, ⟨bel_⟩⟩
     case round =>
      clear H'
      try clear c1
      try clear p2
      try clear c6
      try clear c7
      try clear c7b0
      try clear c7b1
      try clear c9
      try clear c9b0
      try clear c9b1
      try clear c9b2
      try clear c11
      try clear c11b0
      try clear c15
      try clear c17
      try clear c17b0
      try clear hcz10_0
      try clear hcz10_1
      try clear hcz10_2
      try clear hcz10_3
      try clear hcz10_4
      try clear hcz13_0
      try clear hcz13_1
      try clear hcz13_2
      try clear hcz13_3
      try clear hcz13_4
      try clear hcz14_0
      try clear hcz14_1
      try clear hcz14_2
      try clear hcz14_3
      try clear hcz14_4
      try clear hcz18_0
      try clear hcz18_1
      try clear hcz18_2
      try clear hcz18_3
      try clear hcz18_4
      try clear hcz20_0
      try clear hcz20_1
      try clear hcz20_2
      try clear hcz20_3
      try clear hcz20_4
      try clear hcz6_0
      try clear hcz6_1
      try clear hcz6_2
      try clear hcz6_3
      try clear hcz6_4
      try clear hcz8_0
      try clear hcz8_1
      try clear hcz8_2
      try clear hcz8_3
      try clear hcz8_4
      try clear hfz10_0
      try clear hfz10_1
      try clear hfz10_2
      try clear hfz10_3
      try clear hfz10_4
      try clear hfz13_0
      try clear hfz13_1
      try clear hfz13_2
      try clear hfz13_3
      try clear hfz13_4
      try clear hfz14_0
      try clear hfz14_1
      try clear hfz14_2
      try clear hfz14_3
      try clear hfz14_4
      try clear hfz18_0
      try clear hfz18_1
      try clear hfz18_2
      try clear hfz18_3
      try clear hfz18_4
      try clear hfz20_0
      try clear hfz20_1
      try clear hfz20_2
      try clear hfz20_3
      try clear hfz20_4
      try clear hfz6_0
      try clear hfz6_1
      try clear hfz6_2
      try clear hfz6_3
      try clear hfz6_4
      try clear hfz8_0
      try clear hfz8_1
      try clear hfz8_2
      try clear hfz8_3
      try clear hfz8_4
      try clear p2
      obtain ⟨x9_2, x11_2, rfl, rfl, HA, HK2, HO_10, BK151, HB⟩ := hrel
      cases gk with
      | zero => exact absurd HA.out (by simp [spec_l3Where.l0])
      | succ k2 =>
       have H := HA.out
       clear HA
       simp only [spec_l3Where.l0] at H
       by_cases c22 : x11_2 < (t155.length : Int)
       ·rw [if_pos c22] at H
        have c22b0 : decide (x11_2 < (t155.length : Int)) = true := decide_eq_true c22
        clear c22
        by_cases c23 : 0 ≤ x11_2
        ·rw [if_pos c23] at H
         have c23b0 : decide (0 ≤ x11_2) = true := decide_eq_true c23
         clear c23
         by_cases c24 : (rd t155 x11_2) = a1_3
         ·rw [if_pos c24] at H
          have c24b0 : ((rd t155 x11_2) == a1_3) = true := beq_iff_eq.mpr c24
          have c24b1 : ((rd t155 x11_2) != a1_3) = false := bne_eq_false_iff_eq.mpr c24
          clear c24
          by_cases c25 : a1_3 = a1_1
          ·rw [if_pos c25] at H
           have c25b0 : (a1_3 == a1_1) = true := beq_iff_eq.mpr c25
           have c25b1 : (a1_3 != a1_1) = false := bne_eq_false_iff_eq.mpr c25
           clear c25
           have H' := Aside0.mk H
           clear H
           obtain ⟨Ao26, co26, eo26⟩ := Kd.R_slice HO_10.out
           subst eo26
           have p158 : 0 ≤ (x11_2 : Int) := od_
           have q158 : x11_2 < (t155.length : Int) := od_
           obtain ⟨ad158, e158, hx158_0⟩ := Kd.at_int (Kd.R_reads' HO_10.out).2.2 x11_2 p158 q158
           cases e158
           replace p158 := eq_true p158
           replace q158 := eq_true q158
           have hcz27_0 : wr.cell? ⟨gb151, 0, none⟩ = some (.int .i64 a1_0) := (blk_cell BK151.out 0).trans rfl
           have hcz27_1 : wr.cell? ⟨gb151, 1, none⟩ = some (.int .i64 a1_1) := (blk_cell BK151.out 1).trans rfl
           have hcz27_2 : wr.cell? ⟨gb151, 2, none⟩ = some (.int .i64 a1_2) := (blk_cell BK151.out 2).trans rfl
           have hcz27_3 : wr.cell? ⟨gb151, 3, none⟩ = some (.int .i64 a1_3) := (blk_cell BK151.out 3).trans rfl
           have hcz27_4 : wr.cell? ⟨gb151, 4, none⟩ = some (.string a1_4) := (blk_cell BK151.out 4).trans rfl
           have hfz27_0 := blk_frozen BK151.out 0
           have hfz27_1 := blk_frozen BK151.out 1
           have hfz27_2 := blk_frozen BK151.out 2
           have hfz27_3 := blk_frozen BK151.out 3
           have hfz27_4 := blk_frozen BK151.out 4
           go_wp2
           repeat (go_quiet (fail); try go_wp2)
           go_roundg k2
           case measure => have := HJ3.out; have := HK2.out; omega
           case rel => exact ⟨(x9_2), (wrap64 (x11_2 + 1)), (si_), (si_), H', ⟨by have := HJ3.out; have := HK2.out; omega⟩, ⟨by (with_reducible repeat (first | apply Kd.R_alloc | apply Kd.R_drewN | apply Kd.R_drew)); exact HO_10.out⟩, ⟨by (with_reducible repeat (first | refine blk_drewN ?_ _ | refine blk_drew ?_ | refine blk_alloc ?_ _)); exact BK151.out⟩, ⟨bel_⟩⟩
          ·rw [if_neg c25] at H
           have c25b0 : (a1_3 == a1_1) = false := beq_eq_false_iff_ne.mpr c25
           have c25b1 : (a1_3 != a1_1) = true := bne_iff_ne.mpr c25
           have H' := Aside0.mk H
           clear H
           obtain ⟨Ao28, co28, eo28⟩ := Kd.R_slice HO_10.out
           subst eo28
           have p158 : 0 ≤ (x11_2 : Int) := od_
           have q158 : x11_2 < (t155.length : Int) := od_
           obtain ⟨ad158, e158, hx158_0⟩ := Kd.at_int (Kd.R_reads' HO_10.out).2.2 x11_2 p158 q158
           cases e158
           replace p158 := eq_true p158
           replace q158 := eq_true q158
           have hcz29_0 : wr.cell? ⟨gb151, 0, none⟩ = some (.int .i64 a1_0) := (blk_cell BK151.out 0).trans rfl
           have hcz29_1 : wr.cell? ⟨gb151, 1, none⟩ = some (.int .i64 a1_1) := (blk_cell BK151.out 1).trans rfl
           have hcz29_2 : wr.cell? ⟨gb151, 2, none⟩ = some (.int .i64 a1_2) := (blk_cell BK151.out 2).trans rfl
           have hcz29_3 : wr.cell? ⟨gb151, 3, none⟩ = some (.int .i64 a1_3) := (blk_cell BK151.out 3).trans rfl
           have hcz29_4 : wr.cell? ⟨gb151, 4, none⟩ = some (.string a1_4) := (blk_cell BK151.out 4).trans rfl
           have hfz29_0 := blk_frozen BK151.out 0
           have hfz29_1 := blk_frozen BK151.out 1
           have hfz29_2 := blk_frozen BK151.out 2
           have hfz29_3 := blk_frozen BK151.out 3
           have hfz29_4 := blk_frozen BK151.out 4
           go_wp2
           repeat (go_quiet (fail); try go_wp2)
           go_roundg k2
           case measure => have := HJ3.out; have := HK2.out; omega
           case rel => exact ⟨(a1_3), (wrap64 (x11_2 + 1)), (si_), (si_), H', ⟨by have := HJ3.out; have := HK2.out; omega⟩, ⟨by (with_reducible repeat (first | apply Kd.R_alloc | apply Kd.R_drewN | apply Kd.R_drew)); exact HO_10.out⟩, ⟨by (with_reducible repeat (first | refine blk_drewN ?_ _ | refine blk_drew ?_ | refine blk_alloc ?_ _)); exact BK151.out⟩, ⟨bel_⟩⟩
         ·rw [if_neg c24] at H
          have c24b0 : ((rd t155 x11_2) == a1_3) = false := beq_eq_false_iff_ne.mpr c24
          have c24b1 : ((rd t155 x11_2) != a1_3) = true := bne_iff_ne.mpr c24
          have H' := Aside0.mk H
          clear H
          obtain ⟨Ao30, co30, eo30⟩ := Kd.R_slice HO_10.out
          subst eo30
          have p158 : 0 ≤ (x11_2 : Int) := od_
          have q158 : x11_2 < (t155.length : Int) := od_
          obtain ⟨ad158, e158, hx158_0⟩ := Kd.at_int (Kd.R_reads' HO_10.out).2.2 x11_2 p158 q158
          cases e158
          replace p158 := eq_true p158
          replace q158 := eq_true q158
          have hcz31_0 : wr.cell? ⟨gb151, 0, none⟩ = some (.int .i64 a1_0) := (blk_cell BK151.out 0).trans rfl
          have hcz31_1 : wr.cell? ⟨gb151, 1, none⟩ = some (.int .i64 a1_1) := (blk_cell BK151.out 1).trans rfl
          have hcz31_2 : wr.cell? ⟨gb151, 2, none⟩ = some (.int .i64 a1_2) := (blk_cell BK151.out 2).trans rfl
          have hcz31_3 : wr.cell? ⟨gb151, 3, none⟩ = some (.int .i64 a1_3) := (blk_cell BK151.out 3).trans rfl
          have hcz31_4 : wr.cell? ⟨gb151, 4, none⟩ = some (.string a1_4) := (blk_cell BK151.out 4).trans rfl
          have hfz31_0 := blk_frozen BK151.out 0
          have hfz31_1 := blk_frozen BK151.out 1
          have hfz31_2 := blk_frozen BK151.out 2
          have hfz31_3 := blk_frozen BK151.out 3
          have hfz31_4 := blk_frozen BK151.out 4
          go_wp2
          repeat (go_quiet (fail); try go_wp2)
          go_roundg k2
          case measure => have := HJ3.out; have := HK2.out; omega
          case rel => exact ⟨(x9_2), (wrap64 (x11_2 + 1)), (si_), (si_), H', ⟨by have := HJ3.out; have := HK2.out; omega⟩, ⟨by (with_reducible repeat (first | apply Kd.R_alloc | apply Kd.R_drewN | apply Kd.R_drew)); exact HO_10.out⟩, ⟨by (with_reducible repeat (first | refine blk_drewN ?_ _ | refine blk_drew ?_ | refine blk_alloc ?_ _)); exact BK151.out⟩, ⟨bel_⟩⟩
        ·rw [if_neg c23] at H
         exact absurd H (by simp)
       ·rw [if_neg c22] at H
        have c22b0 : decide (x11_2 < (t155.length : Int)) = false := decide_eq_false c22
        clear c22
        simp only [Option.some.injEq, Prod.mk.injEq] at H
        obtain ⟨rfl, rfl, rfl⟩ := H
        obtain ⟨Ao32, co32, eo32⟩ := Kd.R_slice HO_10.out
        subst eo32
        go_wp2
        repeat (go_quiet (fail); try go_wp2)
        go_ret3
        exact ⟨fi_, bel_⟩

end Go.Proofs.YtkopimbbgckcnaaDoor.P
