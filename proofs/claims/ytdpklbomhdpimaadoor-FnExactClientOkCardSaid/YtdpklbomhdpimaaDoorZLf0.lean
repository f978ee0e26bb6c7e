/- Joined by a program (wip/shake.py): the declarations that 'YtdpklbomhdpimaaDoorCardFnExactClientOk' reaches. -/
import Derived.Below
import Derived.Deep.Draws
import Derived.Deep.AppendLies
import Derived.Maps.AppendAt
import Derived.OwnWalk
import Derived.Laws.BytesArg
import Derived.Laws.MakeOwn
import Derived.Laws.OwnMore
import Derived.Deep.OwnRows
import Derived.Tactics
import Derived.Lib.ConvBytes
import Derived.Laws.Slices
import Derived.WalkKit
import Derived.KernelRfl
import Derived.RowKit3
import Derived.Deep.LoopGhost
import Derived.Deep.QuietTactic
import Derived.BigQuiet
import Derived.WideLaws
import Derived.Deep.DeepCutAuto
import Derived.Deep.CutBlock
import Derived.Deep.RegionHeld3
import Derived.Laws.Rows
import Derived.Lib.AppendStr
import Derived.ArgAppend
import Derived.Laws.IdiomCopy
import Derived.OrdersHeld
import Derived.Laws.BitsLemmas
import Derived.RowKit
import Derived.Deep.CutRange
import Derived.Lib.LaidTab
import Derived.Lib.Hide
import Derived.Maps.OwnOps
import Derived.Maps.OwnSet
import Derived.Outline
import Derived.RegionTactic
import Derived.LoopTactic
import Derived.LaidEqlPtr
import Derived.RangeFuncFrom
import Derived.RangeFuncNested
import Derived.RangeFuncBound
import Derived.RangeFuncCalls
import Derived.RangeFuncLeaves
import Derived.Shelf.Abstract
import Derived.Shelf.RegionOpen
import Derived.OwnWalkIn
import Derived.TacticsInMore
import Derived.LoopNIn
import Derived.LoopIn
import Derived.RangeFuncWrites
import Derived.LaidMore
import Derived.LaidLaws
import Derived.ProofKit
import Derived.ChangeVars
import Derived.Deep.Slices
import Derived.Lib.SmallJoins
import Derived.ChangeSame
import Derived.OpenShut
import Derived.ShutString
import Derived.ChangeOld
import Derived.SizedLaws
import Derived.SevenTiedAt
import Derived.Test.YtdpklbomhdpimaaDoorCards
import Derived.Test.YtdpklbomhdpimaaDoorRows
import Derived.Test.YtdpklbomhdpimaaDoorTie
import Derived.Test.YtdpklbomhdpimaaDoorZLfV
set_option linter.unusedVariables false
set_option linter.unusedSimpArgs false
set_option linter.unusedSectionVars false
namespace Go.Proofs.YtdpklbomhdpimaaDoor.P
open Go.RowKit Go.Proofs.YtdpklbomhdpimaaDoorW.PrintWords Go.Proofs.YtdpklbomhdpimaaDoorW.PrintLast Go.Proofs.YtdpklbomhdpimaaDoorW.PrintMore
theorem bel_ {p : Prop} (h : p := by repeat (first | (with_reducible first | exact HB.out | apply below_alloc | apply pw_below_drewN | apply below_drew1 | refine below_set ?_ (Aside0.out (by assumption))) | exact HB.out)) : p := h
theorem bp_ {p q : Prop} (h : p) (f : p → q := by intro h_; (with_reducible repeat (first | refine blk_drewN ?_ _ | refine blk_drew ?_ | refine blk_alloc ?_ _)); exact h_) : q := f h
theorem rp_ {p q : Prop} (h : p) (f : p → q := by intro h_; (with_reducible repeat (first | apply Kd.R_alloc | apply Kd.R_drewN | apply Kd.R_drew)); exact h_) : q := f h
theorem ar_ {p : Prop} (h : p := by (try simp only [List.map_toArray, List.map_cons, List.map_nil]); first | done | rfl | (simp only [List.length_drop, List.length_take]; rfl)) : p := h
theorem fi_ {p : Prop} (h : p := by first | rfl | (simp [errW_none, errW_some] <;> rfl) | (simp [*, errW_none, errW_some] <;> rfl)) : p := h
theorem cp_ {p q : Prop} (h : p) (f : p → q := by intro h_; repeat (first | exact (Kd.C_below h_ HB.out) | (with_reducible refine Kd.C_alloc ?_ _) | (with_reducible refine Kd.C_drewN ?_ _) | (with_reducible refine Kd.C_drew ?_))) : q := f h
theorem ke_ {p : Prop} (h : p := by repeat (first | (with_reducible first | exact HK.out | apply KeepBut.set_ | apply keep_drewN | apply keep_drew | apply keep_alloc) | exact HK.out)) : p := h
theorem kf_ {w w1 W : World} {g : Nat} {row : Option Nat} (h0 : KeepBut w w1 g row) (h : KeepBut w W g row := by repeat (first | (with_reducible first | exact HK.out | apply KeepBut.set_ | apply keep_drewN | apply keep_drew | apply keep_alloc | refine keep_far ?_ (Aside0.out (by assumption)) _) | exact HK.out)) : KeepBut w W g row := h
theorem qp_ {p q : Prop} (h : p) (f : p → q := by intro h_; (with_reducible repeat (first | apply Kd.Q_alloc | apply Kd.Q_drewN | apply Kd.Q_drew)); exact h_) : q := f h
theorem cz_ {W : World} {g : Nat} {t : TypeId} {cs : Array Value} (h : W.heap[g]? = some (.cells cs t (0, 0))) (i : Nat) (v : Value) (hv : cs[i]? = some v := by exact rfl) : W.cell? ⟨g, i, none⟩ = some v := (blk_cell h i).trans hv
theorem kb_ {w w1 W0 : World} {g g' : Nat} {o : Obj} (hk : KeepBut w w1 g none) (h0 : W0.heap[g']? = some o) (hn : g' ≠ g) (f : W0.heap[g']? = some o → w.heap[g']? = some o := by intro h_; (with_reducible repeat (first | refine blk_drewN ?_ _ | refine blk_drew ?_ | refine blk_alloc ?_ _)); exact h_) : w1.heap[g']? = some o := hk.blk (f h0) hn (by simp)
theorem bb_ {w w1 W0 : World} {g : Nat} {o : Obj} (h0 : W0.heap[g]? = some o) (hb : Below w.heap.size w w1) (f : W0.heap[g]? = some o → w.heap[g]? = some o := by intro h_; (with_reducible repeat (first | refine blk_drewN ?_ _ | refine blk_drew ?_ | refine blk_alloc ?_ _)); exact h_) : w1.heap[g]? = some o := blk_below (f h0) hb
theorem bx_ {P : Program} {ops : Array Oper} {Q : Exit → Act → World → Prop} {rest : List Oper} {o : Oper} {a : Act} {W : World} (N : Tmp) (cs : Array Value) (t : TypeId)
    (h : ∀ g, g = W.heap.size → ∀ w1, w1.heap[g]? = some (.cells cs t (0, 0)) → Below W.heap.size W w1 → wpList P ops Q rest (a.put o.dst (.pointer (some ⟨g, 0, none⟩))) w1) (hd : o.dst = some N := by exact rfl) (hg : o.guard = none := by exact rfl)
    (hr : (execOp a.eval o).run P W = .ok (.value (.pointer (some ⟨W.heap.size, 0, none⟩))) (W.alloc (.cells cs t (0, 0))) := by first | (go_simp; done) | (go_simp; rfl)) : wpList P ops Q (o :: rest) a W := box_event hg hd hr h
theorem cx_ {p q : Prop} (h : p) (f : p → q := by intro h_; repeat (first | exact h_ | (with_reducible refine Kd.C_alloc ?_ _) | (with_reducible refine Kd.C_drewN ?_ _) | (with_reducible refine Kd.C_drew ?_))) : q := f h
theorem hg_ {p : Prop} (h : p := by repeat (first | (with_reducible first | exact HG.out | apply Glob.drewN | apply Glob.drew) | exact HG.out)) : p := h
theorem od_ {p : Prop} [d : Decidable p] (h : decide p = true := by first | (with_reducible assumption) | assumption) : p := of_decide_eq_true h
theorem si_ {p : Prop} (h : p := by first | rfl | (simp; done) | (simp [*]; done)) : p := h
theorem cb_ {w w' : World} {p : Addr} {v : Value} (hb : Below w.heap.size w w') (h : w.cell? p = some v) : w'.cell? p = some v := (hb.cell (World.block_lt_of_cell? w _ h)).trans h
theorem gl_ {P : Program} {ops : Array Oper} {Q : Exit → Act → World → Prop} {rest : List Oper} {oi : Oper} {a : Act} {w : World} (n : Tmp) {f : FuncId} {fn : Func} (hf : P.funcs[f]? = some fn) (args : Array Value) {as_ : Array Operand} {ts : Array TypeId}
    (h : Calls P f args w fun e w' => ∃ v, e = .returned v ∧ wpList P ops Q rest (a.put (some n) v) w') (hd : oi.dst = some n := by exact rfl) (hg : oi.guard = none := by exact rfl)
    (hname : (fn.name == "runtime.NumGoroutine") = false := by kernel_rfl) (hb : fn.body.isSome = true := by exact rfl) (hop : oi.op = .call { callee := .value (.func f), args := as_, argTypes := ts } := by exact rfl)
    (hargs : as_.map a.eval = args := by (try simp only [List.map_toArray, List.map_cons, List.map_nil]); first | done | rfl | (simp only [List.length_drop, List.length_take]; rfl)) : wpList P ops Q (oi :: rest) a w := goesL_ (some n) hd hg hf hname hb args hop hargs h
theorem pa_ {P : Program} {md : Region.Mode} {ops : Array Oper} {Q : Exit → Act → World → Prop} {S : World → Prop} {ds : List Nat} (i : Nat) (n : Tmp) {oi : Oper} {v : Value} {fuel : Nat} {l : Array Bool} {a : Act} {w : World} {a' : Act}
    (h : wpAnyLast P md ops Q S ds fuel (l.setIfInBounds i true) a' w) (hi : ops[i]? = some oi := by exact rfl) (hN : oi.dst = some n := by exact rfl) (hc : anyB md ops l (l.setIfInBounds i true) i = true := by exact any_of HT_.out (by kernel_rfl))
    (hQ : ∀ c a w, Q (.panic c) (a.put oi.dst v) w → Q (.panic c) a w := by exact fun _ _ _ h => h) (hy : Yields P ops oi v a := by exact Or.inl ⟨by rfl, by intro w'; go_simp; with_reducible rfl⟩)
    (ha : a.put (some n) v = a' := by simp only [Act.put, List.setIfInBounds_toArray, List.set_cons_zero, List.set_cons_succ, i64_w, i32_w]; rfl) : wpAnyLast P md ops Q S ds (fuel + 1) l a w := pure_ _ hi hN hc hQ hy ha h
theorem po_ {P : Program} {md : Region.Mode} {ops : Array Oper} {Q : Exit → Act → World → Prop} {S : World → Prop} {ds : List Nat} (i : Nat) (n : Tmp) {oi : Oper} {fuel : Nat} {l : Array Bool} {a : Act} {w : World} {a' : Act}
    (h : wpAnyLast P md ops Q S ds fuel (l.setIfInBounds i true) a' w) (hi : ops[i]? = some oi := by exact rfl) (hN : oi.dst = some n := by exact rfl) (hc : anyB md ops l (l.setIfInBounds i true) i = true := by exact any_of HT_.out (by kernel_rfl))
    (hQ : ∀ c a w, Q (.panic c) (a.put oi.dst undef) w → Q (.panic c) a w := by exact fun _ _ _ h => h) (hy : Yields P ops oi undef a := by exact Or.inr ⟨by rfl, rfl⟩)
    (ha : a.put (some n) undef = a' := by simp only [Act.put, List.setIfInBounds_toArray, List.set_cons_zero, List.set_cons_succ, i64_w, i32_w]; rfl) : wpAnyLast P md ops Q S ds (fuel + 1) l a w := pure_ _ hi hN hc hQ hy ha h
theorem on_ {P : Program} {md : Region.Mode} {ops : Array Oper} {Q : Exit → Act → World → Prop} {S : World → Prop} {ds : List Nat} (i : Nat) (n : Tmp) {oi : Oper} {fuel : Nat} {l : Array Bool} {a : Act} {w : World}
    (h : ∀ K : Act → World → Prop, Shut (∀ a' w', S w' → (S w' → wpAnyLast P md ops Q S ds fuel (l.setIfInBounds i true) a' w') → K a' w') → if Region.wanted oi (yielded ops a.tmps) = true then Oper.wp P oi a w K Q else K (a.put (some n) undef) w)
    (hi : ops[i]? = some oi := by exact rfl) (hN : oi.dst = some n := by exact rfl) (hc : readyB md ops l (l.setIfInBounds i true) i = true := by exact one_of HT_.out (by kernel_rfl)) (hd : i ∉ ds := by decide) : wpAnyLast P md ops Q S ds (fuel + 1) l a w := one_ _ hi hN hc hd h
theorem no_ (n : Tmp) {P : Program} {md : Region.Mode} {ops : Array Oper} {Q : Exit → Act → World → Prop} {S : World → Prop} {ds : List Nat} {fuel : Nat} {l : Array Bool} {a a' : Act} {v : Value} {w : World} (h : wpAnyLast P md ops Q S ds fuel l a' w)
    (ha : a.put (some n) v = a' := by simp only [Act.put, List.setIfInBounds_toArray, List.set_cons_zero, List.set_cons_succ, i64_w, i32_w]; rfl) : wpAnyLast P md ops Q S ds fuel l (a.put (some n) v) w := norm_ ha h
theorem ta3_ {P : Program} {md : Region.Mode} {ops : Array Oper} {Q : Exit → Act → World → Prop} {S : World → Prop} {ds : List Nat} (i : Nat) (n : Tmp) {oi : Oper} {v : Value} {fuel : Nat} {l : Array Bool} {a : Act} {w : World} {a' : Act} (hS : S w)
    (h : wpAnyLast P md ops Q S ds fuel (l.setIfInBounds i true) a' w) (hi : ops[i]? = some oi := by exact rfl) (hN : oi.dst = some n := by exact rfl) (hc : takeB md ops ds l (l.setIfInBounds i true) i = true := by exact take_ofW HT_.out HW_.out (by kernel_rfl))
    (hQ : ∀ c a w, Q (.panic c) (a.put oi.dst v) w → Q (.panic c) a w := by exact fun _ _ _ h => h) (hy : YieldsIf P ops S oi v a := by exact Or.inl ⟨by rfl, by rintro w' ⟨s0, s1, s2⟩; go_simp; with_reducible rfl⟩)
    (ha : a.put (some n) v = a' := by simp only [Act.put, List.setIfInBounds_toArray, List.set_cons_zero, List.set_cons_succ, i64_w, i32_w]; rfl) : wpAnyLast P md ops Q S ds (fuel + 1) l a w := take_ _ hi hN hc hQ hy hS ha h
theorem ta6_ {P : Program} {md : Region.Mode} {ops : Array Oper} {Q : Exit → Act → World → Prop} {S : World → Prop} {ds : List Nat} (i : Nat) (n : Tmp) {oi : Oper} {v : Value} {fuel : Nat} {l : Array Bool} {a : Act} {w : World} {a' : Act} (hS : S w)
    (h : wpAnyLast P md ops Q S ds fuel (l.setIfInBounds i true) a' w) (hi : ops[i]? = some oi := by exact rfl) (hN : oi.dst = some n := by exact rfl) (hc : takeB md ops ds l (l.setIfInBounds i true) i = true := by exact take_ofW HT_.out HW_.out (by kernel_rfl))
    (hQ : ∀ c a w, Q (.panic c) (a.put oi.dst v) w → Q (.panic c) a w := by exact fun _ _ _ h => h) (hy : YieldsIf P ops S oi v a := by exact Or.inl ⟨by rfl, by rintro w' ⟨s0, s1, s2, s3, s4, s5⟩; go_simp; with_reducible rfl⟩)
    (ha : a.put (some n) v = a' := by simp only [Act.put, List.setIfInBounds_toArray, List.set_cons_zero, List.set_cons_succ, i64_w, i32_w]; rfl) : wpAnyLast P md ops Q S ds (fuel + 1) l a w := take_ _ hi hN hc hQ hy hS ha h
theorem ta9_ {P : Program} {md : Region.Mode} {ops : Array Oper} {Q : Exit → Act → World → Prop} {S : World → Prop} {ds : List Nat} (i : Nat) (n : Tmp) {oi : Oper} {v : Value} {fuel : Nat} {l : Array Bool} {a : Act} {w : World} {a' : Act} (hS : S w)
    (h : wpAnyLast P md ops Q S ds fuel (l.setIfInBounds i true) a' w) (hi : ops[i]? = some oi := by exact rfl) (hN : oi.dst = some n := by exact rfl) (hc : takeB md ops ds l (l.setIfInBounds i true) i = true := by exact take_ofW HT_.out HW_.out (by kernel_rfl))
    (hQ : ∀ c a w, Q (.panic c) (a.put oi.dst v) w → Q (.panic c) a w := by exact fun _ _ _ h => h) (hy : YieldsIf P ops S oi v a := by exact Or.inl ⟨by rfl, by rintro w' ⟨s0, s1, s2, s3, s4, s5, s6, s7, s8⟩; go_simp; with_reducible rfl⟩)
    (ha : a.put (some n) v = a' := by simp only [Act.put, List.setIfInBounds_toArray, List.set_cons_zero, List.set_cons_succ, i64_w, i32_w]; rfl) : wpAnyLast P md ops Q S ds (fuel + 1) l a w := take_ _ hi hN hc hQ hy hS ha h
theorem ta14_ {P : Program} {md : Region.Mode} {ops : Array Oper} {Q : Exit → Act → World → Prop} {S : World → Prop} {ds : List Nat} (i : Nat) (n : Tmp) {oi : Oper} {v : Value} {fuel : Nat} {l : Array Bool} {a : Act} {w : World} {a' : Act} (hS : S w)
    (h : wpAnyLast P md ops Q S ds fuel (l.setIfInBounds i true) a' w) (hi : ops[i]? = some oi := by exact rfl) (hN : oi.dst = some n := by exact rfl) (hc : takeB md ops ds l (l.setIfInBounds i true) i = true := by exact take_ofW HT_.out HW_.out (by kernel_rfl))
    (hQ : ∀ c a w, Q (.panic c) (a.put oi.dst v) w → Q (.panic c) a w := by exact fun _ _ _ h => h) (hy : YieldsIf P ops S oi v a := by exact Or.inl ⟨by rfl, by rintro w' ⟨s0, s1, s2, s3, s4, s5, s6, s7, s8, s9, s10, s11, s12, s13⟩; go_simp; with_reducible rfl⟩)
    (ha : a.put (some n) v = a' := by simp only [Act.put, List.setIfInBounds_toArray, List.set_cons_zero, List.set_cons_succ, i64_w, i32_w]; rfl) : wpAnyLast P md ops Q S ds (fuel + 1) l a w := take_ _ hi hN hc hQ hy hS ha h
end Go.Proofs.YtdpklbomhdpimaaDoor.P
namespace Go.Proofs.YtdpklbomhdpimaaDoor.P
open Go.RowKit Go.Proofs.YtdpklbomhdpimaaDoorW.PrintWords Go.Proofs.YtdpklbomhdpimaaDoorW.PrintLast
def errW : Option Int → Value
 | none => .nilIface
 | some c => .iface 0 (.int .i64 c)
theorem errW_none : errW none = .nilIface := rfl
theorem errW_some (c : Int) : errW (some c) = .iface 0 (.int .i64 c) := rfl

theorem info44 : (Tryd.prog.info? 44).map (fun i => (i.zero, i.size, i.bytes)) = some (some (.agg #[(.int .i64 0), (.int .i64 0), (.int .i64 0), (.int .i64 0), (.int .i64 0), (.int .i64 0), (.string ⟨#[]⟩)]), 7, 64) := by kernel_rfl
theorem info69 : (Tryd.prog.info? 69).map (fun i => (i.zero, i.size, i.bytes)) = some (some (.agg #[(.int .i64 0), (.int .i64 0), (.string ⟨#[]⟩)]), 3, 32) := by kernel_rfl
structure S42 where
 f0 : Int
 f1 : Int
 f2 : Int
 f3 : Int
 f4 : ByteArray
def z42 : S42 := ⟨(0 : Int), (0 : Int), (0 : Int), (0 : Int), (⟨#[]⟩ : ByteArray)⟩
def k42 : Kd S42 := Kd.iso (Kd.pair (Kd.int .i64) (Kd.pair (Kd.int .i64) (Kd.pair (Kd.int .i64) (Kd.pair (Kd.int .i64) Kd.string)))) (fun x : S42 => (x.f0, x.f1, x.f2, x.f3, x.f4))
theorem k42_open {w : World} {x : S42} {cs : List Value} (h : k42.K w x cs) : cs = [.int .i64 x.f0, .int .i64 x.f1, .int .i64 x.f2, .int .i64 x.f3, .string x.f4] := by
 obtain ⟨_, _, rfl, rfl, ⟨_, _, rfl, rfl, ⟨_, _, rfl, rfl, ⟨_, _, rfl, rfl, rfl⟩⟩⟩⟩ := h
 exact rfl
theorem k42_openM {w : World} {base : Nat} {ok : Nat → Prop} {x : S42} {cs : List Value} (h : k42.M w base ok x cs) : cs = [.int .i64 x.f0, .int .i64 x.f1, .int .i64 x.f2, .int .i64 x.f3, .string x.f4] := by
 obtain ⟨_, _, rfl, rfl, ⟨_, _, rfl, rfl, ⟨_, _, rfl, rfl, ⟨_, _, rfl, rfl, rfl⟩⟩⟩⟩ := h
 exact rfl
theorem k42_mkM (w : World) (base : Nat) (ok : Nat → Prop) (x : S42)  : k42.M w base ok x [.int .i64 x.f0, .int .i64 x.f1, .int .i64 x.f2, .int .i64 x.f3, .string x.f4] := ⟨[.int .i64 x.f0], [.int .i64 x.f1, .int .i64 x.f2, .int .i64 x.f3, .string x.f4], rfl, rfl, ⟨[.int .i64 x.f1], [.int .i64 x.f2, .int .i64 x.f3, .string x.f4], rfl, rfl, ⟨[.int .i64 x.f2], [.int .i64 x.f3, .string x.f4], rfl, rfl, ⟨[.int .i64 x.f3], [.string x.f4], rfl, rfl, rfl⟩⟩⟩⟩
structure S44 where
 f0 : Int
 f1 : Int
 f2 : S42
def z44 : S44 := ⟨(0 : Int), (0 : Int), z42⟩
def k44 : Kd S44 := Kd.iso (Kd.pair (Kd.int .i64) (Kd.pair (Kd.int .i64) k42)) (fun x : S44 => (x.f0, x.f1, x.f2))
theorem k44_open {w : World} {x : S44} {cs : List Value} (h : k44.K w x cs) : cs = [.int .i64 x.f0, .int .i64 x.f1, .int .i64 x.f2.f0, .int .i64 x.f2.f1, .int .i64 x.f2.f2, .int .i64 x.f2.f3, .string x.f2.f4] := by
 obtain ⟨_, _, rfl, rfl, ⟨_, _, rfl, rfl, s2⟩⟩ := h
 obtain rfl := k42_open s2
 exact rfl
theorem k44_openM {w : World} {base : Nat} {ok : Nat → Prop} {x : S44} {cs : List Value} (h : k44.M w base ok x cs) : cs = [.int .i64 x.f0, .int .i64 x.f1, .int .i64 x.f2.f0, .int .i64 x.f2.f1, .int .i64 x.f2.f2, .int .i64 x.f2.f3, .string x.f2.f4] := by
 obtain ⟨_, _, rfl, rfl, ⟨_, _, rfl, rfl, s2⟩⟩ := h
 obtain rfl := k42_openM s2
 exact rfl
theorem k44_mkM (w : World) (base : Nat) (ok : Nat → Prop) (x : S44)  : k44.M w base ok x [.int .i64 x.f0, .int .i64 x.f1, .int .i64 x.f2.f0, .int .i64 x.f2.f1, .int .i64 x.f2.f2, .int .i64 x.f2.f3, .string x.f2.f4] := ⟨[.int .i64 x.f0], [.int .i64 x.f1, .int .i64 x.f2.f0, .int .i64 x.f2.f1, .int .i64 x.f2.f2, .int .i64 x.f2.f3, .string x.f2.f4], rfl, rfl, ⟨[.int .i64 x.f1], [.int .i64 x.f2.f0, .int .i64 x.f2.f1, .int .i64 x.f2.f2, .int .i64 x.f2.f3, .string x.f2.f4], rfl, rfl, (k42_mkM w base ok x.f2 )⟩⟩
def rd_T44 (xs : List S44) (i : Int) : S44 := xs.getD i.toNat z44
theorem at_T44 {w : World} {A : Option Addr} {n : Nat} {xs : List S44} (h : Kd.C k44 w A n xs) (i : Int) (h0 : 0 ≤ i) (h1 : i < n) : ∃ ad , A = some ad ∧ w.cell? (ad.add (i.toNat * 7)) = some (.int .i64 (rd_T44 xs i).f0) ∧ w.cell? ⟨(ad.add (i.toNat * 7)).block, (ad.add (i.toNat * 7)).off + 1, none⟩ = some (.int .i64 (rd_T44 xs i).f1) ∧ w.cell? ⟨(ad.add (i.toNat * 7)).block, (ad.add (i.toNat * 7)).off + 2, none⟩ = some (.int .i64 (rd_T44 xs i).f2.f0) ∧ w.cell? ⟨(ad.add (i.toNat * 7)).block, (ad.add (i.toNat * 7)).off + 3, none⟩ = some (.int .i64 (rd_T44 xs i).f2.f1) ∧ w.cell? ⟨(ad.add (i.toNat * 7)).block, (ad.add (i.toNat * 7)).off + 4, none⟩ = some (.int .i64 (rd_T44 xs i).f2.f2) ∧ w.cell? ⟨(ad.add (i.toNat * 7)).block, (ad.add (i.toNat * 7)).off + 5, none⟩ = some (.int .i64 (rd_T44 xs i).f2.f3) ∧ w.cell? ⟨(ad.add (i.toNat * 7)).block, (ad.add (i.toNat * 7)).off + 6, none⟩ = some (.string (rd_T44 xs i).f2.f4) := by
 obtain ⟨ad, c, e, _, hK, hc0⟩ := Kd.C_get h z44 i h0 h1
 have hc : ∀ j u, c[j]? = some u → w.cell? (ad.add (i.toNat * 7 + j)) = some u := hc0
 obtain rfl := k44_open hK
 exact ⟨ad, e, hc 0 _ rfl, by rw [← add_field _ _ 1 (by omega)]; exact hc 1 _ rfl, by rw [← add_field _ _ 2 (by omega)]; exact hc 2 _ rfl, by rw [← add_field _ _ 3 (by omega)]; exact hc 3 _ rfl, by rw [← add_field _ _ 4 (by omega)]; exact hc 4 _ rfl, by rw [← add_field _ _ 5 (by omega)]; exact hc 5 _ rfl, by rw [← add_field _ _ 6 (by omega)]; exact hc 6 _ rfl⟩

structure S69 where
 f0 : Int
 f1 : Int
 f2 : ByteArray
def z69 : S69 := ⟨(0 : Int), (0 : Int), (⟨#[]⟩ : ByteArray)⟩
def k69 : Kd S69 := Kd.iso (Kd.pair (Kd.int .i64) (Kd.pair (Kd.int .i64) Kd.string)) (fun x : S69 => (x.f0, x.f1, x.f2))
theorem k69_open {w : World} {x : S69} {cs : List Value} (h : k69.K w x cs) : cs = [.int .i64 x.f0, .int .i64 x.f1, .string x.f2] := by
 obtain ⟨_, _, rfl, rfl, ⟨_, _, rfl, rfl, rfl⟩⟩ := h
 exact rfl
theorem k69_openM {w : World} {base : Nat} {ok : Nat → Prop} {x : S69} {cs : List Value} (h : k69.M w base ok x cs) : cs = [.int .i64 x.f0, .int .i64 x.f1, .string x.f2] := by
 obtain ⟨_, _, rfl, rfl, ⟨_, _, rfl, rfl, rfl⟩⟩ := h
 exact rfl
theorem k69_mkM (w : World) (base : Nat) (ok : Nat → Prop) (x : S69)  : k69.M w base ok x [.int .i64 x.f0, .int .i64 x.f1, .string x.f2] := ⟨[.int .i64 x.f0], [.int .i64 x.f1, .string x.f2], rfl, rfl, ⟨[.int .i64 x.f1], [.string x.f2], rfl, rfl, rfl⟩⟩
def rd_T69 (xs : List S69) (i : Int) : S69 := xs.getD i.toNat z69
theorem at_T69 {w : World} {A : Option Addr} {n : Nat} {xs : List S69} (h : Kd.C k69 w A n xs) (i : Int) (h0 : 0 ≤ i) (h1 : i < n) : ∃ ad , A = some ad ∧ w.cell? (ad.add (i.toNat * 3)) = some (.int .i64 (rd_T69 xs i).f0) ∧ w.cell? ⟨(ad.add (i.toNat * 3)).block, (ad.add (i.toNat * 3)).off + 1, none⟩ = some (.int .i64 (rd_T69 xs i).f1) ∧ w.cell? ⟨(ad.add (i.toNat * 3)).block, (ad.add (i.toNat * 3)).off + 2, none⟩ = some (.string (rd_T69 xs i).f2) := by
 obtain ⟨ad, c, e, _, hK, hc0⟩ := Kd.C_get h z69 i h0 h1
 have hc : ∀ j u, c[j]? = some u → w.cell? (ad.add (i.toNat * 3 + j)) = some u := hc0
 obtain rfl := k69_open hK
 exact ⟨ad, e, hc 0 _ rfl, by rw [← add_field _ _ 1 (by omega)]; exact hc 1 _ rfl, by rw [← add_field _ _ 2 (by omega)]; exact hc 2 _ rfl⟩

structure S34 where
 f0 : Int
 f1 : Int
 f2 : Int
 f3 : Int
 f4 : ByteArray
def z34 : S34 := ⟨(0 : Int), (0 : Int), (0 : Int), (0 : Int), (⟨#[]⟩ : ByteArray)⟩
def k34 : Kd S34 := Kd.iso (Kd.pair (Kd.int .i64) (Kd.pair (Kd.int .i64) (Kd.pair (Kd.int .i64) (Kd.pair (Kd.int .i64) Kd.string)))) (fun x : S34 => (x.f0, x.f1, x.f2, x.f3, x.f4))
theorem k34_open {w : World} {x : S34} {cs : List Value} (h : k34.K w x cs) : cs = [.int .i64 x.f0, .int .i64 x.f1, .int .i64 x.f2, .int .i64 x.f3, .string x.f4] := by
 obtain ⟨_, _, rfl, rfl, ⟨_, _, rfl, rfl, ⟨_, _, rfl, rfl, ⟨_, _, rfl, rfl, rfl⟩⟩⟩⟩ := h
 exact rfl
theorem k34_mk (w : World) (x : S34)  : k34.K w x [.int .i64 x.f0, .int .i64 x.f1, .int .i64 x.f2, .int .i64 x.f3, .string x.f4] := ⟨[.int .i64 x.f0], [.int .i64 x.f1, .int .i64 x.f2, .int .i64 x.f3, .string x.f4], rfl, rfl, ⟨[.int .i64 x.f1], [.int .i64 x.f2, .int .i64 x.f3, .string x.f4], rfl, rfl, ⟨[.int .i64 x.f2], [.int .i64 x.f3, .string x.f4], rfl, rfl, ⟨[.int .i64 x.f3], [.string x.f4], rfl, rfl, rfl⟩⟩⟩⟩
structure S36 where
 f0 : Int
 f1 : Int
 f2 : S34
def z36 : S36 := ⟨(0 : Int), (0 : Int), z34⟩
def k36 : Kd S36 := Kd.iso (Kd.pair (Kd.int .i64) (Kd.pair (Kd.int .i64) k34)) (fun x : S36 => (x.f0, x.f1, x.f2))
theorem k36_open {w : World} {x : S36} {cs : List Value} (h : k36.K w x cs) : cs = [.int .i64 x.f0, .int .i64 x.f1, .int .i64 x.f2.f0, .int .i64 x.f2.f1, .int .i64 x.f2.f2, .int .i64 x.f2.f3, .string x.f2.f4] := by
 obtain ⟨_, _, rfl, rfl, ⟨_, _, rfl, rfl, s2⟩⟩ := h
 obtain rfl := k34_open s2
 exact rfl
theorem k36_mk (w : World) (x : S36)  : k36.K w x [.int .i64 x.f0, .int .i64 x.f1, .int .i64 x.f2.f0, .int .i64 x.f2.f1, .int .i64 x.f2.f2, .int .i64 x.f2.f3, .string x.f2.f4] := ⟨[.int .i64 x.f0], [.int .i64 x.f1, .int .i64 x.f2.f0, .int .i64 x.f2.f1, .int .i64 x.f2.f2, .int .i64 x.f2.f3, .string x.f2.f4], rfl, rfl, ⟨[.int .i64 x.f1], [.int .i64 x.f2.f0, .int .i64 x.f2.f1, .int .i64 x.f2.f2, .int .i64 x.f2.f3, .string x.f2.f4], rfl, rfl, (k34_mk w x.f2 )⟩⟩
def rd_T36 (xs : List S36) (i : Int) : S36 := xs.getD i.toNat z36
theorem at_T36 {w : World} {A : Option Addr} {n : Nat} {xs : List S36} (h : Kd.C k36 w A n xs) (i : Int) (h0 : 0 ≤ i) (h1 : i < n) : ∃ ad , A = some ad ∧ w.cell? (ad.add (i.toNat * 7)) = some (.int .i64 (rd_T36 xs i).f0) ∧ w.cell? ⟨(ad.add (i.toNat * 7)).block, (ad.add (i.toNat * 7)).off + 1, none⟩ = some (.int .i64 (rd_T36 xs i).f1) ∧ w.cell? ⟨(ad.add (i.toNat * 7)).block, (ad.add (i.toNat * 7)).off + 2, none⟩ = some (.int .i64 (rd_T36 xs i).f2.f0) ∧ w.cell? ⟨(ad.add (i.toNat * 7)).block, (ad.add (i.toNat * 7)).off + 3, none⟩ = some (.int .i64 (rd_T36 xs i).f2.f1) ∧ w.cell? ⟨(ad.add (i.toNat * 7)).block, (ad.add (i.toNat * 7)).off + 4, none⟩ = some (.int .i64 (rd_T36 xs i).f2.f2) ∧ w.cell? ⟨(ad.add (i.toNat * 7)).block, (ad.add (i.toNat * 7)).off + 5, none⟩ = some (.int .i64 (rd_T36 xs i).f2.f3) ∧ w.cell? ⟨(ad.add (i.toNat * 7)).block, (ad.add (i.toNat * 7)).off + 6, none⟩ = some (.string (rd_T36 xs i).f2.f4) := by
 obtain ⟨ad, c, e, _, hK, hc0⟩ := Kd.C_get h z36 i h0 h1
 have hc : ∀ j u, c[j]? = some u → w.cell? (ad.add (i.toNat * 7 + j)) = some u := hc0
 obtain rfl := k36_open hK
 exact ⟨ad, e, hc 0 _ rfl, by rw [← add_field _ _ 1 (by omega)]; exact hc 1 _ rfl, by rw [← add_field _ _ 2 (by omega)]; exact hc 2 _ rfl, by rw [← add_field _ _ 3 (by omega)]; exact hc 3 _ rfl, by rw [← add_field _ _ 4 (by omega)]; exact hc 4 _ rfl, by rw [← add_field _ _ 5 (by omega)]; exact hc 5 _ rfl, by rw [← add_field _ _ 6 (by omega)]; exact hc 6 _ rfl⟩

structure S183 where
 f0 : Int
 f1 : Int
 f2 : ByteArray
def z183 : S183 := ⟨(0 : Int), (0 : Int), (⟨#[]⟩ : ByteArray)⟩
def k183 : Kd S183 := Kd.iso (Kd.pair (Kd.int .i64) (Kd.pair (Kd.int .i64) Kd.string)) (fun x : S183 => (x.f0, x.f1, x.f2))
theorem k183_open {w : World} {x : S183} {cs : List Value} (h : k183.K w x cs) : cs = [.int .i64 x.f0, .int .i64 x.f1, .string x.f2] := by
 obtain ⟨_, _, rfl, rfl, ⟨_, _, rfl, rfl, rfl⟩⟩ := h
 exact rfl
theorem k183_mk (w : World) (x : S183)  : k183.K w x [.int .i64 x.f0, .int .i64 x.f1, .string x.f2] := ⟨[.int .i64 x.f0], [.int .i64 x.f1, .string x.f2], rfl, rfl, ⟨[.int .i64 x.f1], [.string x.f2], rfl, rfl, rfl⟩⟩
def rd_T183 (xs : List S183) (i : Int) : S183 := xs.getD i.toNat z183
theorem at_T183 {w : World} {A : Option Addr} {n : Nat} {xs : List S183} (h : Kd.C k183 w A n xs) (i : Int) (h0 : 0 ≤ i) (h1 : i < n) : ∃ ad , A = some ad ∧ w.cell? (ad.add (i.toNat * 3)) = some (.int .i64 (rd_T183 xs i).f0) ∧ w.cell? ⟨(ad.add (i.toNat * 3)).block, (ad.add (i.toNat * 3)).off + 1, none⟩ = some (.int .i64 (rd_T183 xs i).f1) ∧ w.cell? ⟨(ad.add (i.toNat * 3)).block, (ad.add (i.toNat * 3)).off + 2, none⟩ = some (.string (rd_T183 xs i).f2) := by
 obtain ⟨ad, c, e, _, hK, hc0⟩ := Kd.C_get h z183 i h0 h1
 have hc : ∀ j u, c[j]? = some u → w.cell? (ad.add (i.toNat * 3 + j)) = some u := hc0
 obtain rfl := k183_open hK
 exact ⟨ad, e, hc 0 _ rfl, by rw [← add_field _ _ 1 (by omega)]; exact hc 1 _ rfl, by rw [← add_field _ _ 2 (by omega)]; exact hc 2 _ rfl⟩

def spec_l6In.f (a0 : Int) (a1 : Int) (a2 : Int) : Option (Bool) := if a0 ≥ a1 then (some (decide (a0 ≤ a2))) else (some false)
set_option maxHeartbeats 8000000 in
set_option maxRecDepth 100000 in
theorem spec_l6In.calls (a0 : Int) (a1 : Int) (a2 : Int) (r : Bool) (w : World) (h : spec_l6In.f a0 a1 a2 = some r) :
  Calls Tryd.prog 75 #[.int .i64 a0, .int .i64 a1, .int .i64 a2] w fun e w' => e = .returned (.bool r) ∧ Drawn0 w w' := by
 unfold spec_l6In.f at h
 have H := h
 clear h
 by_cases c4 : a0 ≥ a1
 ·rw [if_pos c4] at H
  have c4b0 : decide (a1 ≤ a0) = true := decide_eq_true c4
  clear c4
  obtain rfl := Option.some.inj H
  go_enter Tryd.func75, Tryd.ntmps75
  go_wp2
  go_ret
  exact ⟨si_, by repeat (first | exact Drawn0.refl _ | apply Drawn0.step)⟩
 ·rw [if_neg c4] at H
  have c4b0 : decide (a1 ≤ a0) = false := decide_eq_false c4
  clear c4
  obtain rfl := Option.some.inj H
  go_enter Tryd.func75, Tryd.ntmps75
  go_wp2
  go_ret
  exact ⟨si_, by repeat (first | exact Drawn0.refl _ | apply Drawn0.step)⟩

def spec_l1Made.f (a0 : Int) : Option (Bool) := (spec_l6In.f (wrap64 (Int.tdiv a0 10)) 1 3).bind fun t166 => (if t166 = true then ((spec_l6In.f (Int.tmod a0 10) 1 6).bind fun t167 => (some t167)) else (some false))
set_option maxHeartbeats 8000000 in
set_option maxRecDepth 100000 in
theorem spec_l1Made.calls (a0 : Int) (r : Bool) (w : World) (h : spec_l1Made.f a0 = some r) :
  Calls Tryd.prog 120 #[.int .i64 a0] w fun e w' => e = .returned (.bool r) ∧ Drawn0 w w' := by
 unfold spec_l1Made.f at h
 have H := h
 clear h
 replace H := Option.bind_eq_some_iff.mp H
 obtain ⟨t166, A20, H⟩ := H
 try dsimp only at H
 have A2 := Aside0.mk A20
 clear A20
 by_cases c3 : t166 = true
 ·subst c3
  have H1 : ((spec_l6In.f (Int.tmod a0 10) 1 6).bind fun t167 => (some t167)) = some r := by rw [if_pos rfl] at H; exact H
  clear H
  have H := H1
  clear H1
  replace H := Option.bind_eq_some_iff.mp H
  obtain ⟨t167, A40, H⟩ := H
  try dsimp only at H
  have A4 := Aside0.mk A40
  clear A40
  obtain rfl := Option.some.inj H
  go_enter Tryd.func120, Tryd.ntmps120
  go_wp2_with (first | ((with_reducible refine gate_callee (f := 75) rfl ?_); refine gl_ 5 Tryd.func75 #[.int .i64 (wrap64 (Int.tdiv a0 10)), .int .i64 1, .int .i64 3] ?_; (with_reducible refine (spec_l6In.calls (wrap64 (Int.tdiv a0 10)) 1 3 true _ A2.out).mono ?_); rintro e w' ⟨rfl, ⟨nd, rfl⟩⟩; refine ⟨_, rfl, ?_⟩) | (go_at_call 75; (with_reducible refine (spec_l6In.calls (Int.tmod a0 10) 1 6 t167 _ A4.out).mono ?_); rintro e w' ⟨rfl, ⟨nd, rfl⟩⟩))
  go_ret
  exact ⟨si_, by repeat (first | exact Drawn0.refl _ | apply Drawn0.step)⟩
 ·replace c3 := Bool.eq_false_iff.mpr c3
  subst c3
  have H1 : (some false) = some r := by rw [if_neg (show ¬ (false = true) by decide)] at H; exact H
  clear H
  have H := H1
  clear H1
  obtain rfl := Option.some.inj H
  go_enter Tryd.func120, Tryd.ntmps120
  go_wp2_with (first | ((with_reducible refine gate_callee (f := 75) rfl ?_); refine gl_ 5 Tryd.func75 #[.int .i64 (wrap64 (Int.tdiv a0 10)), .int .i64 1, .int .i64 3] ?_; (with_reducible refine (spec_l6In.calls (wrap64 (Int.tdiv a0 10)) 1 3 false _ A2.out).mono ?_); rintro e w' ⟨rfl, ⟨nd, rfl⟩⟩; refine ⟨_, rfl, ?_⟩))
  go_ret
  exact ⟨si_, by repeat (first | exact Drawn0.refl _ | apply Drawn0.step)⟩

def spec_l1Text.l0 : Nat → ByteArray → Int → Option (Bool)
 | 0, _, _ => none
 | k + 1, x0, x3 => if x3 < (x0.size : Int) then (if 0 ≤ x3 then ((spec_l6In.f (wrap64 (bt x0 x3)) 97 100).bind fun t168 => (if t168 = true then (spec_l1Text.l0 k x0 (wrap64 (x3 + 1))) else (some false))) else (none)) else (some (decide ((x0.size : Int) ≤ 4)))
def spec_l1Text.f (k : Nat) (a0 : ByteArray) : Option (Bool) := spec_l1Text.l0 k a0 0
theorem spec_l1Text.mono_l : ∀ k, (∀ y0 y1, LeO (spec_l1Text.l0 k y0 y1) (spec_l1Text.l0 (k + 1) y0 y1))
 | 0 => fun _ _ r h => by simp [spec_l1Text.l0] at h
 | k + 1 => by
  have ih0 := spec_l1Text.mono_l k
  ·intro y0 y1
   unfold spec_l1Text.l0
   repeat' first
   | (with_reducible exact ih0 _ _)
   | (with_reducible exact LeO.refl _)
   | (with_reducible exact LeO.none _)
   | (with_reducible refine LeO.ite ?_ ?_)
   | (with_reducible refine LeO.bind ?_ (fun _ => ?_))
   | exact ih0 _ _
   | exact LeO.none _
   | refine LeO.ite ?_ ?_
   | refine LeO.bind ?_ (fun _ => ?_)
theorem spec_l1Text.mono : ∀ a0 k, LeO (spec_l1Text.f k a0) (spec_l1Text.f (k + 1) a0) := by
 intro a0 k
 have ih0 := spec_l1Text.mono_l k
 unfold spec_l1Text.f
 repeat' first
   | (with_reducible exact ih0 _ _)
   | (with_reducible exact LeO.refl _)
   | (with_reducible exact LeO.none _)
   | (with_reducible refine LeO.ite ?_ ?_)
   | (with_reducible refine LeO.bind ?_ (fun _ => ?_))
   | exact ih0 _ _
   | exact LeO.none _
   | refine LeO.ite ?_ ?_
   | refine LeO.bind ?_ (fun _ => ?_)
set_option maxHeartbeats 8000000 in
set_option maxRecDepth 100000 in
theorem spec_l1Text.calls (k : Nat) (a0 : ByteArray) (r : Bool) (w : World) (h : spec_l1Text.f k a0 = some r) :
  Calls Tryd.prog 121 #[.string a0] w fun e w' => e = .returned (.bool r) ∧ Drawn0 w w' := by
 unfold spec_l1Text.f at h
 have H := h
 clear h
 have H' := Aside0.mk H
 clear H
 go_enter Tryd.func121, Tryd.ntmps121
 go_wp2
 go_loopg [3] k (fun kq v3 w' => ∃ (x3_1 : Int), v3 = .int .i64 x3_1 ∧ Aside0 (spec_l1Text.l0 kq a0 x3_1 = some r) ∧ Aside0 (kq ≤ k) ∧ Drawn0 w w')
 case atStart => exact ⟨(0), (si_), H', ⟨Nat.le_refl _⟩, by repeat (first | exact Drawn0.refl _ | apply Drawn0.step)⟩
 case round =>
  clear H'
  try clear c1
  obtain ⟨x3_1, rfl, HA, HK1, ⟨m1, rfl⟩⟩ := hrel
  cases gk with
  | zero => exact absurd HA.out (by simp [spec_l1Text.l0])
  | succ k1 =>
   have H := HA.out
   clear HA
   simp only [spec_l1Text.l0] at H
   by_cases c2 : x3_1 < (a0.size : Int)
   ·rw [if_pos c2] at H
    have c2b0 : decide (x3_1 < (a0.size : Int)) = true := decide_eq_true c2
    clear c2
    by_cases c3 : 0 ≤ x3_1
    ·rw [if_pos c3] at H
     have c3b0 : decide (0 ≤ x3_1) = true := decide_eq_true c3
     clear c3
     replace H := Option.bind_eq_some_iff.mp H
     obtain ⟨t168, A50, H⟩ := H
     try dsimp only at H
     have A5 := Aside0.mk A50
     clear A50
     by_cases c6 : t168 = true
     ·subst c6
      have H1 : (spec_l1Text.l0 k1 a0 (wrap64 (x3_1 + 1))) = some r := by rw [if_pos rfl] at H; exact H
      clear H
      have H := H1
      clear H1
      have H' := Aside0.mk H
      clear H
      have p4 : 0 ≤ (x3_1 : Int) := od_
      have q4 : x3_1 < (a0.size : Int) := od_
      have hx4 := bt_at a0 x3_1
      replace p4 := eq_true p4
      replace q4 := eq_true q4
      go_wp2_with (first | ((with_reducible refine gate_callee (f := 75) rfl ?_); refine gl_ 14 Tryd.func75 #[.int .i64 (wrap64 (bt a0 x3_1)), .int .i64 97, .int .i64 100] ?_; (with_reducible refine (spec_l6In.calls (wrap64 (bt a0 x3_1)) 97 100 true _ A5.out).mono ?_); rintro e w' ⟨rfl, ⟨nd, rfl⟩⟩; refine ⟨_, rfl, ?_⟩))
      go_roundg k1
      case measure => have := HK1.out; omega
      case rel => exact ⟨(wrap64 (x3_1 + 1)), (si_), H', ⟨by have := HK1.out; omega⟩, by repeat (first | exact Drawn0.refl _ | apply Drawn0.step)⟩
     ·replace c6 := Bool.eq_false_iff.mpr c6
      subst c6
      have H1 : (some false) = some r := by rw [if_neg (show ¬ (false = true) by decide)] at H; exact H
      clear H
      have H := H1
      clear H1
      obtain rfl := Option.some.inj H
      have p4 : 0 ≤ (x3_1 : Int) := od_
      have q4 : x3_1 < (a0.size : Int) := od_
      have hx4 := bt_at a0 x3_1
      replace p4 := eq_true p4
      replace q4 := eq_true q4
      go_wp2_with (first | ((with_reducible refine gate_callee (f := 75) rfl ?_); refine gl_ 14 Tryd.func75 #[.int .i64 (wrap64 (bt a0 x3_1)), .int .i64 97, .int .i64 100] ?_; (with_reducible refine (spec_l6In.calls (wrap64 (bt a0 x3_1)) 97 100 false _ A5.out).mono ?_); rintro e w' ⟨rfl, ⟨nd, rfl⟩⟩; refine ⟨_, rfl, ?_⟩))
      go_ret
      exact ⟨si_, by repeat (first | exact Drawn0.refl _ | apply Drawn0.step)⟩
    ·rw [if_neg c3] at H
     exact absurd H (by simp)
   ·rw [if_neg c2] at H
    have c2b0 : decide (x3_1 < (a0.size : Int)) = false := decide_eq_false c2
    clear c2
    obtain rfl := Option.some.inj H
    go_wp2
    go_ret
    exact ⟨si_, by repeat (first | exact Drawn0.refl _ | apply Drawn0.step)⟩

def impl_whoOk.f (a0 : Int) : Option (Bool) := if a0 ≥ 1 then (some (decide (a0 ≤ 3))) else (some false)
set_option maxHeartbeats 8000000 in
set_option maxRecDepth 100000 in
theorem impl_whoOk.calls (a0 : Int) (r : Bool) (w : World) (h : impl_whoOk.f a0 = some r) :
  Calls Tryd.prog 104 #[.int .i64 a0] w fun e w' => e = .returned (.bool r) ∧ Drawn0 w w' := by
 unfold impl_whoOk.f at h
 have H := h
 clear h
 by_cases c2 : a0 ≥ 1
 ·rw [if_pos c2] at H
  have c2b0 : decide (1 ≤ a0) = true := decide_eq_true c2
  clear c2
  obtain rfl := Option.some.inj H
  go_enter Tryd.func104, Tryd.ntmps104
  go_wp2
  go_ret
  exact ⟨si_, by repeat (first | exact Drawn0.refl _ | apply Drawn0.step)⟩
 ·rw [if_neg c2] at H
  have c2b0 : decide (1 ≤ a0) = false := decide_eq_false c2
  clear c2
  obtain rfl := Option.some.inj H
  go_enter Tryd.func104, Tryd.ntmps104
  go_wp2
  go_ret
  exact ⟨si_, by repeat (first | exact Drawn0.refl _ | apply Drawn0.step)⟩

end Go.Proofs.YtdpklbomhdpimaaDoor.P
namespace Go.Proofs.YtdpklbomhdpimaaDoor.P
open Go.RowKit
def owners : List Int := [0, 1, 1, 1, 0, 0, 0, 0, 0, 0, 0, 2, 2, 2, 2, 2, 2, 0, 0, 0, 0, 3, 3, 3, 3, 3, 3, 0, 0, 0, 0, 4, 4, 4, 4, 4, 4]
def Glob (w : World) : Prop := Lib.TabIs Tryd.prog w "loop.example/plashet/impl.rowOwners" .i64 owners
theorem gOwners : Tryd.prog.globalNamed "loop.example/plashet/impl.rowOwners" = some 0 := by kernel_rfl
theorem Glob.var {w : World} (h : Glob w) : w.var? Tryd.prog "loop.example/plashet/impl.rowOwners" = some (owners.map fun z => Value.int .i64 z).toArray := h
theorem Glob.lt {w : World} (h : Glob w) : 0 < w.heap.size := by
 have h := h.var
 unfold World.var? at h
 simp only [gOwners, Option.bind_some] at h
 rcases Nat.lt_or_ge 0 w.heap.size with hl | hl
 ·exact hl
 ·rw [Array.getElem?_eq_none hl] at h
  cases h
theorem Glob.below {w w' : World} (h : Glob w) (hb : Below w.heap.size w w') : Glob w' := by
 have hl := h.lt
 have h := h.var
 unfold Glob Lib.TabIs World.var? at *
 simp only [gOwners, Option.bind_some] at h ⊢
 rw [hb.block _ hl]
 exact h
theorem Glob.drew {w : World} (h : Glob w) : Glob w.drew := by
 have h := h.var
 unfold Glob Lib.TabIs World.var? at *
 exact h
theorem Glob.drewN {w : World} (h : Glob w) (n : Nat) : Glob (w.drewN n) := by
 induction n generalizing w with
 | zero => exact h
 | succ n ih => rw [← World.drew_drewN]; exact ih h.drew
theorem Glob.cell {w : World} (h : Glob w) (i : Nat) (hi : i < 37) : w.cell? ⟨0, i, none⟩ = some (.int .i64 (owners.getD i 0)) := by
 have hc := World.var?_cell gOwners h.var i
 rw [hc]
 have hl : i < owners.length := hi
 simp [List.getD_eq_getElem?_getD, List.getElem?_eq_getElem hl]
def ownI (id : Int) : Int := if 0 ≤ id ∧ id < 37 then owners.getD id.toNat 0 else 0
theorem Glob.at_ {w : World} (h : Glob w) (i : Int) (h0 : 0 ≤ i) (h1 : i < 37) : w.cell? ⟨0, i.toNat, none⟩ = some (.int .i64 (ownI i)) := by
 have := h.cell i.toNat (by omega)
 rw [ownI, if_pos ⟨h0, h1⟩]
 exact this
theorem owners_range : ∀ z ∈ owners, 0 ≤ z ∧ z ≤ 4 := by decide
theorem ownI_range (i : Int) : 0 ≤ ownI i ∧ ownI i ≤ 4 := by
 unfold ownI
 split
 ·rename_i h
  have hl : i.toNat < owners.length := by have : owners.length = 37 := rfl; omega
  rw [List.getD_eq_getElem?_getD, List.getElem?_eq_getElem hl]
  exact owners_range _ (List.getElem_mem hl)
 ·omega
end Go.Proofs.YtdpklbomhdpimaaDoor.P
namespace Go.Proofs.YtdpklbomhdpimaaDoor.P
open Go.RowKit Go.Proofs.YtdpklbomhdpimaaDoorW.PrintWords
def impl_RowWho.f (a0 : Int) : Option (Int × Bool) := some (if ownI a0 = 0 then (0, false) else (ownI a0 - 1, true))
set_option maxHeartbeats 800000 in
theorem impl_RowWho.calls (a0 : Int) (r1 : Int) (r2 : Bool) (w : World) (h : impl_RowWho.f a0 = some (r1, r2)) (hG : Glob w) :
  Calls Tryd.prog 117 #[.int .i64 a0] w fun e w' => e = .returned (.tuple #[.int .i64 r1, .bool r2]) ∧ Drawn0 w w' := by
 unfold impl_RowWho.f at h
 by_cases h0 : 0 ≤ a0
 ·by_cases h1 : a0 < 37
  ·have hc := hG.at_ a0 h0 h1
   have hr := ownI_range a0
   generalize ownI a0 = z at hc hr h
   by_cases hz : z = 0
   ·subst hz
    simp only [if_true, Option.some.injEq, Prod.mk.injEq] at h
    obtain ⟨rfl, rfl⟩ := h
    clear hr hG
    go_enter Tryd.func117, Tryd.ntmps117
    go_wp2
    go_ret2
    exact ⟨rfl, Drawn0.refl _⟩
   ·rw [if_neg hz] at h
    simp only [Option.some.injEq, Prod.mk.injEq] at h
    obtain ⟨rfl, rfl⟩ := h
    have hz1 : (z == 0) = false := beq_eq_false_iff_ne.2 hz
    have hr1 : 0 ≤ z := hr.1
    have hr2 : z ≤ 4 := hr.2
    clear hr hG
    go_enter Tryd.func117, Tryd.ntmps117
    go_wp2
    go_ret2
    exact ⟨rfl, Drawn0.refl _⟩
  ·have e : ownI a0 = 0 := by rw [ownI, if_neg (by omega)]
   rw [if_pos e] at h
   simp only [Option.some.injEq, Prod.mk.injEq] at h
   obtain ⟨rfl, rfl⟩ := h
   clear e hG
   go_enter Tryd.func117, Tryd.ntmps117
   go_wp2
   go_ret2
   exact ⟨rfl, Drawn0.refl _⟩
 ·have e : ownI a0 = 0 := by rw [ownI, if_neg (by omega)]
  rw [if_pos e] at h
  simp only [Option.some.injEq, Prod.mk.injEq] at h
  obtain ⟨rfl, rfl⟩ := h
  clear e hG
  have hlt : a0 < 0 := by omega
  go_enter Tryd.func117, Tryd.ntmps117
  go_wp2
  go_ret2
  exact ⟨rfl, Drawn0.refl _⟩
end Go.Proofs.YtdpklbomhdpimaaDoor.P
namespace Go.Proofs.YtdpklbomhdpimaaDoor.P
open Go.RowKit Go.Proofs.YtdpklbomhdpimaaDoorW.PrintWords Go.Proofs.YtdpklbomhdpimaaDoorW.PrintLast
def impl_isMade.f (a0 : Int) : Option (Bool) := (impl_RowWho.f a0).bind fun bt396 => (if bt396.2 = true then (some (bt396.1 != 0)) else (some false))
set_option maxHeartbeats 8000000 in
set_option maxRecDepth 100000 in
theorem impl_isMade.calls (a0 : Int) (r : Bool) (w : World) (h : impl_isMade.f a0 = some r) (hG : Glob w) :
  Calls Tryd.prog 127 #[.int .i64 a0] w fun e w' => e = .returned (.bool r) ∧ Drawn0 w w' := by
 have HG := Aside0.mk hG
 clear hG
 unfold impl_isMade.f at h
 have H := h
 clear h
 replace H := Option.bind_eq_some_iff.mp H
 obtain ⟨⟨t396, t397⟩, A20, H⟩ := H
 try dsimp only at H
 have A2 := Aside0.mk A20
 clear A20
 by_cases c3 : t397 = true
 ·subst c3
  have H1 : (some (t396 != 0)) = some r := by rw [if_pos rfl] at H; exact H
  clear H
  have H := H1
  clear H1
  obtain rfl := Option.some.inj H
  go_enter Tryd.func127, Tryd.ntmps127
  go_wp2_with (first | ((with_reducible refine gate_callee (f := 117) rfl ?_); refine gl_ 7 Tryd.func117 #[.int .i64 a0] ?_; (with_reducible refine (impl_RowWho.calls a0 t396 true _ A2.out ?side1).mono ?_); (case side1 => exact hg_); rintro e w' ⟨rfl, ⟨nd, rfl⟩⟩; refine ⟨_, rfl, ?_⟩))
  go_ret
  exact ⟨si_, by repeat (first | exact Drawn0.refl _ | apply Drawn0.step)⟩
 ·replace c3 := Bool.eq_false_iff.mpr c3
  subst c3
  have H1 : (some false) = some r := by rw [if_neg (show ¬ (false = true) by decide)] at H; exact H
  clear H
  have H := H1
  clear H1
  obtain rfl := Option.some.inj H
  go_enter Tryd.func127, Tryd.ntmps127
  go_wp2_with (first | ((with_reducible refine gate_callee (f := 117) rfl ?_); refine gl_ 7 Tryd.func117 #[.int .i64 a0] ?_; (with_reducible refine (impl_RowWho.calls a0 t396 false _ A2.out ?side1).mono ?_); (case side1 => exact hg_); rintro e w' ⟨rfl, ⟨nd, rfl⟩⟩; refine ⟨_, rfl, ?_⟩))
  go_ret
  exact ⟨si_, by repeat (first | exact Drawn0.refl _ | apply Drawn0.step)⟩

def impl_isRoot.f (a0 : Int) : Option (Bool) := (impl_RowWho.f a0).bind fun bt398 => (if bt398.2 = true then (some (bt398.1 == 0)) else (some false))
set_option maxHeartbeats 8000000 in
set_option maxRecDepth 100000 in
theorem impl_isRoot.calls (a0 : Int) (r : Bool) (w : World) (h : impl_isRoot.f a0 = some r) (hG : Glob w) :
  Calls Tryd.prog 98 #[.int .i64 a0] w fun e w' => e = .returned (.bool r) ∧ Drawn0 w w' := by
 have HG := Aside0.mk hG
 clear hG
 unfold impl_isRoot.f at h
 have H := h
 clear h
 replace H := Option.bind_eq_some_iff.mp H
 obtain ⟨⟨t398, t399⟩, A20, H⟩ := H
 try dsimp only at H
 have A2 := Aside0.mk A20
 clear A20
 by_cases c3 : t399 = true
 ·subst c3
  have H1 : (some (t398 == 0)) = some r := by rw [if_pos rfl] at H; exact H
  clear H
  have H := H1
  clear H1
  obtain rfl := Option.some.inj H
  go_enter Tryd.func98, Tryd.ntmps98
  go_wp2_with (first | ((with_reducible refine gate_callee (f := 117) rfl ?_); refine gl_ 7 Tryd.func117 #[.int .i64 a0] ?_; (with_reducible refine (impl_RowWho.calls a0 t398 true _ A2.out ?side1).mono ?_); (case side1 => exact hg_); rintro e w' ⟨rfl, ⟨nd, rfl⟩⟩; refine ⟨_, rfl, ?_⟩))
  go_ret
  exact ⟨si_, by repeat (first | exact Drawn0.refl _ | apply Drawn0.step)⟩
 ·replace c3 := Bool.eq_false_iff.mpr c3
  subst c3
  have H1 : (some false) = some r := by rw [if_neg (show ¬ (false = true) by decide)] at H; exact H
  clear H
  have H := H1
  clear H1
  obtain rfl := Option.some.inj H
  go_enter Tryd.func98, Tryd.ntmps98
  go_wp2_with (first | ((with_reducible refine gate_callee (f := 117) rfl ?_); refine gl_ 7 Tryd.func117 #[.int .i64 a0] ?_; (with_reducible refine (impl_RowWho.calls a0 t398 false _ A2.out ?side1).mono ?_); (case side1 => exact hg_); rintro e w' ⟨rfl, ⟨nd, rfl⟩⟩; refine ⟨_, rfl, ?_⟩))
  go_ret
  exact ⟨si_, by repeat (first | exact Drawn0.refl _ | apply Drawn0.step)⟩

def impl_placeOk.f (a0 : Int) (a1 : Int) : Option (Bool) := (impl_isMade.f a0).bind fun t400 => (if t400 = true then (if a1 = 0 then (some true) else ((impl_isMade.f a1).bind fun t401 => (some t401))) else ((impl_isRoot.f a0).bind fun t402 => (if t402 = true then (if a1 = 0 then (some true) else ((impl_isMade.f a1).bind fun t403 => (some t403))) else (some false))))
set_option maxHeartbeats 8000000 in
set_option maxRecDepth 100000 in
theorem impl_placeOk.calls (a0 : Int) (a1 : Int) (r : Bool) (w : World) (h : impl_placeOk.f a0 a1 = some r) (hG : Glob w) :
  Calls Tryd.prog 128 #[.int .i64 a0, .int .i64 a1] w fun e w' => e = .returned (.bool r) ∧ Drawn0 w w' := by
 have HG := Aside0.mk hG
 clear hG
 unfold impl_placeOk.f at h
 have H := h
 clear h
 replace H := Option.bind_eq_some_iff.mp H
 obtain ⟨t400, A30, H⟩ := H
 try dsimp only at H
 have A3 := Aside0.mk A30
 clear A30
 by_cases c4 : t400 = true
 ·subst c4
  have H1 : (if a1 = 0 then (some true) else ((impl_isMade.f a1).bind fun t401 => (some t401))) = some r := by rw [if_pos rfl] at H; exact H
  clear H
  have H := H1
  clear H1
  by_cases c5 : a1 = 0
  ·rw [if_pos c5] at H
   have c5b0 : (a1 == 0) = true := beq_iff_eq.mpr c5
   have c5b1 : (a1 != 0) = false := bne_eq_false_iff_eq.mpr c5
   clear c5
   obtain rfl := Option.some.inj H
   go_enter Tryd.func128, Tryd.ntmps128
   go_wp2_with (first | ((with_reducible refine gate_callee (f := 127) rfl ?_); refine gl_ 6 Tryd.func127 #[.int .i64 a0] ?_; (with_reducible refine (impl_isMade.calls a0 true _ A3.out ?side1).mono ?_); (case side1 => exact hg_); rintro e w' ⟨rfl, ⟨nd, rfl⟩⟩; refine ⟨_, rfl, ?_⟩))
   go_ret
   exact ⟨si_, by repeat (first | exact Drawn0.refl _ | apply Drawn0.step)⟩
  ·rw [if_neg c5] at H
   have c5b0 : (a1 == 0) = false := beq_eq_false_iff_ne.mpr c5
   have c5b1 : (a1 != 0) = true := bne_iff_ne.mpr c5
   replace H := Option.bind_eq_some_iff.mp H
   obtain ⟨t401, A60, H⟩ := H
   try dsimp only at H
   have A6 := Aside0.mk A60
   clear A60
   obtain rfl := Option.some.inj H
   go_enter Tryd.func128, Tryd.ntmps128
   go_wp2_with (first | ((with_reducible refine gate_callee (f := 127) rfl ?_); refine gl_ 6 Tryd.func127 #[.int .i64 a0] ?_; (with_reducible refine (impl_isMade.calls a0 true _ A3.out ?side1).mono ?_); (case side1 => exact hg_); rintro e w' ⟨rfl, ⟨nd, rfl⟩⟩; refine ⟨_, rfl, ?_⟩) | (go_at_call 127; (with_reducible refine (impl_isMade.calls a1 t401 _ A6.out ?side1).mono ?_); (case side1 => exact hg_); rintro e w' ⟨rfl, ⟨nd, rfl⟩⟩))
   go_ret
   exact ⟨si_, by repeat (first | exact Drawn0.refl _ | apply Drawn0.step)⟩
 ·replace c4 := Bool.eq_false_iff.mpr c4
  subst c4
  have H1 : ((impl_isRoot.f a0).bind fun t402 => (if t402 = true then (if a1 = 0 then (some true) else ((impl_isMade.f a1).bind fun t403 => (some t403))) else (some false))) = some r := by rw [if_neg (show ¬ (false = true) by decide)] at H; exact H
  clear H
  have H := H1
  clear H1
  replace H := Option.bind_eq_some_iff.mp H
  obtain ⟨t402, A70, H⟩ := H
  try dsimp only at H
  have A7 := Aside0.mk A70
  clear A70
  by_cases c8 : t402 = true
  ·subst c8
   have H1 : (if a1 = 0 then (some true) else ((impl_isMade.f a1).bind fun t403 => (some t403))) = some r := by rw [if_pos rfl] at H; exact H
   clear H
   have H := H1
   clear H1
   by_cases c9 : a1 = 0
   ·rw [if_pos c9] at H
    have c9b0 : (a1 == 0) = true := beq_iff_eq.mpr c9
    have c9b1 : (a1 != 0) = false := bne_eq_false_iff_eq.mpr c9
    clear c9
    obtain rfl := Option.some.inj H
    go_enter Tryd.func128, Tryd.ntmps128
    go_wp2_with (first | ((with_reducible refine gate_callee (f := 127) rfl ?_); refine gl_ 6 Tryd.func127 #[.int .i64 a0] ?_; (with_reducible refine (impl_isMade.calls a0 false _ A3.out ?side1).mono ?_); (case side1 => exact hg_); rintro e w' ⟨rfl, ⟨nd, rfl⟩⟩; refine ⟨_, rfl, ?_⟩) | (go_at_call 98; (with_reducible refine (impl_isRoot.calls a0 true _ A7.out ?side1).mono ?_); (case side1 => exact hg_); rintro e w' ⟨rfl, ⟨nd, rfl⟩⟩))
    go_ret
    exact ⟨si_, by repeat (first | exact Drawn0.refl _ | apply Drawn0.step)⟩
   ·rw [if_neg c9] at H
    have c9b0 : (a1 == 0) = false := beq_eq_false_iff_ne.mpr c9
    have c9b1 : (a1 != 0) = true := bne_iff_ne.mpr c9
    replace H := Option.bind_eq_some_iff.mp H
    obtain ⟨t403, A100, H⟩ := H
    try dsimp only at H
    have A10 := Aside0.mk A100
    clear A100
    obtain rfl := Option.some.inj H
    go_enter Tryd.func128, Tryd.ntmps128
    go_wp2_with (first | ((with_reducible refine gate_callee (f := 127) rfl ?_); refine gl_ 6 Tryd.func127 #[.int .i64 a0] ?_; (with_reducible refine (impl_isMade.calls a0 false _ A3.out ?side1).mono ?_); (case side1 => exact hg_); rintro e w' ⟨rfl, ⟨nd, rfl⟩⟩; refine ⟨_, rfl, ?_⟩) | (go_at_call 98; (with_reducible refine (impl_isRoot.calls a0 true _ A7.out ?side1).mono ?_); (case side1 => exact hg_); rintro e w' ⟨rfl, ⟨nd, rfl⟩⟩) | (go_at_call 127; (with_reducible refine (impl_isMade.calls a1 t403 _ A10.out ?side1).mono ?_); (case side1 => exact hg_); rintro e w' ⟨rfl, ⟨nd, rfl⟩⟩))
    go_ret
    exact ⟨si_, by repeat (first | exact Drawn0.refl _ | apply Drawn0.step)⟩
  ·replace c8 := Bool.eq_false_iff.mpr c8
   subst c8
   have H1 : (some false) = some r := by rw [if_neg (show ¬ (false = true) by decide)] at H; exact H
   clear H
   have H := H1
   clear H1
   obtain rfl := Option.some.inj H
   go_enter Tryd.func128, Tryd.ntmps128
   go_wp2_with (first | ((with_reducible refine gate_callee (f := 127) rfl ?_); refine gl_ 6 Tryd.func127 #[.int .i64 a0] ?_; (with_reducible refine (impl_isMade.calls a0 false _ A3.out ?side1).mono ?_); (case side1 => exact hg_); rintro e w' ⟨rfl, ⟨nd, rfl⟩⟩; refine ⟨_, rfl, ?_⟩) | (go_at_call 98; (with_reducible refine (impl_isRoot.calls a0 false _ A7.out ?side1).mono ?_); (case side1 => exact hg_); rintro e w' ⟨rfl, ⟨nd, rfl⟩⟩))
   go_ret
   exact ⟨si_, by repeat (first | exact Drawn0.refl _ | apply Drawn0.step)⟩

def impl_textOk.l0 : Nat → ByteArray → Int → Option (Bool)
 | 0, _, _ => none
 | k + 1, x0, x3 => if x3 < (x0.size : Int) then (if 0 ≤ x3 then (if (bt x0 x3) < 97 then (some false) else (if (bt x0 x3) > 100 then (some false) else (impl_textOk.l0 k x0 (wrap64 (x3 + 1))))) else (none)) else (some true)
def impl_textOk.f (k : Nat) (a0 : ByteArray) : Option (Bool) := if (a0.size : Int) > 4 then (some false) else (impl_textOk.l0 k a0 0)
theorem impl_textOk.mono_l : ∀ k, (∀ y0 y1, LeO (impl_textOk.l0 k y0 y1) (impl_textOk.l0 (k + 1) y0 y1))
 | 0 => fun _ _ r h => by simp [impl_textOk.l0] at h
 | k + 1 => by
  have ih0 := impl_textOk.mono_l k
  ·intro y0 y1
   unfold impl_textOk.l0
   repeat' first
   | (with_reducible exact ih0 _ _)
   | (with_reducible exact LeO.refl _)
   | (with_reducible exact LeO.none _)
   | (with_reducible refine LeO.ite ?_ ?_)
   | (with_reducible refine LeO.bind ?_ (fun _ => ?_))
   | exact ih0 _ _
   | exact LeO.none _
   | refine LeO.ite ?_ ?_
   | refine LeO.bind ?_ (fun _ => ?_)
theorem impl_textOk.mono : ∀ a0 k, LeO (impl_textOk.f k a0) (impl_textOk.f (k + 1) a0) := by
 intro a0 k
 have ih0 := impl_textOk.mono_l k
 unfold impl_textOk.f
 repeat' first
   | (with_reducible exact ih0 _ _)
   | (with_reducible exact LeO.refl _)
   | (with_reducible exact LeO.none _)
   | (with_reducible refine LeO.ite ?_ ?_)
   | (with_reducible refine LeO.bind ?_ (fun _ => ?_))
   | exact ih0 _ _
   | exact LeO.none _
   | refine LeO.ite ?_ ?_
   | refine LeO.bind ?_ (fun _ => ?_)
set_option maxHeartbeats 8000000 in
set_option maxRecDepth 100000 in
theorem impl_textOk.calls (k : Nat) (a0 : ByteArray) (r : Bool) (w : World) (h : impl_textOk.f k a0 = some r) :
  Calls Tryd.prog 129 #[.string a0] w fun e w' => e = .returned (.bool r) ∧ Drawn0 w w' := by
 unfold impl_textOk.f at h
 have H := h
 clear h
 by_cases c2 : (a0.size : Int) > 4
 ·rw [if_pos c2] at H
  have c2b0 : decide (4 < (a0.size : Int)) = true := decide_eq_true c2
  have c2b1 : decide (4 < a0.size) = true := decide_eq_true (by omega)
  clear c2
  obtain rfl := Option.some.inj H
  go_enter Tryd.func129, Tryd.ntmps129
  go_wp2
  go_ret
  exact ⟨si_, by repeat (first | exact Drawn0.refl _ | apply Drawn0.step)⟩
 ·rw [if_neg c2] at H
  have c2b0 : decide (4 < (a0.size : Int)) = false := decide_eq_false c2
  have c2b1 : decide (4 < a0.size) = false := decide_eq_false (by omega)
  clear c2
  have H' := Aside0.mk H
  clear H
  go_enter Tryd.func129, Tryd.ntmps129
  go_wp2
  go_loopg [3] k (fun kq v3 w' => ∃ (x3_1 : Int), v3 = .int .i64 x3_1 ∧ Aside0 (impl_textOk.l0 kq a0 x3_1 = some r) ∧ Aside0 (kq ≤ k) ∧ Drawn0 w w')
  case atStart => exact ⟨(0), (si_), H', ⟨Nat.le_refl _⟩, by repeat (first | exact Drawn0.refl _ | apply Drawn0.step)⟩
  case round =>
   clear H'
   try clear c1
   try clear c2
   try clear c2b0
   try clear c2b1
   try clear p2
   obtain ⟨x3_1, rfl, HA, HK1, ⟨m1, rfl⟩⟩ := hrel
   cases gk with
   | zero => exact absurd HA.out (by simp [impl_textOk.l0])
   | succ k1 =>
    have H := HA.out
    clear HA
    simp only [impl_textOk.l0] at H
    by_cases c3 : x3_1 < (a0.size : Int)
    ·rw [if_pos c3] at H
     have c3b0 : decide (x3_1 < (a0.size : Int)) = true := decide_eq_true c3
     clear c3
     by_cases c4 : 0 ≤ x3_1
     ·rw [if_pos c4] at H
      have c4b0 : decide (0 ≤ x3_1) = true := decide_eq_true c4
      clear c4
      by_cases c6 : (bt a0 x3_1) < 97
      ·rw [if_pos c6] at H
       have c6b0 : decide ((bt a0 x3_1) < 97) = true := decide_eq_true c6
       clear c6
       obtain rfl := Option.some.inj H
       have p5 : 0 ≤ (x3_1 : Int) := od_
       have q5 : x3_1 < (a0.size : Int) := od_
       have hx5 := bt_at a0 x3_1
       replace p5 := eq_true p5
       replace q5 := eq_true q5
       go_wp2
       go_ret
       exact ⟨si_, by repeat (first | exact Drawn0.refl _ | apply Drawn0.step)⟩
      ·rw [if_neg c6] at H
       have c6b0 : decide ((bt a0 x3_1) < 97) = false := decide_eq_false c6
       clear c6
       by_cases c8 : (bt a0 x3_1) > 100
       ·rw [if_pos c8] at H
        have c8b0 : decide (100 < (bt a0 x3_1)) = true := decide_eq_true c8
        clear c8
        obtain rfl := Option.some.inj H
        have p5 : 0 ≤ (x3_1 : Int) := od_
        have q5 : x3_1 < (a0.size : Int) := od_
        have hx5 := bt_at a0 x3_1
        replace p5 := eq_true p5
        replace q5 := eq_true q5
        have p7 : 0 ≤ (x3_1 : Int) := od_
        have q7 : x3_1 < (a0.size : Int) := od_
        have hx7 := bt_at a0 x3_1
        replace p7 := eq_true p7
        replace q7 := eq_true q7
        go_wp2
        go_ret
        exact ⟨si_, by repeat (first | exact Drawn0.refl _ | apply Drawn0.step)⟩
       ·rw [if_neg c8] at H
        have c8b0 : decide (100 < (bt a0 x3_1)) = false := decide_eq_false c8
        clear c8
        have H' := Aside0.mk H
        clear H
        have p5 : 0 ≤ (x3_1 : Int) := od_
        have q5 : x3_1 < (a0.size : Int) := od_
        have hx5 := bt_at a0 x3_1
        replace p5 := eq_true p5
        replace q5 := eq_true q5
        have p7 : 0 ≤ (x3_1 : Int) := od_
        have q7 : x3_1 < (a0.size : Int) := od_
        have hx7 := bt_at a0 x3_1
        replace p7 := eq_true p7
        replace q7 := eq_true q7
        go_wp2
        go_roundg k1
        case measure => have := HK1.out; omega
        case rel => exact ⟨(wrap64 (x3_1 + 1)), (si_), H', ⟨by have := HK1.out; omega⟩, by repeat (first | exact Drawn0.refl _ | apply Drawn0.step)⟩
     ·rw [if_neg c4] at H
      exact absurd H (by simp)
    ·rw [if_neg c3] at H
     have c3b0 : decide (x3_1 < (a0.size : Int)) = false := decide_eq_false c3
     clear c3
     obtain rfl := Option.some.inj H
     go_wp2
     go_ret
     exact ⟨si_, by repeat (first | exact Drawn0.refl _ | apply Drawn0.step)⟩


end Go.Proofs.YtdpklbomhdpimaaDoor.P
namespace Go.Proofs.YtdpklbomhdpimaaDoor.P
open Go.RowKit Go.Proofs.YtdpklbomhdpimaaDoorW.PrintWords Go.Proofs.YtdpklbomhdpimaaDoorW.PrintLast Go.Proofs.YtdpklbomhdpimaaDoorW.PrintMore
theorem quiet_d {P : Program} {f : FuncId} {args : Array Value} {w : World} {d n : Nat} {v : Value} (h : Calls P f args (w.drewN (d + n)) fun e w' => e = .returned v ∧ Drawn0 (w.drewN (d + n)) w') :
  Calls P f args (w.drewN (d + n)) fun e w'' => e = .returned v ∧ ∃ m, w'' = w.drewN (d + m) :=
 h.mono fun _ _ ⟨he, ⟨m, hm⟩⟩ => ⟨he, n + m, by rw [hm, World.drewN_drewN, Nat.add_assoc]⟩
def impl_changeOf.f (k : Nat) (a0 a1 a2 a3 : Int) (a4 : ByteArray) : Option Bool :=
 (impl_isMade.f a1).bind fun m => if m = true then
  (if a0 = 1 then ((impl_placeOk.f a2 a3).bind fun p => if p = true then impl_textOk.f k a4 else some false)
  else if a0 = 2 then (if a2 = 0 then (if a3 = 0 then impl_textOk.f k a4 else some false) else some false)
  else if a0 = 3 then ((impl_placeOk.f a2 a3).bind fun p => if p = true then some (a4.toList.isEmpty) else some false)
  else some false) else some false
theorem impl_changeOf.mono (a0 a1 a2 a3 : Int) (a4 : ByteArray) (k : Nat) : LeO (impl_changeOf.f k a0 a1 a2 a3 a4) (impl_changeOf.f (k + 1) a0 a1 a2 a3 a4) := by
 unfold impl_changeOf.f
 repeat' first
   | (with_reducible exact impl_textOk.mono _ _)
   | (with_reducible exact LeO.refl _)
   | (with_reducible refine LeO.ite ?_ ?_)
   | (with_reducible refine LeO.bind ?_ (fun _ => ?_))
def ChV (a0 a1 a2 a3 : Int) (a4 : ByteArray) : Value :=
 if a0 = 1 then .iface 156 (.agg #[.int .i64 a1, .int .i64 a2, .int .i64 a3, .string a4])
 else if a0 = 2 then .iface 159 (.agg #[.int .i64 a1, .string a4])
 else .iface 161 (.agg #[.int .i64 a1, .int .i64 a2, .int .i64 a3])
def ChPost (w : World) (a0 a1 a2 a3 : Int) (a4 : ByteArray) (r : Bool) (e : Ending) (w' : World) : Prop :=
 ∃ v : Value, e = .returned (.tuple #[v, .bool r]) ∧ (r = true → v = ChV a0 a1 a2 a3 a4) ∧ Below w.heap.size w w'
theorem below_box0 (w : World) (o : Obj) : Below w.heap.size w (w.alloc o) := (Below.refl _ _).alloc (Nat.le_refl _) _
set_option maxHeartbeats 4000000 in
set_option maxRecDepth 100000 in
theorem changeOf_unmade (a0 a1 a2 a3 : Int) (a4 : ByteArray) (w : World) (hm : impl_isMade.f a1 = some false) (hG : Glob w) :
  Calls Tryd.prog 92 #[.agg #[.int .i64 a0, .int .i64 a1, .int .i64 a2, .int .i64 a3, .string a4]] w (ChPost w a0 a1 a2 a3 a4 false) := by
 have hGa : Glob (w.alloc (.cells #[.int .i64 a0, .int .i64 a1, .int .i64 a2, .int .i64 a3, .string a4] 42)) := hG.below (below_box0 w _)
 have HG := Aside0.mk hGa
 clear hGa hG
 have Hm := Aside0.mk hm
 clear hm
 go_enter Tryd.func92, Tryd.ntmps92
 go_wp2_with (go_at_call 127; refine (impl_isMade.calls a1 _ _ Hm.out HG.out).mono ?_; rintro e w' ⟨rfl, ⟨nd, rfl⟩⟩)
 go_ret2
 exact ⟨_, rfl, (fun h => by cases h), by (with_reducible repeat (first | exact below_box0 w _ | apply pw_below_drewN))⟩
set_option maxHeartbeats 4000000 in
set_option maxRecDepth 100000 in
theorem changeOf_make (k : Nat) (a0 a1 a2 a3 : Int) (a4 : ByteArray) (r : Bool) (w : World) (hm : impl_isMade.f a1 = some true) (hp : impl_placeOk.f a2 a3 = some true) (ht : impl_textOk.f k a4 = some r) (h0 : a0 = 1) (hG : Glob w) :
  Calls Tryd.prog 92 #[.agg #[.int .i64 a0, .int .i64 a1, .int .i64 a2, .int .i64 a3, .string a4]] w (ChPost w a0 a1 a2 a3 a4 r) := by
 have hGa : Glob (w.alloc (.cells #[.int .i64 a0, .int .i64 a1, .int .i64 a2, .int .i64 a3, .string a4] 42)) := hG.below (below_box0 w _)
 have HG := Aside0.mk hGa
 clear hGa hG
 subst h0
 have Hm := Aside0.mk hm
 have Hp := Aside0.mk hp
 have Ht := Aside0.mk ht
 clear hm hp ht
 go_enter Tryd.func92, Tryd.ntmps92
 go_wp2_with (go_at_call 127; refine (impl_isMade.calls a1 _ _ Hm.out HG.out).mono ?_; rintro e w' ⟨rfl, ⟨nd, rfl⟩⟩)
 go_quiet ((first | (go_at_call 128; refine quiet_d (impl_placeOk.calls a2 a3 true _ Hp.out (by (with_reducible repeat (first | exact HG.out | apply Glob.drewN | apply Glob.drew))))) | (go_at_call 129; refine quiet_d (impl_textOk.calls k a4 r _ Ht.out))))
 go_wp2
 go_ret2
 exact ⟨_, rfl, fun _ => rfl, by (with_reducible repeat (first | exact below_box0 w _ | apply pw_below_drewN))⟩
set_option maxHeartbeats 4000000 in
set_option maxRecDepth 100000 in
theorem changeOf_make_no (a0 a1 a2 a3 : Int) (a4 : ByteArray) (w : World) (hm : impl_isMade.f a1 = some true) (hp : impl_placeOk.f a2 a3 = some false) (h0 : a0 = 1) (hG : Glob w) :
  Calls Tryd.prog 92 #[.agg #[.int .i64 a0, .int .i64 a1, .int .i64 a2, .int .i64 a3, .string a4]] w (ChPost w a0 a1 a2 a3 a4 false) := by
 have hGa : Glob (w.alloc (.cells #[.int .i64 a0, .int .i64 a1, .int .i64 a2, .int .i64 a3, .string a4] 42)) := hG.below (below_box0 w _)
 have HG := Aside0.mk hGa
 clear hGa hG
 subst h0
 have Hm := Aside0.mk hm
 have Hp := Aside0.mk hp
 clear hm hp
 go_enter Tryd.func92, Tryd.ntmps92
 go_wp2_with (go_at_call 127; refine (impl_isMade.calls a1 _ _ Hm.out HG.out).mono ?_; rintro e w' ⟨rfl, ⟨nd, rfl⟩⟩)
 go_quiet ((go_at_call 128; refine quiet_d (impl_placeOk.calls a2 a3 false _ Hp.out (by (with_reducible repeat (first | exact HG.out | apply Glob.drewN | apply Glob.drew))))))
 go_wp2
 go_ret2
 exact ⟨_, rfl, (fun h => by cases h), by (with_reducible repeat (first | exact below_box0 w _ | apply pw_below_drewN))⟩
set_option maxHeartbeats 4000000 in
set_option maxRecDepth 100000 in
theorem changeOf_text (k : Nat) (a0 a1 a2 a3 : Int) (a4 : ByteArray) (r : Bool) (w : World) (hm : impl_isMade.f a1 = some true) (h2 : a2 = 0) (h3 : a3 = 0) (ht : impl_textOk.f k a4 = some r) (h0 : a0 = 2) (hG : Glob w) :
  Calls Tryd.prog 92 #[.agg #[.int .i64 a0, .int .i64 a1, .int .i64 a2, .int .i64 a3, .string a4]] w (ChPost w a0 a1 a2 a3 a4 r) := by
 have hGa : Glob (w.alloc (.cells #[.int .i64 a0, .int .i64 a1, .int .i64 a2, .int .i64 a3, .string a4] 42)) := hG.below (below_box0 w _)
 have HG := Aside0.mk hGa
 clear hGa hG
 subst h0 h2 h3
 have Hm := Aside0.mk hm
 have Ht := Aside0.mk ht
 clear hm ht
 go_enter Tryd.func92, Tryd.ntmps92
 go_wp2_with (go_at_call 127; refine (impl_isMade.calls a1 _ _ Hm.out HG.out).mono ?_; rintro e w' ⟨rfl, ⟨nd, rfl⟩⟩)
 go_quiet ((go_at_call 129; refine quiet_d (impl_textOk.calls k a4 r _ Ht.out)))
 go_wp2
 go_ret2
 exact ⟨_, rfl, fun _ => rfl, by (with_reducible repeat (first | exact below_box0 w _ | apply pw_below_drewN))⟩
set_option maxHeartbeats 4000000 in
set_option maxRecDepth 100000 in
theorem changeOf_text_no2 (a0 a1 a2 a3 : Int) (a4 : ByteArray) (w : World) (hm : impl_isMade.f a1 = some true) (h2 : a2 ≠ 0) (h0 : a0 = 2) (hG : Glob w) :
  Calls Tryd.prog 92 #[.agg #[.int .i64 a0, .int .i64 a1, .int .i64 a2, .int .i64 a3, .string a4]] w (ChPost w a0 a1 a2 a3 a4 false) := by
 have hGa : Glob (w.alloc (.cells #[.int .i64 a0, .int .i64 a1, .int .i64 a2, .int .i64 a3, .string a4] 42)) := hG.below (below_box0 w _)
 have HG := Aside0.mk hGa
 clear hGa hG
 subst h0
 have e2 : (a2 == 0) = false := beq_eq_false_iff_ne.2 h2
 clear h2
 have Hm := Aside0.mk hm
 clear hm
 go_enter Tryd.func92, Tryd.ntmps92
 go_wp2_with (go_at_call 127; refine (impl_isMade.calls a1 _ _ Hm.out HG.out).mono ?_; rintro e w' ⟨rfl, ⟨nd, rfl⟩⟩)
 go_quiet (fail)
 go_wp2
 go_ret2
 exact ⟨_, rfl, (fun h => by cases h), by (with_reducible repeat (first | exact below_box0 w _ | apply pw_below_drewN))⟩
set_option maxHeartbeats 4000000 in
set_option maxRecDepth 100000 in
theorem changeOf_text_no3 (a0 a1 a2 a3 : Int) (a4 : ByteArray) (w : World) (hm : impl_isMade.f a1 = some true) (h2 : a2 = 0) (h3 : a3 ≠ 0) (h0 : a0 = 2) (hG : Glob w) :
  Calls Tryd.prog 92 #[.agg #[.int .i64 a0, .int .i64 a1, .int .i64 a2, .int .i64 a3, .string a4]] w (ChPost w a0 a1 a2 a3 a4 false) := by
 have hGa : Glob (w.alloc (.cells #[.int .i64 a0, .int .i64 a1, .int .i64 a2, .int .i64 a3, .string a4] 42)) := hG.below (below_box0 w _)
 have HG := Aside0.mk hGa
 clear hGa hG
 subst h0 h2
 have e3 : (a3 == 0) = false := beq_eq_false_iff_ne.2 h3
 clear h3
 have Hm := Aside0.mk hm
 clear hm
 go_enter Tryd.func92, Tryd.ntmps92
 go_wp2_with (go_at_call 127; refine (impl_isMade.calls a1 _ _ Hm.out HG.out).mono ?_; rintro e w' ⟨rfl, ⟨nd, rfl⟩⟩)
 go_quiet (fail)
 go_wp2
 go_ret2
 exact ⟨_, rfl, (fun h => by cases h), by (with_reducible repeat (first | exact below_box0 w _ | apply pw_below_drewN))⟩
set_option maxHeartbeats 4000000 in
set_option maxRecDepth 100000 in
theorem changeOf_move (a0 a1 a2 a3 : Int) (a4 : ByteArray) (w : World) (hm : impl_isMade.f a1 = some true) (hp : impl_placeOk.f a2 a3 = some true) (h0 : a0 = 3) (hG : Glob w) :
  Calls Tryd.prog 92 #[.agg #[.int .i64 a0, .int .i64 a1, .int .i64 a2, .int .i64 a3, .string a4]] w (ChPost w a0 a1 a2 a3 a4 a4.toList.isEmpty) := by
 have hGa : Glob (w.alloc (.cells #[.int .i64 a0, .int .i64 a1, .int .i64 a2, .int .i64 a3, .string a4] 42)) := hG.below (below_box0 w _)
 have HG := Aside0.mk hGa
 clear hGa hG
 subst h0
 have Hm := Aside0.mk hm
 have Hp := Aside0.mk hp
 clear hm hp
 go_enter Tryd.func92, Tryd.ntmps92
 go_wp2_with (go_at_call 127; refine (impl_isMade.calls a1 _ _ Hm.out HG.out).mono ?_; rintro e w' ⟨rfl, ⟨nd, rfl⟩⟩)
 go_quiet ((go_at_call 128; refine quiet_d (impl_placeOk.calls a2 a3 true _ Hp.out (by (with_reducible repeat (first | exact HG.out | apply Glob.drewN | apply Glob.drew))))))
 go_wp2
 go_ret2
 exact ⟨_, rfl, fun _ => rfl, by (with_reducible repeat (first | exact below_box0 w _ | apply pw_below_drewN))⟩
set_option maxHeartbeats 4000000 in
set_option maxRecDepth 100000 in
theorem changeOf_move_no (a0 a1 a2 a3 : Int) (a4 : ByteArray) (w : World) (hm : impl_isMade.f a1 = some true) (hp : impl_placeOk.f a2 a3 = some false) (h0 : a0 = 3) (hG : Glob w) :
  Calls Tryd.prog 92 #[.agg #[.int .i64 a0, .int .i64 a1, .int .i64 a2, .int .i64 a3, .string a4]] w (ChPost w a0 a1 a2 a3 a4 false) := by
 have hGa : Glob (w.alloc (.cells #[.int .i64 a0, .int .i64 a1, .int .i64 a2, .int .i64 a3, .string a4] 42)) := hG.below (below_box0 w _)
 have HG := Aside0.mk hGa
 clear hGa hG
 subst h0
 have Hm := Aside0.mk hm
 have Hp := Aside0.mk hp
 clear hm hp
 go_enter Tryd.func92, Tryd.ntmps92
 go_wp2_with (go_at_call 127; refine (impl_isMade.calls a1 _ _ Hm.out HG.out).mono ?_; rintro e w' ⟨rfl, ⟨nd, rfl⟩⟩)
 go_quiet ((go_at_call 128; refine quiet_d (impl_placeOk.calls a2 a3 false _ Hp.out (by (with_reducible repeat (first | exact HG.out | apply Glob.drewN | apply Glob.drew))))))
 go_wp2
 go_ret2
 exact ⟨_, rfl, (fun h => by cases h), by (with_reducible repeat (first | exact below_box0 w _ | apply pw_below_drewN))⟩
set_option maxHeartbeats 4000000 in
set_option maxRecDepth 100000 in
theorem changeOf_kind (a0 a1 a2 a3 : Int) (a4 : ByteArray) (w : World) (hm : impl_isMade.f a1 = some true) (h1 : a0 ≠ 1) (h2 : a0 ≠ 2) (h3 : a0 ≠ 3) (hG : Glob w) :
  Calls Tryd.prog 92 #[.agg #[.int .i64 a0, .int .i64 a1, .int .i64 a2, .int .i64 a3, .string a4]] w (ChPost w a0 a1 a2 a3 a4 false) := by
 have hGa : Glob (w.alloc (.cells #[.int .i64 a0, .int .i64 a1, .int .i64 a2, .int .i64 a3, .string a4] 42)) := hG.below (below_box0 w _)
 have HG := Aside0.mk hGa
 clear hGa hG
 have e1 : (a0 == 1) = false := beq_eq_false_iff_ne.2 h1
 have e2 : (a0 == 2) = false := beq_eq_false_iff_ne.2 h2
 have e3 : (a0 == 3) = false := beq_eq_false_iff_ne.2 h3
 clear h1 h2 h3
 have Hm := Aside0.mk hm
 clear hm
 go_enter Tryd.func92, Tryd.ntmps92
 go_wp2_with (go_at_call 127; refine (impl_isMade.calls a1 _ _ Hm.out HG.out).mono ?_; rintro e w' ⟨rfl, ⟨nd, rfl⟩⟩)
 go_ret2
 exact ⟨_, rfl, (fun h => by cases h), by (with_reducible repeat (first | exact below_box0 w _ | apply pw_below_drewN))⟩
theorem impl_changeOf.calls (k : Nat) (a0 a1 a2 a3 : Int) (a4 : ByteArray) (r : Bool) (w : World) (h : impl_changeOf.f k a0 a1 a2 a3 a4 = some r) (hG : Glob w) :
  Calls Tryd.prog 92 #[.agg #[.int .i64 a0, .int .i64 a1, .int .i64 a2, .int .i64 a3, .string a4]] w (ChPost w a0 a1 a2 a3 a4 r) := by
 unfold impl_changeOf.f at h
 obtain ⟨m, hm, h⟩ := Option.bind_eq_some_iff.1 h
 cases m with
 | false =>
  simp only [Bool.false_eq_true, if_false, Option.some.injEq] at h
  subst h
  exact changeOf_unmade a0 a1 a2 a3 a4 w hm hG
 | true =>
  simp only [if_true] at h
  by_cases h1 : a0 = 1
  ·rw [if_pos h1] at h
   obtain ⟨p, hp, h⟩ := Option.bind_eq_some_iff.1 h
   cases p with
   | false =>
    simp only [Bool.false_eq_true, if_false, Option.some.injEq] at h
    subst h
    exact changeOf_make_no a0 a1 a2 a3 a4 w hm hp h1 hG
   | true =>
    simp only [if_true] at h
    exact changeOf_make k a0 a1 a2 a3 a4 r w hm hp h h1 hG
  ·rw [if_neg h1] at h
   by_cases h2 : a0 = 2
   ·rw [if_pos h2] at h
    by_cases g2 : a2 = 0
    ·rw [if_pos g2] at h
     by_cases g3 : a3 = 0
     ·rw [if_pos g3] at h
      exact changeOf_text k a0 a1 a2 a3 a4 r w hm g2 g3 h h2 hG
     ·rw [if_neg g3] at h
      simp only [Option.some.injEq] at h
      subst h
      exact changeOf_text_no3 a0 a1 a2 a3 a4 w hm g2 g3 h2 hG
    ·rw [if_neg g2] at h
     simp only [Option.some.injEq] at h
     subst h
     exact changeOf_text_no2 a0 a1 a2 a3 a4 w hm g2 h2 hG
   ·rw [if_neg h2] at h
    by_cases h3 : a0 = 3
    ·rw [if_pos h3] at h
     obtain ⟨p, hp, h⟩ := Option.bind_eq_some_iff.1 h
     cases p with
     | false =>
      simp only [Bool.false_eq_true, if_false, Option.some.injEq] at h
      subst h
      exact changeOf_move_no a0 a1 a2 a3 a4 w hm hp h3 hG
     | true =>
      simp only [if_true, Option.some.injEq] at h
      subst h
      exact changeOf_move a0 a1 a2 a3 a4 w hm hp h3 hG
    ·rw [if_neg h3] at h
     simp only [Option.some.injEq] at h
     subst h
     exact changeOf_kind a0 a1 a2 a3 a4 w hm h1 h2 h3 hG
def impl_OpOk.f (k : Nat) (a0 a1 a2 a3 : Int) (a4 : ByteArray) : Option Bool := impl_changeOf.f k a0 a1 a2 a3 a4
theorem impl_OpOk.mono (a0 a1 a2 a3 : Int) (a4 : ByteArray) (k : Nat) : LeO (impl_OpOk.f k a0 a1 a2 a3 a4) (impl_OpOk.f (k + 1) a0 a1 a2 a3 a4) := impl_changeOf.mono a0 a1 a2 a3 a4 k
set_option maxHeartbeats 4000000 in
theorem impl_OpOk.calls (k : Nat) (a0_0 a0_1 a0_2 a0_3 : Int) (a0_4 : ByteArray) (r : Bool) (w : World) (h : impl_OpOk.f k a0_0 a0_1 a0_2 a0_3 a0_4 = some r) (hG : Glob w) :
  Calls Tryd.prog 116 #[.agg #[.int .i64 a0_0, .int .i64 a0_1, .int .i64 a0_2, .int .i64 a0_3, .string a0_4]] w fun e w' => e = .returned (.bool r) ∧ Below w.heap.size w w' := by
 have hGa : Glob (w.alloc (.cells #[.int .i64 a0_0, .int .i64 a0_1, .int .i64 a0_2, .int .i64 a0_3, .string a0_4] 42)) := hG.below (below_box0 w _)
 have HG := Aside0.mk hGa
 have HH := Aside0.mk h
 clear hGa hG h
 have hu := Tryd.underlying42
 go_enter Tryd.func116, Tryd.ntmps116
 go_wp2_with (go_at_call 92; refine (impl_changeOf.calls k a0_0 a0_1 a0_2 a0_3 a0_4 r _ HH.out HG.out).mono ?_; rintro e w1 ⟨v, rfl, _, hb⟩; have HB := Aside0.mk hb; clear hb)
 go_ret
 exact ⟨rfl, (below_box0 w _).trans (HB.out.mono (by simp))⟩
end Go.Proofs.YtdpklbomhdpimaaDoor.P
namespace Go.Proofs.YtdpklbomhdpimaaDoor.P
open Go.RowKit Go.Proofs.YtdpklbomhdpimaaDoorW.PrintWords Go.Proofs.YtdpklbomhdpimaaDoorW.PrintLast
def impl_EntryOk.f (k : Nat) (a0_0 : Int) (a0_1 : Int) (a0_2 : Int) (a0_3 : Int) (a0_4 : Int) (a0_5 : Int) (a0_6 : ByteArray) : Option (Bool) := (impl_whoOk.f a0_0).bind fun t405 => (if t405 = true then (if a0_1 < 1 then (some false) else (if a0_1 > 40 then (some false) else ((impl_OpOk.f k a0_2 a0_3 a0_4 a0_5 a0_6).bind fun t406 => (if t406 = true then ((impl_RowWho.f a0_3).bind fun bt407 => (if a0_2 = 1 then (some (bt407.1 == a0_0)) else (some true))) else (some false))))) else (some false))
theorem impl_EntryOk.mono : ∀ a0 a1 a2 a3 a4 a5 a6 k, LeO (impl_EntryOk.f k a0 a1 a2 a3 a4 a5 a6) (impl_EntryOk.f (k + 1) a0 a1 a2 a3 a4 a5 a6) := by
 intro a0 a1 a2 a3 a4 a5 a6 k
 unfold impl_EntryOk.f
 repeat' first
   | (with_reducible exact impl_OpOk.mono _ _ _ _ _ _)
   | (with_reducible exact LeO.refl _)
   | (with_reducible exact LeO.none _)
   | (with_reducible refine LeO.ite ?_ ?_)
   | (with_reducible refine LeO.bind ?_ (fun _ => ?_))
   | exact impl_OpOk.mono _ _ _ _ _ _
   | exact LeO.none _
   | refine LeO.ite ?_ ?_
   | refine LeO.bind ?_ (fun _ => ?_)
set_option maxHeartbeats 8000000 in
set_option maxRecDepth 100000 in
theorem impl_EntryOk.calls (k : Nat) (a0_0 : Int) (a0_1 : Int) (a0_2 : Int) (a0_3 : Int) (a0_4 : Int) (a0_5 : Int) (a0_6 : ByteArray) (r : Bool) (w : World) (h : impl_EntryOk.f k a0_0 a0_1 a0_2 a0_3 a0_4 a0_5 a0_6 = some r) (hG : Glob w) :
  Calls Tryd.prog 78 #[.agg #[.int .i64 a0_0, .int .i64 a0_1, .int .i64 a0_2, .int .i64 a0_3, .int .i64 a0_4, .int .i64 a0_5, .string a0_6]] w fun e w' => e = .returned (.bool r) ∧ Below w.heap.size w w' := by
 have hu44 := Tryd.underlying44
 have hu42 := Tryd.underlying42
 have HB := Aside0.mk (Below.refl w.heap.size w)
 have HG := Aside0.mk hG
 clear hG
 unfold impl_EntryOk.f at h
 have H := h
 clear h
 replace H := Option.bind_eq_some_iff.mp H
 obtain ⟨t405, A20, H⟩ := H
 try dsimp only at H
 have A2 := Aside0.mk A20
 clear A20
 by_cases c3 : t405 = true
 ·subst c3
  have H1 : (if a0_1 < 1 then (some false) else (if a0_1 > 40 then (some false) else ((impl_OpOk.f k a0_2 a0_3 a0_4 a0_5 a0_6).bind fun t406 => (if t406 = true then ((impl_RowWho.f a0_3).bind fun bt407 => (if a0_2 = 1 then (some (bt407.1 == a0_0)) else (some true))) else (some false))))) = some r := by rw [if_pos rfl] at H; exact H
  clear H
  have H := H1
  clear H1
  by_cases c4 : a0_1 < 1
  ·rw [if_pos c4] at H
   have c4b0 : decide (a0_1 < 1) = true := decide_eq_true c4
   clear c4
   obtain rfl := Option.some.inj H
   go_enter Tryd.func78, Tryd.ntmps78
   go_wp2_with (first | ((with_reducible refine gate_dst (N := 1) rfl ?_); refine bx_ 1 (#[.int .i64 a0_0, .int .i64 a0_1, .int .i64 a0_2, .int .i64 a0_3, .int .i64 a0_4, .int .i64 a0_5, .string a0_6]) 44 ?_; intro gb404 hg w5 hbox hb; have n0_ := Aside0.mk (below_step (bel_) hb); have n1_ := Aside0.mk (hbox); have n2_ := Aside0.mk ((by rw [hg]; exact (below_size (bel_)) : w.heap.size ≤ gb404)); have n3_ := Aside0.mk ((by rw [hg]; exact (below_size (bel_)) : w.heap.size ≤ gb404)); clear HB; have HB := n0_; have BK404 := n1_; have GW404 := n2_; have GE404 := n3_; clear n0_ n1_ n2_ n3_; clear hb hbox hg; have hcz6_0 := cz_ BK404.out 0 (.int .i64 a0_0); have hcz6_1 := cz_ BK404.out 1 (.int .i64 a0_1); have hcz6_2 := cz_ BK404.out 2 (.int .i64 a0_2); have hcz6_3 := cz_ BK404.out 3 (.int .i64 a0_3); have hcz6_4 := cz_ BK404.out 4 (.int .i64 a0_4); have hcz6_5 := cz_ BK404.out 5 (.int .i64 a0_5); have hcz6_6 := cz_ BK404.out 6 (.string a0_6); have hfz6_0 := blk_frozen BK404.out 0; have hfz6_1 := blk_frozen BK404.out 1; have hfz6_2 := blk_frozen BK404.out 2; have hfz6_3 := blk_frozen BK404.out 3; have hfz6_4 := blk_frozen BK404.out 4; have hfz6_5 := blk_frozen BK404.out 5; have hfz6_6 := blk_frozen BK404.out 6) | ((with_reducible refine gate_callee (f := 104) rfl ?_); refine gl_ 7 Tryd.func104 #[.int .i64 a0_0] ?_; (with_reducible refine (impl_whoOk.calls a0_0 true _ A2.out).mono ?_); rintro e w' ⟨rfl, ⟨nd, rfl⟩⟩; refine ⟨_, rfl, ?_⟩))
   go_ret
   exact ⟨fi_, bel_⟩
  ·rw [if_neg c4] at H
   have c4b0 : decide (a0_1 < 1) = false := decide_eq_false c4
   clear c4
   by_cases c7 : a0_1 > 40
   ·rw [if_pos c7] at H
    have c7b0 : decide (40 < a0_1) = true := decide_eq_true c7
    clear c7
    obtain rfl := Option.some.inj H
    go_enter Tryd.func78, Tryd.ntmps78
    go_wp2_with (first | ((with_reducible refine gate_dst (N := 1) rfl ?_); refine bx_ 1 (#[.int .i64 a0_0, .int .i64 a0_1, .int .i64 a0_2, .int .i64 a0_3, .int .i64 a0_4, .int .i64 a0_5, .string a0_6]) 44 ?_; intro gb404 hg w8 hbox hb; have n0_ := Aside0.mk (below_step (bel_) hb); have n1_ := Aside0.mk (hbox); have n2_ := Aside0.mk ((by rw [hg]; exact (below_size (bel_)) : w.heap.size ≤ gb404)); have n3_ := Aside0.mk ((by rw [hg]; exact (below_size (bel_)) : w.heap.size ≤ gb404)); clear HB; have HB := n0_; have BK404 := n1_; have GW404 := n2_; have GE404 := n3_; clear n0_ n1_ n2_ n3_; clear hb hbox hg; have hcz9_0 := cz_ BK404.out 0 (.int .i64 a0_0); have hcz9_1 := cz_ BK404.out 1 (.int .i64 a0_1); have hcz9_2 := cz_ BK404.out 2 (.int .i64 a0_2); have hcz9_3 := cz_ BK404.out 3 (.int .i64 a0_3); have hcz9_4 := cz_ BK404.out 4 (.int .i64 a0_4); have hcz9_5 := cz_ BK404.out 5 (.int .i64 a0_5); have hcz9_6 := cz_ BK404.out 6 (.string a0_6); have hfz9_0 := blk_frozen BK404.out 0; have hfz9_1 := blk_frozen BK404.out 1; have hfz9_2 := blk_frozen BK404.out 2; have hfz9_3 := blk_frozen BK404.out 3; have hfz9_4 := blk_frozen BK404.out 4; have hfz9_5 := blk_frozen BK404.out 5; have hfz9_6 := blk_frozen BK404.out 6) | ((with_reducible refine gate_callee (f := 104) rfl ?_); refine gl_ 7 Tryd.func104 #[.int .i64 a0_0] ?_; (with_reducible refine (impl_whoOk.calls a0_0 true _ A2.out).mono ?_); rintro e w' ⟨rfl, ⟨nd, rfl⟩⟩; refine ⟨_, rfl, ?_⟩))
    go_ret
    exact ⟨fi_, bel_⟩
   ·rw [if_neg c7] at H
    have c7b0 : decide (40 < a0_1) = false := decide_eq_false c7
    clear c7
    replace H := Option.bind_eq_some_iff.mp H
    obtain ⟨t406, A100, H⟩ := H
    try dsimp only at H
    have A10 := Aside0.mk A100
    clear A100
    by_cases c11 : t406 = true
    ·subst c11
     have H1 : ((impl_RowWho.f a0_3).bind fun bt407 => (if a0_2 = 1 then (some (bt407.1 == a0_0)) else (some true))) = some r := by rw [if_pos rfl] at H; exact H
     clear H
     have H := H1
     clear H1
     replace H := Option.bind_eq_some_iff.mp H
     obtain ⟨⟨t407, t408⟩, A120, H⟩ := H
     try dsimp only at H
     have A12 := Aside0.mk A120
     clear A120
     by_cases c13 : a0_2 = 1
     ·rw [if_pos c13] at H
      have c13b0 : (a0_2 == 1) = true := beq_iff_eq.mpr c13
      have c13b1 : (a0_2 != 1) = false := bne_eq_false_iff_eq.mpr c13
      clear c13
      obtain rfl := Option.some.inj H
      go_enter Tryd.func78, Tryd.ntmps78
      go_wp2_with (first | ((with_reducible refine gate_dst (N := 1) rfl ?_); refine bx_ 1 (#[.int .i64 a0_0, .int .i64 a0_1, .int .i64 a0_2, .int .i64 a0_3, .int .i64 a0_4, .int .i64 a0_5, .string a0_6]) 44 ?_; intro gb404 hg w14 hbox hb; have n0_ := Aside0.mk (below_step (bel_) hb); have n1_ := Aside0.mk (hbox); have n2_ := Aside0.mk ((by rw [hg]; exact (below_size (bel_)) : w.heap.size ≤ gb404)); have n3_ := Aside0.mk ((by rw [hg]; exact (below_size (bel_)) : w.heap.size ≤ gb404)); clear HB; have HB := n0_; have BK404 := n1_; have GW404 := n2_; have GE404 := n3_; clear n0_ n1_ n2_ n3_; clear hb hbox hg; have hcz15_0 := cz_ BK404.out 0 (.int .i64 a0_0); have hcz15_1 := cz_ BK404.out 1 (.int .i64 a0_1); have hcz15_2 := cz_ BK404.out 2 (.int .i64 a0_2); have hcz15_3 := cz_ BK404.out 3 (.int .i64 a0_3); have hcz15_4 := cz_ BK404.out 4 (.int .i64 a0_4); have hcz15_5 := cz_ BK404.out 5 (.int .i64 a0_5); have hcz15_6 := cz_ BK404.out 6 (.string a0_6); have hfz15_0 := blk_frozen BK404.out 0; have hfz15_1 := blk_frozen BK404.out 1; have hfz15_2 := blk_frozen BK404.out 2; have hfz15_3 := blk_frozen BK404.out 3; have hfz15_4 := blk_frozen BK404.out 4; have hfz15_5 := blk_frozen BK404.out 5; have hfz15_6 := blk_frozen BK404.out 6) | ((with_reducible refine gate_callee (f := 104) rfl ?_); refine gl_ 7 Tryd.func104 #[.int .i64 a0_0] ?_; (with_reducible refine (impl_whoOk.calls a0_0 true _ A2.out).mono ?_); rintro e w' ⟨rfl, ⟨nd, rfl⟩⟩; refine ⟨_, rfl, ?_⟩) | (go_at_call 116; (with_reducible refine (impl_OpOk.calls k a0_2 a0_3 a0_4 a0_5 a0_6 true _ A10.out ?side1).mono ?_); (case side1 => exact Glob.below HG.out (bel_)); rintro e w16 ⟨rfl, hb⟩; replace HB := Aside0.mk (below_step (bel_) hb); replace BK404 := Aside0.mk (bb_ BK404.out hb); (try clear hb); have hcz17_0 := cz_ BK404.out 0 (.int .i64 a0_0); have hcz17_1 := cz_ BK404.out 1 (.int .i64 a0_1); have hcz17_2 := cz_ BK404.out 2 (.int .i64 a0_2); have hcz17_3 := cz_ BK404.out 3 (.int .i64 a0_3); have hcz17_4 := cz_ BK404.out 4 (.int .i64 a0_4); have hcz17_5 := cz_ BK404.out 5 (.int .i64 a0_5); have hcz17_6 := cz_ BK404.out 6 (.string a0_6); have hfz17_0 := blk_frozen BK404.out 0; have hfz17_1 := blk_frozen BK404.out 1; have hfz17_2 := blk_frozen BK404.out 2; have hfz17_3 := blk_frozen BK404.out 3; have hfz17_4 := blk_frozen BK404.out 4; have hfz17_5 := blk_frozen BK404.out 5; have hfz17_6 := blk_frozen BK404.out 6) | ((with_reducible refine gate_callee (f := 117) rfl ?_); refine gl_ 29 Tryd.func117 #[.int .i64 a0_3] ?_; (with_reducible refine (impl_RowWho.calls a0_3 t407 t408 _ A12.out ?side1).mono ?_); (case side1 => exact Glob.below HG.out (bel_)); rintro e w' ⟨rfl, ⟨nd, rfl⟩⟩; refine ⟨_, rfl, ?_⟩))
      go_ret
      exact ⟨fi_, bel_⟩
     ·rw [if_neg c13] at H
      have c13b0 : (a0_2 == 1) = false := beq_eq_false_iff_ne.mpr c13
      have c13b1 : (a0_2 != 1) = true := bne_iff_ne.mpr c13
      obtain rfl := Option.some.inj H
      go_enter Tryd.func78, Tryd.ntmps78
      go_wp2_with (first | ((with_reducible refine gate_dst (N := 1) rfl ?_); refine bx_ 1 (#[.int .i64 a0_0, .int .i64 a0_1, .int .i64 a0_2, .int .i64 a0_3, .int .i64 a0_4, .int .i64 a0_5, .string a0_6]) 44 ?_; intro gb404 hg w18 hbox hb; have n0_ := Aside0.mk (below_step (bel_) hb); have n1_ := Aside0.mk (hbox); have n2_ := Aside0.mk ((by rw [hg]; exact (below_size (bel_)) : w.heap.size ≤ gb404)); have n3_ := Aside0.mk ((by rw [hg]; exact (below_size (bel_)) : w.heap.size ≤ gb404)); clear HB; have HB := n0_; have BK404 := n1_; have GW404 := n2_; have GE404 := n3_; clear n0_ n1_ n2_ n3_; clear hb hbox hg; have hcz19_0 := cz_ BK404.out 0 (.int .i64 a0_0); have hcz19_1 := cz_ BK404.out 1 (.int .i64 a0_1); have hcz19_2 := cz_ BK404.out 2 (.int .i64 a0_2); have hcz19_3 := cz_ BK404.out 3 (.int .i64 a0_3); have hcz19_4 := cz_ BK404.out 4 (.int .i64 a0_4); have hcz19_5 := cz_ BK404.out 5 (.int .i64 a0_5); have hcz19_6 := cz_ BK404.out 6 (.string a0_6); have hfz19_0 := blk_frozen BK404.out 0; have hfz19_1 := blk_frozen BK404.out 1; have hfz19_2 := blk_frozen BK404.out 2; have hfz19_3 := blk_frozen BK404.out 3; have hfz19_4 := blk_frozen BK404.out 4; have hfz19_5 := blk_frozen BK404.out 5; have hfz19_6 := blk_frozen BK404.out 6) | ((with_reducible refine gate_callee (f := 104) rfl ?_); refine gl_ 7 Tryd.func104 #[.int .i64 a0_0] ?_; (with_reducible refine (impl_whoOk.calls a0_0 true _ A2.out).mono ?_); rintro e w' ⟨rfl, ⟨nd, rfl⟩⟩; refine ⟨_, rfl, ?_⟩) | (go_at_call 116; (with_reducible refine (impl_OpOk.calls k a0_2 a0_3 a0_4 a0_5 a0_6 true _ A10.out ?side1).mono ?_); (case side1 => exact Glob.below HG.out (bel_)); rintro e w20 ⟨rfl, hb⟩; replace HB := Aside0.mk (below_step (bel_) hb); replace BK404 := Aside0.mk (bb_ BK404.out hb); (try clear hb); have hcz21_0 := cz_ BK404.out 0 (.int .i64 a0_0); have hcz21_1 := cz_ BK404.out 1 (.int .i64 a0_1); have hcz21_2 := cz_ BK404.out 2 (.int .i64 a0_2); have hcz21_3 := cz_ BK404.out 3 (.int .i64 a0_3); have hcz21_4 := cz_ BK404.out 4 (.int .i64 a0_4); have hcz21_5 := cz_ BK404.out 5 (.int .i64 a0_5); have hcz21_6 := cz_ BK404.out 6 (.string a0_6); have hfz21_0 := blk_frozen BK404.out 0; have hfz21_1 := blk_frozen BK404.out 1; have hfz21_2 := blk_frozen BK404.out 2; have hfz21_3 := blk_frozen BK404.out 3; have hfz21_4 := blk_frozen BK404.out 4; have hfz21_5 := blk_frozen BK404.out 5; have hfz21_6 := blk_frozen BK404.out 6) | ((with_reducible refine gate_callee (f := 117) rfl ?_); refine gl_ 29 Tryd.func117 #[.int .i64 a0_3] ?_; (with_reducible refine (impl_RowWho.calls a0_3 t407 t408 _ A12.out ?side1).mono ?_); (case side1 => exact Glob.below HG.out (bel_)); rintro e w' ⟨rfl, ⟨nd, rfl⟩⟩; refine ⟨_, rfl, ?_⟩))
      go_ret
      exact ⟨fi_, bel_⟩
    ·replace c11 := Bool.eq_false_iff.mpr c11
     subst c11
     have H1 : (some false) = some r := by rw [if_neg (show ¬ (false = true) by decide)] at H; exact H
     clear H
     have H := H1
     clear H1
     obtain rfl := Option.some.inj H
     go_enter Tryd.func78, Tryd.ntmps78
     go_wp2_with (first | ((with_reducible refine gate_dst (N := 1) rfl ?_); refine bx_ 1 (#[.int .i64 a0_0, .int .i64 a0_1, .int .i64 a0_2, .int .i64 a0_3, .int .i64 a0_4, .int .i64 a0_5, .string a0_6]) 44 ?_; intro gb404 hg w22 hbox hb; have n0_ := Aside0.mk (below_step (bel_) hb); have n1_ := Aside0.mk (hbox); have n2_ := Aside0.mk ((by rw [hg]; exact (below_size (bel_)) : w.heap.size ≤ gb404)); have n3_ := Aside0.mk ((by rw [hg]; exact (below_size (bel_)) : w.heap.size ≤ gb404)); clear HB; have HB := n0_; have BK404 := n1_; have GW404 := n2_; have GE404 := n3_; clear n0_ n1_ n2_ n3_; clear hb hbox hg; have hcz23_0 := cz_ BK404.out 0 (.int .i64 a0_0); have hcz23_1 := cz_ BK404.out 1 (.int .i64 a0_1); have hcz23_2 := cz_ BK404.out 2 (.int .i64 a0_2); have hcz23_3 := cz_ BK404.out 3 (.int .i64 a0_3); have hcz23_4 := cz_ BK404.out 4 (.int .i64 a0_4); have hcz23_5 := cz_ BK404.out 5 (.int .i64 a0_5); have hcz23_6 := cz_ BK404.out 6 (.string a0_6); have hfz23_0 := blk_frozen BK404.out 0; have hfz23_1 := blk_frozen BK404.out 1; have hfz23_2 := blk_frozen BK404.out 2; have hfz23_3 := blk_frozen BK404.out 3; have hfz23_4 := blk_frozen BK404.out 4; have hfz23_5 := blk_frozen BK404.out 5; have hfz23_6 := blk_frozen BK404.out 6) | ((with_reducible refine gate_callee (f := 104) rfl ?_); refine gl_ 7 Tryd.func104 #[.int .i64 a0_0] ?_; (with_reducible refine (impl_whoOk.calls a0_0 true _ A2.out).mono ?_); rintro e w' ⟨rfl, ⟨nd, rfl⟩⟩; refine ⟨_, rfl, ?_⟩) | (go_at_call 116; (with_reducible refine (impl_OpOk.calls k a0_2 a0_3 a0_4 a0_5 a0_6 false _ A10.out ?side1).mono ?_); (case side1 => exact Glob.below HG.out (bel_)); rintro e w24 ⟨rfl, hb⟩; replace HB := Aside0.mk (below_step (bel_) hb); replace BK404 := Aside0.mk (bb_ BK404.out hb); (try clear hb)))
     go_ret
     exact ⟨fi_, bel_⟩
 ·replace c3 := Bool.eq_false_iff.mpr c3
  subst c3
  have H1 : (some false) = some r := by rw [if_neg (show ¬ (false = true) by decide)] at H; exact H
  clear H
  have H := H1
  clear H1
  obtain rfl := Option.some.inj H
  go_enter Tryd.func78, Tryd.ntmps78
  go_wp2_with (first | ((with_reducible refine gate_dst (N := 1) rfl ?_); refine bx_ 1 (#[.int .i64 a0_0, .int .i64 a0_1, .int .i64 a0_2, .int .i64 a0_3, .int .i64 a0_4, .int .i64 a0_5, .string a0_6]) 44 ?_; intro gb404 hg w25 hbox hb; have n0_ := Aside0.mk (below_step (bel_) hb); have n1_ := Aside0.mk (hbox); have n2_ := Aside0.mk ((by rw [hg]; exact (below_size (bel_)) : w.heap.size ≤ gb404)); have n3_ := Aside0.mk ((by rw [hg]; exact (below_size (bel_)) : w.heap.size ≤ gb404)); clear HB; have HB := n0_; have BK404 := n1_; have GW404 := n2_; have GE404 := n3_; clear n0_ n1_ n2_ n3_; clear hb hbox hg; have hcz26_0 := cz_ BK404.out 0 (.int .i64 a0_0); have hcz26_1 := cz_ BK404.out 1 (.int .i64 a0_1); have hcz26_2 := cz_ BK404.out 2 (.int .i64 a0_2); have hcz26_3 := cz_ BK404.out 3 (.int .i64 a0_3); have hcz26_4 := cz_ BK404.out 4 (.int .i64 a0_4); have hcz26_5 := cz_ BK404.out 5 (.int .i64 a0_5); have hcz26_6 := cz_ BK404.out 6 (.string a0_6); have hfz26_0 := blk_frozen BK404.out 0; have hfz26_1 := blk_frozen BK404.out 1; have hfz26_2 := blk_frozen BK404.out 2; have hfz26_3 := blk_frozen BK404.out 3; have hfz26_4 := blk_frozen BK404.out 4; have hfz26_5 := blk_frozen BK404.out 5; have hfz26_6 := blk_frozen BK404.out 6) | ((with_reducible refine gate_callee (f := 104) rfl ?_); refine gl_ 7 Tryd.func104 #[.int .i64 a0_0] ?_; (with_reducible refine (impl_whoOk.calls a0_0 false _ A2.out).mono ?_); rintro e w' ⟨rfl, ⟨nd, rfl⟩⟩; refine ⟨_, rfl, ?_⟩))
  go_ret
  exact ⟨fi_, bel_⟩


def spec_l1Root.f (a0 : Int) : Option (Bool) := (spec_l6In.f a0 1 3).bind fun t411 => (some t411)
set_option maxHeartbeats 8000000 in
set_option maxRecDepth 100000 in
theorem spec_l1Root.calls (a0 : Int) (r : Bool) (w : World) (h : spec_l1Root.f a0 = some r) :
  Calls Tryd.prog 141 #[.int .i64 a0] w fun e w' => e = .returned (.bool r) ∧ Drawn0 w w' := by
 unfold spec_l1Root.f at h
 have H := h
 clear h
 replace H := Option.bind_eq_some_iff.mp H
 obtain ⟨t411, A20, H⟩ := H
 try dsimp only at H
 have A2 := Aside0.mk A20
 clear A20
 obtain rfl := Option.some.inj H
 go_enter Tryd.func141, Tryd.ntmps141
 go_wp2_with (first | ((with_reducible refine gate_callee (f := 75) rfl ?_); refine gl_ 4 Tryd.func75 #[.int .i64 a0, .int .i64 1, .int .i64 3] ?_; (with_reducible refine (spec_l6In.calls a0 1 3 t411 _ A2.out).mono ?_); rintro e w' ⟨rfl, ⟨nd, rfl⟩⟩; refine ⟨_, rfl, ?_⟩))
 go_ret
 exact ⟨si_, by repeat (first | exact Drawn0.refl _ | apply Drawn0.step)⟩

def spec_l3Id.f (a0 : Int) : Option (Bool) := (spec_l1Root.f a0).bind fun t412 => (if t412 = true then (some true) else ((spec_l1Made.f a0).bind fun t413 => (some t413)))
set_option maxHeartbeats 8000000 in
set_option maxRecDepth 100000 in
theorem spec_l3Id.calls (a0 : Int) (r : Bool) (w : World) (h : spec_l3Id.f a0 = some r) :
  Calls Tryd.prog 122 #[.int .i64 a0] w fun e w' => e = .returned (.bool r) ∧ Drawn0 w w' := by
 unfold spec_l3Id.f at h
 have H := h
 clear h
 replace H := Option.bind_eq_some_iff.mp H
 obtain ⟨t412, A20, H⟩ := H
 try dsimp only at H
 have A2 := Aside0.mk A20
 clear A20
 by_cases c3 : t412 = true
 ·subst c3
  have H1 : (some true) = some r := by rw [if_pos rfl] at H; exact H
  clear H
  have H := H1
  clear H1
  obtain rfl := Option.some.inj H
  go_enter Tryd.func122, Tryd.ntmps122
  go_wp2_with (first | ((with_reducible refine gate_callee (f := 141) rfl ?_); refine gl_ 4 Tryd.func141 #[.int .i64 a0] ?_; (with_reducible refine (spec_l1Root.calls a0 true _ A2.out).mono ?_); rintro e w' ⟨rfl, ⟨nd, rfl⟩⟩; refine ⟨_, rfl, ?_⟩))
  go_ret
  exact ⟨si_, by repeat (first | exact Drawn0.refl _ | apply Drawn0.step)⟩
 ·replace c3 := Bool.eq_false_iff.mpr c3
  subst c3
  have H1 : ((spec_l1Made.f a0).bind fun t413 => (some t413)) = some r := by rw [if_neg (show ¬ (false = true) by decide)] at H; exact H
  clear H
  have H := H1
  clear H1
  replace H := Option.bind_eq_some_iff.mp H
  obtain ⟨t413, A40, H⟩ := H
  try dsimp only at H
  have A4 := Aside0.mk A40
  clear A40
  obtain rfl := Option.some.inj H
  go_enter Tryd.func122, Tryd.ntmps122
  go_wp2_with (first | ((with_reducible refine gate_callee (f := 141) rfl ?_); refine gl_ 4 Tryd.func141 #[.int .i64 a0] ?_; (with_reducible refine (spec_l1Root.calls a0 false _ A2.out).mono ?_); rintro e w' ⟨rfl, ⟨nd, rfl⟩⟩; refine ⟨_, rfl, ?_⟩) | (go_at_call 120; (with_reducible refine (spec_l1Made.calls a0 t413 _ A4.out).mono ?_); rintro e w' ⟨rfl, ⟨nd, rfl⟩⟩))
  go_ret
  exact ⟨si_, by repeat (first | exact Drawn0.refl _ | apply Drawn0.step)⟩

def spec_OpOk.j0 : Nat → Bool → Int → Int → Int → Int → ByteArray → Option (Bool)
 | 0, _, _, _, _, _, _ => none
 | k + 1, x12, x415000, x415001, x415002, x415003, x415004 => if x12 = true then (some false) else (if x415000 = 1 then ((spec_l3Id.f x415002).bind fun t417 => (if t417 = true then (if x415003 = 0 then (some true) else ((spec_l1Made.f x415003).bind fun t418 => (some t418))) else (some false))) else (if x415000 = 2 then (if x415002 = 0 then (some (x415003 == 0)) else (some false)) else (if x415000 = 3 then ((spec_l3Id.f x415002).bind fun t419 => (if t419 = true then (if x415003 = 0 then (some (x415004.toList == ([] : List UInt8))) else ((spec_l1Made.f x415003).bind fun t420 => (if t420 = true then (some (x415004.toList == ([] : List UInt8))) else (some false)))) else (some false))) else (some false))))
def spec_OpOk.f (k : Nat) (a0_0 : Int) (a0_1 : Int) (a0_2 : Int) (a0_3 : Int) (a0_4 : ByteArray) : Option (Bool) := (spec_l1Made.f a0_1).bind fun t415 => (if t415 = true then ((spec_l1Text.f k a0_4).bind fun t416 => (spec_OpOk.j0 k (!t416) a0_0 a0_1 a0_2 a0_3 a0_4)) else (spec_OpOk.j0 k true a0_0 a0_1 a0_2 a0_3 a0_4))
theorem spec_OpOk.mono_l : ∀ k, (∀ y0 y1 y2 y3 y4 y5, LeO (spec_OpOk.j0 k y0 y1 y2 y3 y4 y5) (spec_OpOk.j0 (k + 1) y0 y1 y2 y3 y4 y5))
 | 0 => fun _ _ _ _ _ _ r h => by simp [spec_OpOk.j0] at h
 | k + 1 => by
  have ih0 := spec_OpOk.mono_l k
  ·intro y0 y1 y2 y3 y4 y5
   unfold spec_OpOk.j0
   repeat' first
   | (with_reducible exact ih0 _ _ _ _ _ _)
   | (with_reducible exact spec_l1Text.mono _ _)
   | (with_reducible exact LeO.refl _)
   | (with_reducible exact LeO.none _)
   | (with_reducible refine LeO.ite ?_ ?_)
   | (with_reducible refine LeO.bind ?_ (fun _ => ?_))
   | exact ih0 _ _ _ _ _ _
   | exact spec_l1Text.mono _ _
   | exact LeO.none _
   | refine LeO.ite ?_ ?_
   | refine LeO.bind ?_ (fun _ => ?_)
theorem spec_OpOk.mono : ∀ a0 a1 a2 a3 a4 k, LeO (spec_OpOk.f k a0 a1 a2 a3 a4) (spec_OpOk.f (k + 1) a0 a1 a2 a3 a4) := by
 intro a0 a1 a2 a3 a4 k
 have ih0 := spec_OpOk.mono_l k
 unfold spec_OpOk.f
 repeat' first
   | (with_reducible exact ih0 _ _ _ _ _ _)
   | (with_reducible exact spec_l1Text.mono _ _)
   | (with_reducible exact LeO.refl _)
   | (with_reducible exact LeO.none _)
   | (with_reducible refine LeO.ite ?_ ?_)
   | (with_reducible refine LeO.bind ?_ (fun _ => ?_))
   | exact ih0 _ _ _ _ _ _
   | exact spec_l1Text.mono _ _
   | exact LeO.none _
   | refine LeO.ite ?_ ?_
   | refine LeO.bind ?_ (fun _ => ?_)
set_option maxHeartbeats 8000000 in
set_option maxRecDepth 100000 in
theorem spec_OpOk.calls (k : Nat) (a0_0 : Int) (a0_1 : Int) (a0_2 : Int) (a0_3 : Int) (a0_4 : ByteArray) (r : Bool) (w : World) (h : spec_OpOk.f k a0_0 a0_1 a0_2 a0_3 a0_4 = some r) :
  Calls Tryd.prog 84 #[.agg #[.int .i64 a0_0, .int .i64 a0_1, .int .i64 a0_2, .int .i64 a0_3, .string a0_4]] w fun e w' => e = .returned (.bool r) ∧ Below w.heap.size w w' := by
 have hu42 := Tryd.underlying42
 have HB := Aside0.mk (Below.refl w.heap.size w)
 unfold spec_OpOk.f at h
 have H := h
 clear h
 have HC2 := Aside0.mk H
 clear H
 go_enter Tryd.func84, Tryd.ntmps84
 go_upto_region 1 with (first | ((with_reducible refine gate_dst (N := 1) rfl ?_); refine bx_ 1 (#[.int .i64 a0_0, .int .i64 a0_1, .int .i64 a0_2, .int .i64 a0_3, .string a0_4]) 42 ?_; intro gb414 hg w3 hbox hb; have n0_ := Aside0.mk (below_step (bel_) hb); have n1_ := Aside0.mk (hbox); have n2_ := Aside0.mk ((by rw [hg]; exact (below_size (bel_)) : w.heap.size ≤ gb414)); have n3_ := Aside0.mk ((by rw [hg]; exact (below_size (bel_)) : w.heap.size ≤ gb414)); clear HB; have HB := n0_; have BK414 := n1_; have GW414 := n2_; have GE414 := n3_; clear n0_ n1_ n2_ n3_; clear hb hbox hg))
 (try simp only [Act.put, List.setIfInBounds_toArray, List.set_cons_zero, List.set_cons_succ])
 go_cut [12] (fun v12 wc => ∃ (kq : Nat) (x12_1 : Bool), v12 = .bool x12_1 ∧ Aside0 (spec_OpOk.j0 kq x12_1 a0_0 a0_1 a0_2 a0_3 a0_4 = some r) ∧ Aside0 (kq ≤ k) ∧ Aside0 (wc.heap[gb414]? = some (.cells #[.int .i64 a0_0, .int .i64 a0_1, .int .i64 a0_2, .int .i64 a0_3, .string a0_4] 42 (0, 0))) ∧ Aside0 (Below w.heap.size w wc))
 case first =>
  have H := HC2.out
  clear HC2
  replace H := Option.bind_eq_some_iff.mp H
  obtain ⟨t415, A40, H⟩ := H
  try dsimp only at H
  have A4 := Aside0.mk A40
  clear A40
  by_cases c5 : t415 = true
  ·subst c5
   have H1 : ((spec_l1Text.f k a0_4).bind fun t416 => (spec_OpOk.j0 k (!t416) a0_0 a0_1 a0_2 a0_3 a0_4)) = some r := by rw [if_pos rfl] at H; exact H
   clear H
   have H := H1
   clear H1
   replace H := Option.bind_eq_some_iff.mp H
   obtain ⟨t416, A60, H⟩ := H
   try dsimp only at H
   have A6 := Aside0.mk A60
   clear A60
   have H' := Aside0.mk H
   clear H
   have hcz7_0 := cz_ BK414.out 0 (.int .i64 a0_0)
   have hcz7_1 := cz_ BK414.out 1 (.int .i64 a0_1)
   have hcz7_2 := cz_ BK414.out 2 (.int .i64 a0_2)
   have hcz7_3 := cz_ BK414.out 3 (.int .i64 a0_3)
   have hcz7_4 := cz_ BK414.out 4 (.string a0_4)
   have hfz7_0 := blk_frozen BK414.out 0
   have hfz7_1 := blk_frozen BK414.out 1
   have hfz7_2 := blk_frozen BK414.out 2
   have hfz7_3 := blk_frozen BK414.out 3
   have hfz7_4 := blk_frozen BK414.out 4
   go_wp2_with (first | ((with_reducible refine gate_callee (f := 120) rfl ?_); refine gl_ 5 Tryd.func120 #[.int .i64 a0_1] ?_; (with_reducible refine (spec_l1Made.calls a0_1 true _ A4.out).mono ?_); rintro e w' ⟨rfl, ⟨nd, rfl⟩⟩; refine ⟨_, rfl, ?_⟩) | (go_at_call 121; (with_reducible refine (spec_l1Text.calls k a0_4 t416 _ A6.out).mono ?_); rintro e w' ⟨rfl, ⟨nd, rfl⟩⟩))
   go_meet
   case rel => exact ⟨_, (!t416), (si_), H', ⟨by first | omega | exact Nat.le_refl _⟩, ⟨by (with_reducible repeat (first | refine blk_drewN ?_ _ | refine blk_drew ?_ | refine blk_alloc ?_ _)); exact BK414.out⟩, ⟨bel_⟩⟩
  ·replace c5 := Bool.eq_false_iff.mpr c5
   subst c5
   have H1 : (spec_OpOk.j0 k true a0_0 a0_1 a0_2 a0_3 a0_4) = some r := by rw [if_neg (show ¬ (false = true) by decide)] at H; exact H
   clear H
   have H := H1
   clear H1
   have H' := Aside0.mk H
   clear H
   have hcz8_0 := cz_ BK414.out 0 (.int .i64 a0_0)
   have hcz8_1 := cz_ BK414.out 1 (.int .i64 a0_1)
   have hcz8_2 := cz_ BK414.out 2 (.int .i64 a0_2)
   have hcz8_3 := cz_ BK414.out 3 (.int .i64 a0_3)
   have hcz8_4 := cz_ BK414.out 4 (.string a0_4)
   have hfz8_0 := blk_frozen BK414.out 0
   have hfz8_1 := blk_frozen BK414.out 1
   have hfz8_2 := blk_frozen BK414.out 2
   have hfz8_3 := blk_frozen BK414.out 3
   have hfz8_4 := blk_frozen BK414.out 4
   go_wp2_with (first | ((with_reducible refine gate_callee (f := 120) rfl ?_); refine gl_ 5 Tryd.func120 #[.int .i64 a0_1] ?_; (with_reducible refine (spec_l1Made.calls a0_1 false _ A4.out).mono ?_); rintro e w' ⟨rfl, ⟨nd, rfl⟩⟩; refine ⟨_, rfl, ?_⟩))
   go_meet
   case rel => exact ⟨_, (true), (si_), H', ⟨by first | omega | exact Nat.le_refl _⟩, ⟨by (with_reducible repeat (first | refine blk_drewN ?_ _ | refine blk_drew ?_ | refine blk_alloc ?_ _)); exact BK414.out⟩, ⟨bel_⟩⟩
 case rest =>
  clear HC2
  try clear c1
  try clear p2
  try clear c5
  try clear c8
  try clear hcz7_0
  try clear hcz7_1
  try clear hcz7_2
  try clear hcz7_3
  try clear hcz7_4
  try clear hcz8_0
  try clear hcz8_1
  try clear hcz8_2
  try clear hcz8_3
  try clear hcz8_4
  try clear hfz7_0
  try clear hfz7_1
  try clear hfz7_2
  try clear hfz7_3
  try clear hfz7_4
  try clear hfz8_0
  try clear hfz8_1
  try clear hfz8_2
  try clear hfz8_3
  try clear hfz8_4
  obtain ⟨kq, x12_1, rfl, HA, HJ1, BK414, HB⟩ := hcut
  cases kq with
  | zero => exact absurd HA.out (by simp [spec_OpOk.j0])
  | succ kj1 =>
   have H := HA.out
   clear HA
   simp only [spec_OpOk.j0] at H
   by_cases c9 : x12_1 = true
   ·subst c9
    have H1 : (some false) = some r := by rw [if_pos rfl] at H; exact H
    clear H
    have H := H1
    clear H1
    obtain rfl := Option.some.inj H
    go_wp2
    go_ret
    exact ⟨fi_, bel_⟩
   ·replace c9 := Bool.eq_false_iff.mpr c9
    subst c9
    have H1 : (if a0_0 = 1 then ((spec_l3Id.f a0_2).bind fun t417 => (if t417 = true then (if a0_3 = 0 then (some true) else ((spec_l1Made.f a0_3).bind fun t418 => (some t418))) else (some false))) else (if a0_0 = 2 then (if a0_2 = 0 then (some (a0_3 == 0)) else (some false)) else (if a0_0 = 3 then ((spec_l3Id.f a0_2).bind fun t419 => (if t419 = true then (if a0_3 = 0 then (some (a0_4.toList == ([] : List UInt8))) else ((spec_l1Made.f a0_3).bind fun t420 => (if t420 = true then (some (a0_4.toList == ([] : List UInt8))) else (some false)))) else (some false))) else (some false)))) = some r := by rw [if_neg (show ¬ (false = true) by decide)] at H; exact H
    clear H
    have H := H1
    clear H1
    by_cases c10 : a0_0 = 1
    ·rw [if_pos c10] at H
     have c10b0 : (a0_0 == 1) = true := beq_iff_eq.mpr c10
     have c10b1 : (a0_0 != 1) = false := bne_eq_false_iff_eq.mpr c10
     clear c10
     replace H := Option.bind_eq_some_iff.mp H
     obtain ⟨t417, A110, H⟩ := H
     try dsimp only at H
     have A11 := Aside0.mk A110
     clear A110
     by_cases c12 : t417 = true
     ·subst c12
      have H1 : (if a0_3 = 0 then (some true) else ((spec_l1Made.f a0_3).bind fun t418 => (some t418))) = some r := by rw [if_pos rfl] at H; exact H
      clear H
      have H := H1
      clear H1
      by_cases c13 : a0_3 = 0
      ·rw [if_pos c13] at H
       have c13b0 : (a0_3 == 0) = true := beq_iff_eq.mpr c13
       have c13b1 : (a0_3 != 0) = false := bne_eq_false_iff_eq.mpr c13
       clear c13
       obtain rfl := Option.some.inj H
       have hcz14_0 : wc.cell? ⟨gb414, 0, none⟩ = some (.int .i64 a0_0) := (blk_cell BK414.out 0).trans rfl
       have hcz14_1 : wc.cell? ⟨gb414, 1, none⟩ = some (.int .i64 a0_1) := (blk_cell BK414.out 1).trans rfl
       have hcz14_2 : wc.cell? ⟨gb414, 2, none⟩ = some (.int .i64 a0_2) := (blk_cell BK414.out 2).trans rfl
       have hcz14_3 : wc.cell? ⟨gb414, 3, none⟩ = some (.int .i64 a0_3) := (blk_cell BK414.out 3).trans rfl
       have hcz14_4 : wc.cell? ⟨gb414, 4, none⟩ = some (.string a0_4) := (blk_cell BK414.out 4).trans rfl
       have hfz14_0 := blk_frozen BK414.out 0
       have hfz14_1 := blk_frozen BK414.out 1
       have hfz14_2 := blk_frozen BK414.out 2
       have hfz14_3 := blk_frozen BK414.out 3
       have hfz14_4 := blk_frozen BK414.out 4
       go_wp2_with (first | ((with_reducible refine gate_callee (f := 122) rfl ?_); refine gl_ 19 Tryd.func122 #[.int .i64 a0_2] ?_; (with_reducible refine (spec_l3Id.calls a0_2 true _ A11.out).mono ?_); rintro e w' ⟨rfl, ⟨nd, rfl⟩⟩; refine ⟨_, rfl, ?_⟩))
       go_ret
       exact ⟨fi_, bel_⟩
      ·rw [if_neg c13] at H
       have c13b0 : (a0_3 == 0) = false := beq_eq_false_iff_ne.mpr c13
       have c13b1 : (a0_3 != 0) = true := bne_iff_ne.mpr c13
       replace H := Option.bind_eq_some_iff.mp H
       obtain ⟨t418, A150, H⟩ := H
       try dsimp only at H
       have A15 := Aside0.mk A150
       clear A150
       obtain rfl := Option.some.inj H
       have hcz16_0 : wc.cell? ⟨gb414, 0, none⟩ = some (.int .i64 a0_0) := (blk_cell BK414.out 0).trans rfl
       have hcz16_1 : wc.cell? ⟨gb414, 1, none⟩ = some (.int .i64 a0_1) := (blk_cell BK414.out 1).trans rfl
       have hcz16_2 : wc.cell? ⟨gb414, 2, none⟩ = some (.int .i64 a0_2) := (blk_cell BK414.out 2).trans rfl
       have hcz16_3 : wc.cell? ⟨gb414, 3, none⟩ = some (.int .i64 a0_3) := (blk_cell BK414.out 3).trans rfl
       have hcz16_4 : wc.cell? ⟨gb414, 4, none⟩ = some (.string a0_4) := (blk_cell BK414.out 4).trans rfl
       have hfz16_0 := blk_frozen BK414.out 0
       have hfz16_1 := blk_frozen BK414.out 1
       have hfz16_2 := blk_frozen BK414.out 2
       have hfz16_3 := blk_frozen BK414.out 3
       have hfz16_4 := blk_frozen BK414.out 4
       go_wp2_with (first | ((with_reducible refine gate_callee (f := 122) rfl ?_); refine gl_ 19 Tryd.func122 #[.int .i64 a0_2] ?_; (with_reducible refine (spec_l3Id.calls a0_2 true _ A11.out).mono ?_); rintro e w' ⟨rfl, ⟨nd, rfl⟩⟩; refine ⟨_, rfl, ?_⟩) | (go_at_call 120; (with_reducible refine (spec_l1Made.calls a0_3 t418 _ A15.out).mono ?_); rintro e w' ⟨rfl, ⟨nd, rfl⟩⟩))
       go_ret
       exact ⟨fi_, bel_⟩
     ·replace c12 := Bool.eq_false_iff.mpr c12
      subst c12
      have H1 : (some false) = some r := by rw [if_neg (show ¬ (false = true) by decide)] at H; exact H
      clear H
      have H := H1
      clear H1
      obtain rfl := Option.some.inj H
      have hcz17_0 : wc.cell? ⟨gb414, 0, none⟩ = some (.int .i64 a0_0) := (blk_cell BK414.out 0).trans rfl
      have hcz17_1 : wc.cell? ⟨gb414, 1, none⟩ = some (.int .i64 a0_1) := (blk_cell BK414.out 1).trans rfl
      have hcz17_2 : wc.cell? ⟨gb414, 2, none⟩ = some (.int .i64 a0_2) := (blk_cell BK414.out 2).trans rfl
      have hcz17_3 : wc.cell? ⟨gb414, 3, none⟩ = some (.int .i64 a0_3) := (blk_cell BK414.out 3).trans rfl
      have hcz17_4 : wc.cell? ⟨gb414, 4, none⟩ = some (.string a0_4) := (blk_cell BK414.out 4).trans rfl
      have hfz17_0 := blk_frozen BK414.out 0
      have hfz17_1 := blk_frozen BK414.out 1
      have hfz17_2 := blk_frozen BK414.out 2
      have hfz17_3 := blk_frozen BK414.out 3
      have hfz17_4 := blk_frozen BK414.out 4
      go_wp2_with (first | ((with_reducible refine gate_callee (f := 122) rfl ?_); refine gl_ 19 Tryd.func122 #[.int .i64 a0_2] ?_; (with_reducible refine (spec_l3Id.calls a0_2 false _ A11.out).mono ?_); rintro e w' ⟨rfl, ⟨nd, rfl⟩⟩; refine ⟨_, rfl, ?_⟩))
      go_ret
      exact ⟨fi_, bel_⟩
    ·rw [if_neg c10] at H
     have c10b0 : (a0_0 == 1) = false := beq_eq_false_iff_ne.mpr c10
     have c10b1 : (a0_0 != 1) = true := bne_iff_ne.mpr c10
     by_cases c18 : a0_0 = 2
     ·rw [if_pos c18] at H
      have c18b0 : (a0_0 == 2) = true := beq_iff_eq.mpr c18
      have c18b1 : (a0_0 != 2) = false := bne_eq_false_iff_eq.mpr c18
      clear c18
      by_cases c19 : a0_2 = 0
      ·rw [if_pos c19] at H
       have c19b0 : (a0_2 == 0) = true := beq_iff_eq.mpr c19
       have c19b1 : (a0_2 != 0) = false := bne_eq_false_iff_eq.mpr c19
       clear c19
       obtain rfl := Option.some.inj H
       have hcz20_0 : wc.cell? ⟨gb414, 0, none⟩ = some (.int .i64 a0_0) := (blk_cell BK414.out 0).trans rfl
       have hcz20_1 : wc.cell? ⟨gb414, 1, none⟩ = some (.int .i64 a0_1) := (blk_cell BK414.out 1).trans rfl
       have hcz20_2 : wc.cell? ⟨gb414, 2, none⟩ = some (.int .i64 a0_2) := (blk_cell BK414.out 2).trans rfl
       have hcz20_3 : wc.cell? ⟨gb414, 3, none⟩ = some (.int .i64 a0_3) := (blk_cell BK414.out 3).trans rfl
       have hcz20_4 : wc.cell? ⟨gb414, 4, none⟩ = some (.string a0_4) := (blk_cell BK414.out 4).trans rfl
       have hfz20_0 := blk_frozen BK414.out 0
       have hfz20_1 := blk_frozen BK414.out 1
       have hfz20_2 := blk_frozen BK414.out 2
       have hfz20_3 := blk_frozen BK414.out 3
       have hfz20_4 := blk_frozen BK414.out 4
       go_wp2
       go_ret
       exact ⟨fi_, bel_⟩
      ·rw [if_neg c19] at H
       have c19b0 : (a0_2 == 0) = false := beq_eq_false_iff_ne.mpr c19
       have c19b1 : (a0_2 != 0) = true := bne_iff_ne.mpr c19
       obtain rfl := Option.some.inj H
       have hcz21_0 : wc.cell? ⟨gb414, 0, none⟩ = some (.int .i64 a0_0) := (blk_cell BK414.out 0).trans rfl
       have hcz21_1 : wc.cell? ⟨gb414, 1, none⟩ = some (.int .i64 a0_1) := (blk_cell BK414.out 1).trans rfl
       have hcz21_2 : wc.cell? ⟨gb414, 2, none⟩ = some (.int .i64 a0_2) := (blk_cell BK414.out 2).trans rfl
       have hcz21_3 : wc.cell? ⟨gb414, 3, none⟩ = some (.int .i64 a0_3) := (blk_cell BK414.out 3).trans rfl
       have hcz21_4 : wc.cell? ⟨gb414, 4, none⟩ = some (.string a0_4) := (blk_cell BK414.out 4).trans rfl
       have hfz21_0 := blk_frozen BK414.out 0
       have hfz21_1 := blk_frozen BK414.out 1
       have hfz21_2 := blk_frozen BK414.out 2
       have hfz21_3 := blk_frozen BK414.out 3
       have hfz21_4 := blk_frozen BK414.out 4
       go_wp2
       go_ret
       exact ⟨fi_, bel_⟩
     ·rw [if_neg c18] at H
      have c18b0 : (a0_0 == 2) = false := beq_eq_false_iff_ne.mpr c18
      have c18b1 : (a0_0 != 2) = true := bne_iff_ne.mpr c18
      by_cases c22 : a0_0 = 3
      ·rw [if_pos c22] at H
       have c22b0 : (a0_0 == 3) = true := beq_iff_eq.mpr c22
       have c22b1 : (a0_0 != 3) = false := bne_eq_false_iff_eq.mpr c22
       clear c22
       replace H := Option.bind_eq_some_iff.mp H
       obtain ⟨t419, A230, H⟩ := H
       try dsimp only at H
       have A23 := Aside0.mk A230
       clear A230
       by_cases c24 : t419 = true
       ·subst c24
        have H1 : (if a0_3 = 0 then (some (a0_4.toList == ([] : List UInt8))) else ((spec_l1Made.f a0_3).bind fun t420 => (if t420 = true then (some (a0_4.toList == ([] : List UInt8))) else (some false)))) = some r := by rw [if_pos rfl] at H; exact H
        clear H
        have H := H1
        clear H1
        by_cases c25 : a0_3 = 0
        ·rw [if_pos c25] at H
         have c25b0 : (a0_3 == 0) = true := beq_iff_eq.mpr c25
         have c25b1 : (a0_3 != 0) = false := bne_eq_false_iff_eq.mpr c25
         clear c25
         obtain rfl := Option.some.inj H
         have hcz26_0 : wc.cell? ⟨gb414, 0, none⟩ = some (.int .i64 a0_0) := (blk_cell BK414.out 0).trans rfl
         have hcz26_1 : wc.cell? ⟨gb414, 1, none⟩ = some (.int .i64 a0_1) := (blk_cell BK414.out 1).trans rfl
         have hcz26_2 : wc.cell? ⟨gb414, 2, none⟩ = some (.int .i64 a0_2) := (blk_cell BK414.out 2).trans rfl
         have hcz26_3 : wc.cell? ⟨gb414, 3, none⟩ = some (.int .i64 a0_3) := (blk_cell BK414.out 3).trans rfl
         have hcz26_4 : wc.cell? ⟨gb414, 4, none⟩ = some (.string a0_4) := (blk_cell BK414.out 4).trans rfl
         have hfz26_0 := blk_frozen BK414.out 0
         have hfz26_1 := blk_frozen BK414.out 1
         have hfz26_2 := blk_frozen BK414.out 2
         have hfz26_3 := blk_frozen BK414.out 3
         have hfz26_4 := blk_frozen BK414.out 4
         go_wp2_with (first | ((with_reducible refine gate_callee (f := 122) rfl ?_); refine gl_ 44 Tryd.func122 #[.int .i64 a0_2] ?_; (with_reducible refine (spec_l3Id.calls a0_2 true _ A23.out).mono ?_); rintro e w' ⟨rfl, ⟨nd, rfl⟩⟩; refine ⟨_, rfl, ?_⟩))
         go_ret
         exact ⟨fi_, bel_⟩
        ·rw [if_neg c25] at H
         have c25b0 : (a0_3 == 0) = false := beq_eq_false_iff_ne.mpr c25
         have c25b1 : (a0_3 != 0) = true := bne_iff_ne.mpr c25
         replace H := Option.bind_eq_some_iff.mp H
         obtain ⟨t420, A270, H⟩ := H
         try dsimp only at H
         have A27 := Aside0.mk A270
         clear A270
         by_cases c28 : t420 = true
         ·subst c28
          have H1 : (some (a0_4.toList == ([] : List UInt8))) = some r := by rw [if_pos rfl] at H; exact H
          clear H
          have H := H1
          clear H1
          obtain rfl := Option.some.inj H
          have hcz29_0 : wc.cell? ⟨gb414, 0, none⟩ = some (.int .i64 a0_0) := (blk_cell BK414.out 0).trans rfl
          have hcz29_1 : wc.cell? ⟨gb414, 1, none⟩ = some (.int .i64 a0_1) := (blk_cell BK414.out 1).trans rfl
          have hcz29_2 : wc.cell? ⟨gb414, 2, none⟩ = some (.int .i64 a0_2) := (blk_cell BK414.out 2).trans rfl
          have hcz29_3 : wc.cell? ⟨gb414, 3, none⟩ = some (.int .i64 a0_3) := (blk_cell BK414.out 3).trans rfl
          have hcz29_4 : wc.cell? ⟨gb414, 4, none⟩ = some (.string a0_4) := (blk_cell BK414.out 4).trans rfl
          have hfz29_0 := blk_frozen BK414.out 0
          have hfz29_1 := blk_frozen BK414.out 1
          have hfz29_2 := blk_frozen BK414.out 2
          have hfz29_3 := blk_frozen BK414.out 3
          have hfz29_4 := blk_frozen BK414.out 4
          go_wp2_with (first | ((with_reducible refine gate_callee (f := 122) rfl ?_); refine gl_ 44 Tryd.func122 #[.int .i64 a0_2] ?_; (with_reducible refine (spec_l3Id.calls a0_2 true _ A23.out).mono ?_); rintro e w' ⟨rfl, ⟨nd, rfl⟩⟩; refine ⟨_, rfl, ?_⟩) | (go_at_call 120; (with_reducible refine (spec_l1Made.calls a0_3 true _ A27.out).mono ?_); rintro e w' ⟨rfl, ⟨nd, rfl⟩⟩))
          go_ret
          exact ⟨fi_, bel_⟩
         ·replace c28 := Bool.eq_false_iff.mpr c28
          subst c28
          have H1 : (some false) = some r := by rw [if_neg (show ¬ (false = true) by decide)] at H; exact H
          clear H
          have H := H1
          clear H1
          obtain rfl := Option.some.inj H
          have hcz30_0 : wc.cell? ⟨gb414, 0, none⟩ = some (.int .i64 a0_0) := (blk_cell BK414.out 0).trans rfl
          have hcz30_1 : wc.cell? ⟨gb414, 1, none⟩ = some (.int .i64 a0_1) := (blk_cell BK414.out 1).trans rfl
          have hcz30_2 : wc.cell? ⟨gb414, 2, none⟩ = some (.int .i64 a0_2) := (blk_cell BK414.out 2).trans rfl
          have hcz30_3 : wc.cell? ⟨gb414, 3, none⟩ = some (.int .i64 a0_3) := (blk_cell BK414.out 3).trans rfl
          have hcz30_4 : wc.cell? ⟨gb414, 4, none⟩ = some (.string a0_4) := (blk_cell BK414.out 4).trans rfl
          have hfz30_0 := blk_frozen BK414.out 0
          have hfz30_1 := blk_frozen BK414.out 1
          have hfz30_2 := blk_frozen BK414.out 2
          have hfz30_3 := blk_frozen BK414.out 3
          have hfz30_4 := blk_frozen BK414.out 4
          go_wp2_with (first | ((with_reducible refine gate_callee (f := 122) rfl ?_); refine gl_ 44 Tryd.func122 #[.int .i64 a0_2] ?_; (with_reducible refine (spec_l3Id.calls a0_2 true _ A23.out).mono ?_); rintro e w' ⟨rfl, ⟨nd, rfl⟩⟩; refine ⟨_, rfl, ?_⟩) | (go_at_call 120; (with_reducible refine (spec_l1Made.calls a0_3 false _ A27.out).mono ?_); rintro e w' ⟨rfl, ⟨nd, rfl⟩⟩))
          go_ret
          exact ⟨fi_, bel_⟩
       ·replace c24 := Bool.eq_false_iff.mpr c24
        subst c24
        have H1 : (some false) = some r := by rw [if_neg (show ¬ (false = true) by decide)] at H; exact H
        clear H
        have H := H1
        clear H1
        obtain rfl := Option.some.inj H
        have hcz31_0 : wc.cell? ⟨gb414, 0, none⟩ = some (.int .i64 a0_0) := (blk_cell BK414.out 0).trans rfl
        have hcz31_1 : wc.cell? ⟨gb414, 1, none⟩ = some (.int .i64 a0_1) := (blk_cell BK414.out 1).trans rfl
        have hcz31_2 : wc.cell? ⟨gb414, 2, none⟩ = some (.int .i64 a0_2) := (blk_cell BK414.out 2).trans rfl
        have hcz31_3 : wc.cell? ⟨gb414, 3, none⟩ = some (.int .i64 a0_3) := (blk_cell BK414.out 3).trans rfl
        have hcz31_4 : wc.cell? ⟨gb414, 4, none⟩ = some (.string a0_4) := (blk_cell BK414.out 4).trans rfl
        have hfz31_0 := blk_frozen BK414.out 0
        have hfz31_1 := blk_frozen BK414.out 1
        have hfz31_2 := blk_frozen BK414.out 2
        have hfz31_3 := blk_frozen BK414.out 3
        have hfz31_4 := blk_frozen BK414.out 4
        go_wp2_with (first | ((with_reducible refine gate_callee (f := 122) rfl ?_); refine gl_ 44 Tryd.func122 #[.int .i64 a0_2] ?_; (with_reducible refine (spec_l3Id.calls a0_2 false _ A23.out).mono ?_); rintro e w' ⟨rfl, ⟨nd, rfl⟩⟩; refine ⟨_, rfl, ?_⟩))
        go_ret
        exact ⟨fi_, bel_⟩
      ·rw [if_neg c22] at H
       have c22b0 : (a0_0 == 3) = false := beq_eq_false_iff_ne.mpr c22
       have c22b1 : (a0_0 != 3) = true := bne_iff_ne.mpr c22
       obtain rfl := Option.some.inj H
       have hcz32_0 : wc.cell? ⟨gb414, 0, none⟩ = some (.int .i64 a0_0) := (blk_cell BK414.out 0).trans rfl
       have hcz32_1 : wc.cell? ⟨gb414, 1, none⟩ = some (.int .i64 a0_1) := (blk_cell BK414.out 1).trans rfl
       have hcz32_2 : wc.cell? ⟨gb414, 2, none⟩ = some (.int .i64 a0_2) := (blk_cell BK414.out 2).trans rfl
       have hcz32_3 : wc.cell? ⟨gb414, 3, none⟩ = some (.int .i64 a0_3) := (blk_cell BK414.out 3).trans rfl
       have hcz32_4 : wc.cell? ⟨gb414, 4, none⟩ = some (.string a0_4) := (blk_cell BK414.out 4).trans rfl
       have hfz32_0 := blk_frozen BK414.out 0
       have hfz32_1 := blk_frozen BK414.out 1
       have hfz32_2 := blk_frozen BK414.out 2
       have hfz32_3 := blk_frozen BK414.out 3
       have hfz32_4 := blk_frozen BK414.out 4
       go_wp2
       go_ret
       exact ⟨fi_, bel_⟩

def spec_EntryOk.f (k : Nat) (a0_0 : Int) (a0_1 : Int) (a0_2 : Int) (a0_3 : Int) (a0_4 : Int) (a0_5 : Int) (a0_6 : ByteArray) : Option (Bool) := (spec_l6In.f a0_0 1 3).bind fun t422 => (if t422 = true then ((spec_l6In.f a0_1 1 40).bind fun t423 => (if t423 = true then ((spec_OpOk.f k a0_2 a0_3 a0_4 a0_5 a0_6).bind fun t424 => (if t424 = true then (if a0_2 = 1 then (some ((wrap64 (Int.tdiv a0_3 10)) == a0_0)) else (some true)) else (some false))) else (some false))) else (some false))
theorem spec_EntryOk.mono : ∀ a0 a1 a2 a3 a4 a5 a6 k, LeO (spec_EntryOk.f k a0 a1 a2 a3 a4 a5 a6) (spec_EntryOk.f (k + 1) a0 a1 a2 a3 a4 a5 a6) := by
 intro a0 a1 a2 a3 a4 a5 a6 k
 unfold spec_EntryOk.f
 repeat' first
   | (with_reducible exact spec_OpOk.mono _ _ _ _ _ _)
   | (with_reducible exact LeO.refl _)
   | (with_reducible exact LeO.none _)
   | (with_reducible refine LeO.ite ?_ ?_)
   | (with_reducible refine LeO.bind ?_ (fun _ => ?_))
   | exact spec_OpOk.mono _ _ _ _ _ _
   | exact LeO.none _
   | refine LeO.ite ?_ ?_
   | refine LeO.bind ?_ (fun _ => ?_)
set_option maxHeartbeats 8000000 in
set_option maxRecDepth 100000 in
theorem spec_EntryOk.calls (k : Nat) (a0_0 : Int) (a0_1 : Int) (a0_2 : Int) (a0_3 : Int) (a0_4 : Int) (a0_5 : Int) (a0_6 : ByteArray) (r : Bool) (w : World) (h : spec_EntryOk.f k a0_0 a0_1 a0_2 a0_3 a0_4 a0_5 a0_6 = some r) :
  Calls Tryd.prog 30 #[.agg #[.int .i64 a0_0, .int .i64 a0_1, .int .i64 a0_2, .int .i64 a0_3, .int .i64 a0_4, .int .i64 a0_5, .string a0_6]] w fun e w' => e = .returned (.bool r) ∧ Below w.heap.size w w' := by
 have hu44 := Tryd.underlying44
 have hu42 := Tryd.underlying42
 have HB := Aside0.mk (Below.refl w.heap.size w)
 unfold spec_EntryOk.f at h
 have H := h
 clear h
 replace H := Option.bind_eq_some_iff.mp H
 obtain ⟨t422, A20, H⟩ := H
 try dsimp only at H
 have A2 := Aside0.mk A20
 clear A20
 by_cases c3 : t422 = true
 ·subst c3
  have H1 : ((spec_l6In.f a0_1 1 40).bind fun t423 => (if t423 = true then ((spec_OpOk.f k a0_2 a0_3 a0_4 a0_5 a0_6).bind fun t424 => (if t424 = true then (if a0_2 = 1 then (some ((wrap64 (Int.tdiv a0_3 10)) == a0_0)) else (some true)) else (some false))) else (some false))) = some r := by rw [if_pos rfl] at H; exact H
  clear H
  have H := H1
  clear H1
  replace H := Option.bind_eq_some_iff.mp H
  obtain ⟨t423, A40, H⟩ := H
  try dsimp only at H
  have A4 := Aside0.mk A40
  clear A40
  by_cases c5 : t423 = true
  ·subst c5
   have H1 : ((spec_OpOk.f k a0_2 a0_3 a0_4 a0_5 a0_6).bind fun t424 => (if t424 = true then (if a0_2 = 1 then (some ((wrap64 (Int.tdiv a0_3 10)) == a0_0)) else (some true)) else (some false))) = some r := by rw [if_pos rfl] at H; exact H
   clear H
   have H := H1
   clear H1
   replace H := Option.bind_eq_some_iff.mp H
   obtain ⟨t424, A60, H⟩ := H
   try dsimp only at H
   have A6 := Aside0.mk A60
   clear A60
   by_cases c7 : t424 = true
   ·subst c7
    have H1 : (if a0_2 = 1 then (some ((wrap64 (Int.tdiv a0_3 10)) == a0_0)) else (some true)) = some r := by rw [if_pos rfl] at H; exact H
    clear H
    have H := H1
    clear H1
    by_cases c8 : a0_2 = 1
    ·rw [if_pos c8] at H
     have c8b0 : (a0_2 == 1) = true := beq_iff_eq.mpr c8
     have c8b1 : (a0_2 != 1) = false := bne_eq_false_iff_eq.mpr c8
     clear c8
     obtain rfl := Option.some.inj H
     go_enter Tryd.func30, Tryd.ntmps30
     go_wp2_with (first | ((with_reducible refine gate_dst (N := 1) rfl ?_); refine bx_ 1 (#[.int .i64 a0_0, .int .i64 a0_1, .int .i64 a0_2, .int .i64 a0_3, .int .i64 a0_4, .int .i64 a0_5, .string a0_6]) 44 ?_; intro gb421 hg w9 hbox hb; have n0_ := Aside0.mk (below_step (bel_) hb); have n1_ := Aside0.mk (hbox); have n2_ := Aside0.mk ((by rw [hg]; exact (below_size (bel_)) : w.heap.size ≤ gb421)); have n3_ := Aside0.mk ((by rw [hg]; exact (below_size (bel_)) : w.heap.size ≤ gb421)); clear HB; have HB := n0_; have BK421 := n1_; have GW421 := n2_; have GE421 := n3_; clear n0_ n1_ n2_ n3_; clear hb hbox hg; have hcz10_0 := cz_ BK421.out 0 (.int .i64 a0_0); have hcz10_1 := cz_ BK421.out 1 (.int .i64 a0_1); have hcz10_2 := cz_ BK421.out 2 (.int .i64 a0_2); have hcz10_3 := cz_ BK421.out 3 (.int .i64 a0_3); have hcz10_4 := cz_ BK421.out 4 (.int .i64 a0_4); have hcz10_5 := cz_ BK421.out 5 (.int .i64 a0_5); have hcz10_6 := cz_ BK421.out 6 (.string a0_6); have hfz10_0 := blk_frozen BK421.out 0; have hfz10_1 := blk_frozen BK421.out 1; have hfz10_2 := blk_frozen BK421.out 2; have hfz10_3 := blk_frozen BK421.out 3; have hfz10_4 := blk_frozen BK421.out 4; have hfz10_5 := blk_frozen BK421.out 5; have hfz10_6 := blk_frozen BK421.out 6) | ((with_reducible refine gate_callee (f := 75) rfl ?_); refine gl_ 5 Tryd.func75 #[.int .i64 a0_0, .int .i64 1, .int .i64 3] ?_; (with_reducible refine (spec_l6In.calls a0_0 1 3 true _ A2.out).mono ?_); rintro e w' ⟨rfl, ⟨nd, rfl⟩⟩; refine ⟨_, rfl, ?_⟩) | (go_at_call 75; (with_reducible refine (spec_l6In.calls a0_1 1 40 true _ A4.out).mono ?_); rintro e w' ⟨rfl, ⟨nd, rfl⟩⟩) | (go_at_call 84; (with_reducible refine (spec_OpOk.calls k a0_2 a0_3 a0_4 a0_5 a0_6 true _ A6.out).mono ?_); rintro e w11 ⟨rfl, hb⟩; replace HB := Aside0.mk (below_step (bel_) hb); replace BK421 := Aside0.mk (bb_ BK421.out hb); (try clear hb); have hcz12_0 := cz_ BK421.out 0 (.int .i64 a0_0); have hcz12_1 := cz_ BK421.out 1 (.int .i64 a0_1); have hcz12_2 := cz_ BK421.out 2 (.int .i64 a0_2); have hcz12_3 := cz_ BK421.out 3 (.int .i64 a0_3); have hcz12_4 := cz_ BK421.out 4 (.int .i64 a0_4); have hcz12_5 := cz_ BK421.out 5 (.int .i64 a0_5); have hcz12_6 := cz_ BK421.out 6 (.string a0_6); have hfz12_0 := blk_frozen BK421.out 0; have hfz12_1 := blk_frozen BK421.out 1; have hfz12_2 := blk_frozen BK421.out 2; have hfz12_3 := blk_frozen BK421.out 3; have hfz12_4 := blk_frozen BK421.out 4; have hfz12_5 := blk_frozen BK421.out 5; have hfz12_6 := blk_frozen BK421.out 6))
     go_ret
     exact ⟨fi_, bel_⟩
    ·rw [if_neg c8] at H
     have c8b0 : (a0_2 == 1) = false := beq_eq_false_iff_ne.mpr c8
     have c8b1 : (a0_2 != 1) = true := bne_iff_ne.mpr c8
     obtain rfl := Option.some.inj H
     go_enter Tryd.func30, Tryd.ntmps30
     go_wp2_with (first | ((with_reducible refine gate_dst (N := 1) rfl ?_); refine bx_ 1 (#[.int .i64 a0_0, .int .i64 a0_1, .int .i64 a0_2, .int .i64 a0_3, .int .i64 a0_4, .int .i64 a0_5, .string a0_6]) 44 ?_; intro gb421 hg w13 hbox hb; have n0_ := Aside0.mk (below_step (bel_) hb); have n1_ := Aside0.mk (hbox); have n2_ := Aside0.mk ((by rw [hg]; exact (below_size (bel_)) : w.heap.size ≤ gb421)); have n3_ := Aside0.mk ((by rw [hg]; exact (below_size (bel_)) : w.heap.size ≤ gb421)); clear HB; have HB := n0_; have BK421 := n1_; have GW421 := n2_; have GE421 := n3_; clear n0_ n1_ n2_ n3_; clear hb hbox hg; have hcz14_0 := cz_ BK421.out 0 (.int .i64 a0_0); have hcz14_1 := cz_ BK421.out 1 (.int .i64 a0_1); have hcz14_2 := cz_ BK421.out 2 (.int .i64 a0_2); have hcz14_3 := cz_ BK421.out 3 (.int .i64 a0_3); have hcz14_4 := cz_ BK421.out 4 (.int .i64 a0_4); have hcz14_5 := cz_ BK421.out 5 (.int .i64 a0_5); have hcz14_6 := cz_ BK421.out 6 (.string a0_6); have hfz14_0 := blk_frozen BK421.out 0; have hfz14_1 := blk_frozen BK421.out 1; have hfz14_2 := blk_frozen BK421.out 2; have hfz14_3 := blk_frozen BK421.out 3; have hfz14_4 := blk_frozen BK421.out 4; have hfz14_5 := blk_frozen BK421.out 5; have hfz14_6 := blk_frozen BK421.out 6) | ((with_reducible refine gate_callee (f := 75) rfl ?_); refine gl_ 5 Tryd.func75 #[.int .i64 a0_0, .int .i64 1, .int .i64 3] ?_; (with_reducible refine (spec_l6In.calls a0_0 1 3 true _ A2.out).mono ?_); rintro e w' ⟨rfl, ⟨nd, rfl⟩⟩; refine ⟨_, rfl, ?_⟩) | (go_at_call 75; (with_reducible refine (spec_l6In.calls a0_1 1 40 true _ A4.out).mono ?_); rintro e w' ⟨rfl, ⟨nd, rfl⟩⟩) | (go_at_call 84; (with_reducible refine (spec_OpOk.calls k a0_2 a0_3 a0_4 a0_5 a0_6 true _ A6.out).mono ?_); rintro e w15 ⟨rfl, hb⟩; replace HB := Aside0.mk (below_step (bel_) hb); replace BK421 := Aside0.mk (bb_ BK421.out hb); (try clear hb); have hcz16_0 := cz_ BK421.out 0 (.int .i64 a0_0); have hcz16_1 := cz_ BK421.out 1 (.int .i64 a0_1); have hcz16_2 := cz_ BK421.out 2 (.int .i64 a0_2); have hcz16_3 := cz_ BK421.out 3 (.int .i64 a0_3); have hcz16_4 := cz_ BK421.out 4 (.int .i64 a0_4); have hcz16_5 := cz_ BK421.out 5 (.int .i64 a0_5); have hcz16_6 := cz_ BK421.out 6 (.string a0_6); have hfz16_0 := blk_frozen BK421.out 0; have hfz16_1 := blk_frozen BK421.out 1; have hfz16_2 := blk_frozen BK421.out 2; have hfz16_3 := blk_frozen BK421.out 3; have hfz16_4 := blk_frozen BK421.out 4; have hfz16_5 := blk_frozen BK421.out 5; have hfz16_6 := blk_frozen BK421.out 6))
     go_ret
     exact ⟨fi_, bel_⟩
   ·replace c7 := Bool.eq_false_iff.mpr c7
    subst c7
    have H1 : (some false) = some r := by rw [if_neg (show ¬ (false = true) by decide)] at H; exact H
    clear H
    have H := H1
    clear H1
    obtain rfl := Option.some.inj H
    go_enter Tryd.func30, Tryd.ntmps30
    go_wp2_with (first | ((with_reducible refine gate_dst (N := 1) rfl ?_); refine bx_ 1 (#[.int .i64 a0_0, .int .i64 a0_1, .int .i64 a0_2, .int .i64 a0_3, .int .i64 a0_4, .int .i64 a0_5, .string a0_6]) 44 ?_; intro gb421 hg w17 hbox hb; have n0_ := Aside0.mk (below_step (bel_) hb); have n1_ := Aside0.mk (hbox); have n2_ := Aside0.mk ((by rw [hg]; exact (below_size (bel_)) : w.heap.size ≤ gb421)); have n3_ := Aside0.mk ((by rw [hg]; exact (below_size (bel_)) : w.heap.size ≤ gb421)); clear HB; have HB := n0_; have BK421 := n1_; have GW421 := n2_; have GE421 := n3_; clear n0_ n1_ n2_ n3_; clear hb hbox hg; have hcz18_0 := cz_ BK421.out 0 (.int .i64 a0_0); have hcz18_1 := cz_ BK421.out 1 (.int .i64 a0_1); have hcz18_2 := cz_ BK421.out 2 (.int .i64 a0_2); have hcz18_3 := cz_ BK421.out 3 (.int .i64 a0_3); have hcz18_4 := cz_ BK421.out 4 (.int .i64 a0_4); have hcz18_5 := cz_ BK421.out 5 (.int .i64 a0_5); have hcz18_6 := cz_ BK421.out 6 (.string a0_6); have hfz18_0 := blk_frozen BK421.out 0; have hfz18_1 := blk_frozen BK421.out 1; have hfz18_2 := blk_frozen BK421.out 2; have hfz18_3 := blk_frozen BK421.out 3; have hfz18_4 := blk_frozen BK421.out 4; have hfz18_5 := blk_frozen BK421.out 5; have hfz18_6 := blk_frozen BK421.out 6) | ((with_reducible refine gate_callee (f := 75) rfl ?_); refine gl_ 5 Tryd.func75 #[.int .i64 a0_0, .int .i64 1, .int .i64 3] ?_; (with_reducible refine (spec_l6In.calls a0_0 1 3 true _ A2.out).mono ?_); rintro e w' ⟨rfl, ⟨nd, rfl⟩⟩; refine ⟨_, rfl, ?_⟩) | (go_at_call 75; (with_reducible refine (spec_l6In.calls a0_1 1 40 true _ A4.out).mono ?_); rintro e w' ⟨rfl, ⟨nd, rfl⟩⟩) | (go_at_call 84; (with_reducible refine (spec_OpOk.calls k a0_2 a0_3 a0_4 a0_5 a0_6 false _ A6.out).mono ?_); rintro e w19 ⟨rfl, hb⟩; replace HB := Aside0.mk (below_step (bel_) hb); replace BK421 := Aside0.mk (bb_ BK421.out hb); (try clear hb)))
    go_ret
    exact ⟨fi_, bel_⟩
  ·replace c5 := Bool.eq_false_iff.mpr c5
   subst c5
   have H1 : (some false) = some r := by rw [if_neg (show ¬ (false = true) by decide)] at H; exact H
   clear H
   have H := H1
   clear H1
   obtain rfl := Option.some.inj H
   go_enter Tryd.func30, Tryd.ntmps30
   go_wp2_with (first | ((with_reducible refine gate_dst (N := 1) rfl ?_); refine bx_ 1 (#[.int .i64 a0_0, .int .i64 a0_1, .int .i64 a0_2, .int .i64 a0_3, .int .i64 a0_4, .int .i64 a0_5, .string a0_6]) 44 ?_; intro gb421 hg w20 hbox hb; have n0_ := Aside0.mk (below_step (bel_) hb); have n1_ := Aside0.mk (hbox); have n2_ := Aside0.mk ((by rw [hg]; exact (below_size (bel_)) : w.heap.size ≤ gb421)); have n3_ := Aside0.mk ((by rw [hg]; exact (below_size (bel_)) : w.heap.size ≤ gb421)); clear HB; have HB := n0_; have BK421 := n1_; have GW421 := n2_; have GE421 := n3_; clear n0_ n1_ n2_ n3_; clear hb hbox hg; have hcz21_0 := cz_ BK421.out 0 (.int .i64 a0_0); have hcz21_1 := cz_ BK421.out 1 (.int .i64 a0_1); have hcz21_2 := cz_ BK421.out 2 (.int .i64 a0_2); have hcz21_3 := cz_ BK421.out 3 (.int .i64 a0_3); have hcz21_4 := cz_ BK421.out 4 (.int .i64 a0_4); have hcz21_5 := cz_ BK421.out 5 (.int .i64 a0_5); have hcz21_6 := cz_ BK421.out 6 (.string a0_6); have hfz21_0 := blk_frozen BK421.out 0; have hfz21_1 := blk_frozen BK421.out 1; have hfz21_2 := blk_frozen BK421.out 2; have hfz21_3 := blk_frozen BK421.out 3; have hfz21_4 := blk_frozen BK421.out 4; have hfz21_5 := blk_frozen BK421.out 5; have hfz21_6 := blk_frozen BK421.out 6) | ((with_reducible refine gate_callee (f := 75) rfl ?_); refine gl_ 5 Tryd.func75 #[.int .i64 a0_0, .int .i64 1, .int .i64 3] ?_; (with_reducible refine (spec_l6In.calls a0_0 1 3 true _ A2.out).mono ?_); rintro e w' ⟨rfl, ⟨nd, rfl⟩⟩; refine ⟨_, rfl, ?_⟩) | (go_at_call 75; (with_reducible refine (spec_l6In.calls a0_1 1 40 false _ A4.out).mono ?_); rintro e w' ⟨rfl, ⟨nd, rfl⟩⟩))
   go_ret
   exact ⟨fi_, bel_⟩
 ·replace c3 := Bool.eq_false_iff.mpr c3
  subst c3
  have H1 : (some false) = some r := by rw [if_neg (show ¬ (false = true) by decide)] at H; exact H
  clear H
  have H := H1
  clear H1
  obtain rfl := Option.some.inj H
  go_enter Tryd.func30, Tryd.ntmps30
  go_wp2_with (first | ((with_reducible refine gate_dst (N := 1) rfl ?_); refine bx_ 1 (#[.int .i64 a0_0, .int .i64 a0_1, .int .i64 a0_2, .int .i64 a0_3, .int .i64 a0_4, .int .i64 a0_5, .string a0_6]) 44 ?_; intro gb421 hg w22 hbox hb; have n0_ := Aside0.mk (below_step (bel_) hb); have n1_ := Aside0.mk (hbox); have n2_ := Aside0.mk ((by rw [hg]; exact (below_size (bel_)) : w.heap.size ≤ gb421)); have n3_ := Aside0.mk ((by rw [hg]; exact (below_size (bel_)) : w.heap.size ≤ gb421)); clear HB; have HB := n0_; have BK421 := n1_; have GW421 := n2_; have GE421 := n3_; clear n0_ n1_ n2_ n3_; clear hb hbox hg; have hcz23_0 := cz_ BK421.out 0 (.int .i64 a0_0); have hcz23_1 := cz_ BK421.out 1 (.int .i64 a0_1); have hcz23_2 := cz_ BK421.out 2 (.int .i64 a0_2); have hcz23_3 := cz_ BK421.out 3 (.int .i64 a0_3); have hcz23_4 := cz_ BK421.out 4 (.int .i64 a0_4); have hcz23_5 := cz_ BK421.out 5 (.int .i64 a0_5); have hcz23_6 := cz_ BK421.out 6 (.string a0_6); have hfz23_0 := blk_frozen BK421.out 0; have hfz23_1 := blk_frozen BK421.out 1; have hfz23_2 := blk_frozen BK421.out 2; have hfz23_3 := blk_frozen BK421.out 3; have hfz23_4 := blk_frozen BK421.out 4; have hfz23_5 := blk_frozen BK421.out 5; have hfz23_6 := blk_frozen BK421.out 6) | ((with_reducible refine gate_callee (f := 75) rfl ?_); refine gl_ 5 Tryd.func75 #[.int .i64 a0_0, .int .i64 1, .int .i64 3] ?_; (with_reducible refine (spec_l6In.calls a0_0 1 3 false _ A2.out).mono ?_); rintro e w' ⟨rfl, ⟨nd, rfl⟩⟩; refine ⟨_, rfl, ?_⟩))
  go_ret
  exact ⟨fi_, bel_⟩

theorem eqA69 (d : Nat) (w : World) (x0 y0 : Int) (x1 y1 : Int) (x2 y2 : ByteArray) :
  (Op.equalIn (d + 2) 69 (.agg #[.int .i64 x0, .int .i64 x1, .string x2]) (.agg #[.int .i64 y0, .int .i64 y1, .string y2])).run Tryd.prog w = .ok (x0 == y0 && (x1 == y1 && (x2.toList == y2.toList))) w := by
 refine eqA_of Tryd.underlying69 (by kernel_rfl) ?_
 refine eqf_cons (by rfl) (by go_simp; rfl) (by go_simp; rfl) (by go_simp) ?_
 refine eqf_cons (by rfl) (by go_simp; rfl) (by go_simp; rfl) (by go_simp) ?_
 exact eqf_last (by rfl) (by go_simp; rfl) (by go_simp; rfl) (by go_simp)
theorem eqA42 (d : Nat) (w : World) (x0 y0 : Int) (x1 y1 : Int) (x2 y2 : Int) (x3 y3 : Int) (x4 y4 : ByteArray) :
  (Op.equalIn (d + 2) 42 (.agg #[.int .i64 x0, .int .i64 x1, .int .i64 x2, .int .i64 x3, .string x4]) (.agg #[.int .i64 y0, .int .i64 y1, .int .i64 y2, .int .i64 y3, .string y4])).run Tryd.prog w = .ok (x0 == y0 && (x1 == y1 && (x2 == y2 && (x3 == y3 && (x4.toList == y4.toList))))) w := by
 refine eqA_of Tryd.underlying42 (by kernel_rfl) ?_
 refine eqf_cons (by rfl) (by go_simp; rfl) (by go_simp; rfl) (by go_simp) ?_
 refine eqf_cons (by rfl) (by go_simp; rfl) (by go_simp; rfl) (by go_simp) ?_
 refine eqf_cons (by rfl) (by go_simp; rfl) (by go_simp; rfl) (by go_simp) ?_
 refine eqf_cons (by rfl) (by go_simp; rfl) (by go_simp; rfl) (by go_simp) ?_
 exact eqf_last (by rfl) (by go_simp; rfl) (by go_simp; rfl) (by go_simp)
theorem eqA44 (d : Nat) (w : World) (x0 y0 : Int) (x1 y1 : Int) (x2 y2 : Int) (x3 y3 : Int) (x4 y4 : Int) (x5 y5 : Int) (x6 y6 : ByteArray) :
  (Op.equalIn (d + 3) 44 (.agg #[.int .i64 x0, .int .i64 x1, .int .i64 x2, .int .i64 x3, .int .i64 x4, .int .i64 x5, .string x6]) (.agg #[.int .i64 y0, .int .i64 y1, .int .i64 y2, .int .i64 y3, .int .i64 y4, .int .i64 y5, .string y6])).run Tryd.prog w = .ok (x0 == y0 && (x1 == y1 && ((x2 == y2 && (x3 == y3 && (x4 == y4 && (x5 == y5 && (x6.toList == y6.toList)))))))) w := by
 refine eqA_of Tryd.underlying44 (by kernel_rfl) ?_
 refine eqf_cons (by rfl) (by go_simp; rfl) (by go_simp; rfl) (by go_simp) ?_
 refine eqf_cons (by rfl) (by go_simp; rfl) (by go_simp; rfl) (by go_simp) ?_
 exact eqf_last (by rfl) (by go_simp) (by go_simp) (eqA42 (d + 0) w _ _ _ _ _ _ _ _ _ _)
attribute [local go_sem high] eqA44
def laws_szOp.f (a0_0 : Int) (a0_1 : Int) (a0_2 : Int) (a0_3 : Int) (a0_4 : ByteArray) (a1 : Int) : Option (Int) := if (wrap64 (a1 - (a0_4.size : Int))) < 0 then (some (-1)) else (some (wrap64 (a1 - (a0_4.size : Int))))
set_option maxHeartbeats 8000000 in
set_option maxRecDepth 100000 in
theorem laws_szOp.calls (a0_0 : Int) (a0_1 : Int) (a0_2 : Int) (a0_3 : Int) (a0_4 : ByteArray) (a1 : Int) (r : Int) (w : World) (h : laws_szOp.f a0_0 a0_1 a0_2 a0_3 a0_4 a1 = some r) :
  Calls Tryd.prog 66 #[.agg #[.int .i64 a0_0, .int .i64 a0_1, .int .i64 a0_2, .int .i64 a0_3, .string a0_4], .int .i64 a1] w fun e w' => e = .returned (.int .i64 r) ∧ Below w.heap.size w w' := by
 have hu34 := Tryd.underlying34
 have HB := Aside0.mk (Below.refl w.heap.size w)
 unfold laws_szOp.f at h
 have H := h
 clear h
 by_cases c3 : (wrap64 (a1 - (a0_4.size : Int))) < 0
 ·rw [if_pos c3] at H
  have c3b0 : decide ((wrap64 (a1 - (a0_4.size : Int))) < 0) = true := decide_eq_true c3
  clear c3
  obtain rfl := Option.some.inj H
  go_enter Tryd.func66, Tryd.ntmps66
  go_wp2_with (first | ((with_reducible refine gate_dst (N := 2) rfl ?_); refine bx_ 2 (#[.int .i64 a0_0, .int .i64 a0_1, .int .i64 a0_2, .int .i64 a0_3, .string a0_4]) 34 ?_; intro gb462 hg w4 hbox hb; have n0_ := Aside0.mk (below_step (bel_) hb); have n1_ := Aside0.mk (hbox); have n2_ := Aside0.mk ((by rw [hg]; exact (below_size (bel_)) : w.heap.size ≤ gb462)); have n3_ := Aside0.mk ((by rw [hg]; exact (below_size (bel_)) : w.heap.size ≤ gb462)); clear HB; have HB := n0_; have BK462 := n1_; have GW462 := n2_; have GE462 := n3_; clear n0_ n1_ n2_ n3_; clear hb hbox hg; have hcz5_0 := cz_ BK462.out 0 (.int .i64 a0_0); have hcz5_1 := cz_ BK462.out 1 (.int .i64 a0_1); have hcz5_2 := cz_ BK462.out 2 (.int .i64 a0_2); have hcz5_3 := cz_ BK462.out 3 (.int .i64 a0_3); have hcz5_4 := cz_ BK462.out 4 (.string a0_4); have hfz5_0 := blk_frozen BK462.out 0; have hfz5_1 := blk_frozen BK462.out 1; have hfz5_2 := blk_frozen BK462.out 2; have hfz5_3 := blk_frozen BK462.out 3; have hfz5_4 := blk_frozen BK462.out 4))
  go_ret
  exact ⟨fi_, bel_⟩
 ·rw [if_neg c3] at H
  have c3b0 : decide ((wrap64 (a1 - (a0_4.size : Int))) < 0) = false := decide_eq_false c3
  clear c3
  obtain rfl := Option.some.inj H
  go_enter Tryd.func66, Tryd.ntmps66
  go_wp2_with (first | ((with_reducible refine gate_dst (N := 2) rfl ?_); refine bx_ 2 (#[.int .i64 a0_0, .int .i64 a0_1, .int .i64 a0_2, .int .i64 a0_3, .string a0_4]) 34 ?_; intro gb462 hg w6 hbox hb; have n0_ := Aside0.mk (below_step (bel_) hb); have n1_ := Aside0.mk (hbox); have n2_ := Aside0.mk ((by rw [hg]; exact (below_size (bel_)) : w.heap.size ≤ gb462)); have n3_ := Aside0.mk ((by rw [hg]; exact (below_size (bel_)) : w.heap.size ≤ gb462)); clear HB; have HB := n0_; have BK462 := n1_; have GW462 := n2_; have GE462 := n3_; clear n0_ n1_ n2_ n3_; clear hb hbox hg; have hcz7_0 := cz_ BK462.out 0 (.int .i64 a0_0); have hcz7_1 := cz_ BK462.out 1 (.int .i64 a0_1); have hcz7_2 := cz_ BK462.out 2 (.int .i64 a0_2); have hcz7_3 := cz_ BK462.out 3 (.int .i64 a0_3); have hcz7_4 := cz_ BK462.out 4 (.string a0_4); have hfz7_0 := blk_frozen BK462.out 0; have hfz7_1 := blk_frozen BK462.out 1; have hfz7_2 := blk_frozen BK462.out 2; have hfz7_3 := blk_frozen BK462.out 3; have hfz7_4 := blk_frozen BK462.out 4))
  go_ret
  exact ⟨fi_, bel_⟩

def laws_szEntry.f (a0_0 : Int) (a0_1 : Int) (a0_2 : Int) (a0_3 : Int) (a0_4 : Int) (a0_5 : Int) (a0_6 : ByteArray) (a1 : Int) : Option (Int) := (laws_szOp.f a0_2 a0_3 a0_4 a0_5 a0_6 a1).bind fun t464 => (if t464 < 0 then (some (-1)) else (some t464))
set_option maxHeartbeats 8000000 in
set_option maxRecDepth 100000 in
theorem laws_szEntry.calls (a0_0 : Int) (a0_1 : Int) (a0_2 : Int) (a0_3 : Int) (a0_4 : Int) (a0_5 : Int) (a0_6 : ByteArray) (a1 : Int) (r : Int) (w : World) (h : laws_szEntry.f a0_0 a0_1 a0_2 a0_3 a0_4 a0_5 a0_6 a1 = some r) :
  Calls Tryd.prog 20 #[.agg #[.int .i64 a0_0, .int .i64 a0_1, .int .i64 a0_2, .int .i64 a0_3, .int .i64 a0_4, .int .i64 a0_5, .string a0_6], .int .i64 a1] w fun e w' => e = .returned (.int .i64 r) ∧ Below w.heap.size w w' := by
 have hu36 := Tryd.underlying36
 have hu34 := Tryd.underlying34
 have HB := Aside0.mk (Below.refl w.heap.size w)
 unfold laws_szEntry.f at h
 have H := h
 clear h
 replace H := Option.bind_eq_some_iff.mp H
 obtain ⟨t464, A30, H⟩ := H
 try dsimp only at H
 have A3 := Aside0.mk A30
 clear A30
 by_cases c4 : t464 < 0
 ·rw [if_pos c4] at H
  have c4b0 : decide (t464 < 0) = true := decide_eq_true c4
  clear c4
  obtain rfl := Option.some.inj H
  go_enter Tryd.func20, Tryd.ntmps20
  go_wp2_with (first | ((with_reducible refine gate_dst (N := 2) rfl ?_); refine bx_ 2 (#[.int .i64 a0_0, .int .i64 a0_1, .int .i64 a0_2, .int .i64 a0_3, .int .i64 a0_4, .int .i64 a0_5, .string a0_6]) 36 ?_; intro gb463 hg w5 hbox hb; have n0_ := Aside0.mk (below_step (bel_) hb); have n1_ := Aside0.mk (hbox); have n2_ := Aside0.mk ((by rw [hg]; exact (below_size (bel_)) : w.heap.size ≤ gb463)); have n3_ := Aside0.mk ((by rw [hg]; exact (below_size (bel_)) : w.heap.size ≤ gb463)); clear HB; have HB := n0_; have BK463 := n1_; have GW463 := n2_; have GE463 := n3_; clear n0_ n1_ n2_ n3_; clear hb hbox hg; have hcz6_0 := cz_ BK463.out 0 (.int .i64 a0_0); have hcz6_1 := cz_ BK463.out 1 (.int .i64 a0_1); have hcz6_2 := cz_ BK463.out 2 (.int .i64 a0_2); have hcz6_3 := cz_ BK463.out 3 (.int .i64 a0_3); have hcz6_4 := cz_ BK463.out 4 (.int .i64 a0_4); have hcz6_5 := cz_ BK463.out 5 (.int .i64 a0_5); have hcz6_6 := cz_ BK463.out 6 (.string a0_6); have hfz6_0 := blk_frozen BK463.out 0; have hfz6_1 := blk_frozen BK463.out 1; have hfz6_2 := blk_frozen BK463.out 2; have hfz6_3 := blk_frozen BK463.out 3; have hfz6_4 := blk_frozen BK463.out 4; have hfz6_5 := blk_frozen BK463.out 5; have hfz6_6 := blk_frozen BK463.out 6) | ((with_reducible refine gate_callee (f := 66) rfl ?_); refine gl_ 8 Tryd.func66 #[.agg #[.int .i64 a0_2, .int .i64 a0_3, .int .i64 a0_4, .int .i64 a0_5, .string a0_6], .int .i64 a1] ?_; (with_reducible refine (laws_szOp.calls a0_2 a0_3 a0_4 a0_5 a0_6 a1 t464 _ A3.out).mono ?_); rintro e w7 ⟨rfl, hb⟩; refine ⟨_, rfl, ?_⟩; replace HB := Aside0.mk (below_step (bel_) hb); replace BK463 := Aside0.mk (bb_ BK463.out hb); (try clear hb)))
  go_ret
  exact ⟨fi_, bel_⟩
 ·rw [if_neg c4] at H
  have c4b0 : decide (t464 < 0) = false := decide_eq_false c4
  clear c4
  obtain rfl := Option.some.inj H
  go_enter Tryd.func20, Tryd.ntmps20
  go_wp2_with (first | ((with_reducible refine gate_dst (N := 2) rfl ?_); refine bx_ 2 (#[.int .i64 a0_0, .int .i64 a0_1, .int .i64 a0_2, .int .i64 a0_3, .int .i64 a0_4, .int .i64 a0_5, .string a0_6]) 36 ?_; intro gb463 hg w8 hbox hb; have n0_ := Aside0.mk (below_step (bel_) hb); have n1_ := Aside0.mk (hbox); have n2_ := Aside0.mk ((by rw [hg]; exact (below_size (bel_)) : w.heap.size ≤ gb463)); have n3_ := Aside0.mk ((by rw [hg]; exact (below_size (bel_)) : w.heap.size ≤ gb463)); clear HB; have HB := n0_; have BK463 := n1_; have GW463 := n2_; have GE463 := n3_; clear n0_ n1_ n2_ n3_; clear hb hbox hg; have hcz9_0 := cz_ BK463.out 0 (.int .i64 a0_0); have hcz9_1 := cz_ BK463.out 1 (.int .i64 a0_1); have hcz9_2 := cz_ BK463.out 2 (.int .i64 a0_2); have hcz9_3 := cz_ BK463.out 3 (.int .i64 a0_3); have hcz9_4 := cz_ BK463.out 4 (.int .i64 a0_4); have hcz9_5 := cz_ BK463.out 5 (.int .i64 a0_5); have hcz9_6 := cz_ BK463.out 6 (.string a0_6); have hfz9_0 := blk_frozen BK463.out 0; have hfz9_1 := blk_frozen BK463.out 1; have hfz9_2 := blk_frozen BK463.out 2; have hfz9_3 := blk_frozen BK463.out 3; have hfz9_4 := blk_frozen BK463.out 4; have hfz9_5 := blk_frozen BK463.out 5; have hfz9_6 := blk_frozen BK463.out 6) | ((with_reducible refine gate_callee (f := 66) rfl ?_); refine gl_ 8 Tryd.func66 #[.agg #[.int .i64 a0_2, .int .i64 a0_3, .int .i64 a0_4, .int .i64 a0_5, .string a0_6], .int .i64 a1] ?_; (with_reducible refine (laws_szOp.calls a0_2 a0_3 a0_4 a0_5 a0_6 a1 t464 _ A3.out).mono ?_); rintro e w10 ⟨rfl, hb⟩; refine ⟨_, rfl, ?_⟩; replace HB := Aside0.mk (below_step (bel_) hb); replace BK463 := Aside0.mk (bb_ BK463.out hb); (try clear hb)))
  go_ret
  exact ⟨fi_, bel_⟩

def laws_szEntryS.l0 : Nat → List (S36) → Int → Int → Option (Int)
 | 0, _, _, _ => none
 | k + 1, x0, x1, x5 => if x5 < (x0.length : Int) then (if 0 ≤ x5 then ((laws_szEntry.f ((rd_T36 x0 x5).f0) ((rd_T36 x0 x5).f1) ((rd_T36 x0 x5).f2.f0) ((rd_T36 x0 x5).f2.f1) ((rd_T36 x0 x5).f2.f2) ((rd_T36 x0 x5).f2.f3) ((rd_T36 x0 x5).f2.f4) x1).bind fun t466 => (if t466 < 0 then (some (-1)) else (laws_szEntryS.l0 k x0 t466 (wrap64 (x5 + 1))))) else (none)) else (some x1)
def laws_szEntryS.f (k : Nat) (l0 : List (S36)) (a1 : Int) : Option (Int) := if (wrap64 (a1 - (l0.length : Int))) < 0 then (some (-1)) else (laws_szEntryS.l0 k l0 (wrap64 (a1 - (l0.length : Int))) 0)
theorem laws_szEntryS.mono_l : ∀ k, (∀ y0 y1 y2, LeO (laws_szEntryS.l0 k y0 y1 y2) (laws_szEntryS.l0 (k + 1) y0 y1 y2))
 | 0 => fun _ _ _ r h => by simp [laws_szEntryS.l0] at h
 | k + 1 => by
  have ih0 := laws_szEntryS.mono_l k
  ·intro y0 y1 y2
   unfold laws_szEntryS.l0
   repeat' first
   | (with_reducible exact ih0 _ _ _)
   | (with_reducible exact LeO.refl _)
   | (with_reducible exact LeO.none _)
   | (with_reducible refine LeO.ite ?_ ?_)
   | (with_reducible refine LeO.bind ?_ (fun _ => ?_))
   | exact ih0 _ _ _
   | exact LeO.none _
   | refine LeO.ite ?_ ?_
   | refine LeO.bind ?_ (fun _ => ?_)
theorem laws_szEntryS.mono : ∀ a0 a1 k, LeO (laws_szEntryS.f k a0 a1) (laws_szEntryS.f (k + 1) a0 a1) := by
 intro a0 a1 k
 have ih0 := laws_szEntryS.mono_l k
 unfold laws_szEntryS.f
 repeat' first
   | (with_reducible exact ih0 _ _ _)
   | (with_reducible exact LeO.refl _)
   | (with_reducible exact LeO.none _)
   | (with_reducible refine LeO.ite ?_ ?_)
   | (with_reducible refine LeO.bind ?_ (fun _ => ?_))
   | exact ih0 _ _ _
   | exact LeO.none _
   | refine LeO.ite ?_ ?_
   | refine LeO.bind ?_ (fun _ => ?_)
set_option maxHeartbeats 8000000 in
set_option maxRecDepth 100000 in
theorem laws_szEntryS.calls (k : Nat) (A0 : Option Addr) (c0 : Nat) (l0 : List (S36)) (a1 : Int) (r : Int) (w : World) (hr0 : Kd.C k36 w A0 l0.length l0) (hc0 : l0.length ≤ c0) (h : laws_szEntryS.f k l0 a1 = some r) :
  Calls Tryd.prog 49 #[.slice A0 l0.length c0, .int .i64 a1] w fun e w' => e = .returned (.int .i64 r) ∧ Below w.heap.size w w' := by
 have hu36 := Tryd.underlying36
 have HR0 := Aside0.mk hr0
 have HC0 := Aside0.mk hc0
 clear hr0 hc0
 have HB := Aside0.mk (Below.refl w.heap.size w)
 unfold laws_szEntryS.f at h
 have H := h
 clear h
 by_cases c3 : (wrap64 (a1 - (l0.length : Int))) < 0
 ·rw [if_pos c3] at H
  have c3b0 : decide ((wrap64 (a1 - (l0.length : Int))) < 0) = true := decide_eq_true c3
  clear c3
  obtain rfl := Option.some.inj H
  go_enter Tryd.func49, Tryd.ntmps49
  go_wp2
  go_ret
  exact ⟨fi_, bel_⟩
 ·rw [if_neg c3] at H
  have c3b0 : decide ((wrap64 (a1 - (l0.length : Int))) < 0) = false := decide_eq_false c3
  clear c3
  have H' := Aside0.mk H
  clear H
  go_enter Tryd.func49, Tryd.ntmps49
  go_wp2
  go_loopg [1, 5] k (fun kq v1 v5 w' => ∃ (x1_1 : Int) (x5_1 : Int), v1 = .int .i64 x1_1 ∧ v5 = .int .i64 x5_1 ∧ Aside0 (laws_szEntryS.l0 kq l0 x1_1 x5_1 = some r) ∧ Aside0 (kq ≤ k) ∧ Aside0 (Below w.heap.size w w'))
  case atStart => exact ⟨(wrap64 (a1 - (l0.length : Int))), (0), (si_), (si_), H', ⟨Nat.le_refl _⟩, ⟨bel_⟩⟩
  case round =>
   clear H'
   try clear p2
   try clear c3
   try clear c3b0
   obtain ⟨x1_1, x5_1, rfl, rfl, HA, HK1, HB⟩ := hrel
   cases gk with
   | zero => exact absurd HA.out (by simp [laws_szEntryS.l0])
   | succ k1 =>
    have H := HA.out
    clear HA
    simp only [laws_szEntryS.l0] at H
    by_cases c4 : x5_1 < (l0.length : Int)
    ·rw [if_pos c4] at H
     have c4b0 : decide (x5_1 < (l0.length : Int)) = true := decide_eq_true c4
     clear c4
     by_cases c5 : 0 ≤ x5_1
     ·rw [if_pos c5] at H
      have c5b0 : decide (0 ≤ x5_1) = true := decide_eq_true c5
      clear c5
      replace H := Option.bind_eq_some_iff.mp H
      obtain ⟨t466, A60, H⟩ := H
      try dsimp only at H
      have A6 := Aside0.mk A60
      clear A60
      by_cases c7 : t466 < 0
      ·rw [if_pos c7] at H
       have c7b0 : decide (t466 < 0) = true := decide_eq_true c7
       clear c7
       obtain rfl := Option.some.inj H
       have p465 : 0 ≤ (x5_1 : Int) := od_
       have q465 : x5_1 < (l0.length : Int) := od_
       obtain ⟨ad465, e465, hx465_0, hx465_1, hx465_2, hx465_3, hx465_4, hx465_5, hx465_6⟩ := at_T36 HR0.out x5_1 p465 q465
       cases e465
       replace hx465_0 := (cb_ HB.out hx465_0 :)
       replace hx465_1 := (cb_ HB.out hx465_1 :)
       replace hx465_2 := (cb_ HB.out hx465_2 :)
       replace hx465_3 := (cb_ HB.out hx465_3 :)
       replace hx465_4 := (cb_ HB.out hx465_4 :)
       replace hx465_5 := (cb_ HB.out hx465_5 :)
       replace hx465_6 := (cb_ HB.out hx465_6 :)
       replace p465 := eq_true p465
       replace q465 := eq_true q465
       go_wp2_with (first | ((with_reducible refine gate_callee (f := 20) rfl ?_); refine gl_ 23 Tryd.func20 #[.agg #[.int .i64 ((rd_T36 l0 x5_1).f0), .int .i64 ((rd_T36 l0 x5_1).f1), .int .i64 ((rd_T36 l0 x5_1).f2.f0), .int .i64 ((rd_T36 l0 x5_1).f2.f1), .int .i64 ((rd_T36 l0 x5_1).f2.f2), .int .i64 ((rd_T36 l0 x5_1).f2.f3), .string ((rd_T36 l0 x5_1).f2.f4)], .int .i64 x1_1] ?_; (with_reducible refine (laws_szEntry.calls ((rd_T36 l0 x5_1).f0) ((rd_T36 l0 x5_1).f1) ((rd_T36 l0 x5_1).f2.f0) ((rd_T36 l0 x5_1).f2.f1) ((rd_T36 l0 x5_1).f2.f2) ((rd_T36 l0 x5_1).f2.f3) ((rd_T36 l0 x5_1).f2.f4) x1_1 t466 _ A6.out).mono ?_); rintro e w8 ⟨rfl, hb⟩; refine ⟨_, rfl, ?_⟩; replace HB := Aside0.mk (below_step (bel_) hb); (try clear hb)))
       go_ret
       exact ⟨fi_, bel_⟩
      ·rw [if_neg c7] at H
       have c7b0 : decide (t466 < 0) = false := decide_eq_false c7
       clear c7
       have H' := Aside0.mk H
       clear H
       have p465 : 0 ≤ (x5_1 : Int) := od_
       have q465 : x5_1 < (l0.length : Int) := od_
       obtain ⟨ad465, e465, hx465_0, hx465_1, hx465_2, hx465_3, hx465_4, hx465_5, hx465_6⟩ := at_T36 HR0.out x5_1 p465 q465
       cases e465
       replace hx465_0 := (cb_ HB.out hx465_0 :)
       replace hx465_1 := (cb_ HB.out hx465_1 :)
       replace hx465_2 := (cb_ HB.out hx465_2 :)
       replace hx465_3 := (cb_ HB.out hx465_3 :)
       replace hx465_4 := (cb_ HB.out hx465_4 :)
       replace hx465_5 := (cb_ HB.out hx465_5 :)
       replace hx465_6 := (cb_ HB.out hx465_6 :)
       replace p465 := eq_true p465
       replace q465 := eq_true q465
       go_wp2_with (first | ((with_reducible refine gate_callee (f := 20) rfl ?_); refine gl_ 23 Tryd.func20 #[.agg #[.int .i64 ((rd_T36 l0 x5_1).f0), .int .i64 ((rd_T36 l0 x5_1).f1), .int .i64 ((rd_T36 l0 x5_1).f2.f0), .int .i64 ((rd_T36 l0 x5_1).f2.f1), .int .i64 ((rd_T36 l0 x5_1).f2.f2), .int .i64 ((rd_T36 l0 x5_1).f2.f3), .string ((rd_T36 l0 x5_1).f2.f4)], .int .i64 x1_1] ?_; (with_reducible refine (laws_szEntry.calls ((rd_T36 l0 x5_1).f0) ((rd_T36 l0 x5_1).f1) ((rd_T36 l0 x5_1).f2.f0) ((rd_T36 l0 x5_1).f2.f1) ((rd_T36 l0 x5_1).f2.f2) ((rd_T36 l0 x5_1).f2.f3) ((rd_T36 l0 x5_1).f2.f4) x1_1 t466 _ A6.out).mono ?_); rintro e w9 ⟨rfl, hb⟩; refine ⟨_, rfl, ?_⟩; replace HB := Aside0.mk (below_step (bel_) hb); (try clear hb)))
       go_roundg k1
       case measure => have := HK1.out; omega
       case rel => exact ⟨(t466), (wrap64 (x5_1 + 1)), (si_), (si_), H', ⟨by have := HK1.out; omega⟩, ⟨bel_⟩⟩
     ·rw [if_neg c5] at H
      exact absurd H (by simp)
    ·rw [if_neg c4] at H
     have c4b0 : decide (x5_1 < (l0.length : Int)) = false := decide_eq_false c4
     clear c4
     obtain rfl := Option.some.inj H
     go_wp2
     go_ret
     exact ⟨fi_, bel_⟩

attribute [local go_sem high] eqA69

def impl_RowOk.f (k : Nat) (a0_0 : Int) (a0_1 : Int) (a0_2 : ByteArray) : Option (Bool) := (impl_isRoot.f a0_0).bind fun t937 => (if t937 = true then (if a0_1 = 0 then (some (a0_2.toList == ([] : List UInt8))) else (some false)) else ((impl_isMade.f a0_0).bind fun t938 => (if t938 = true then (if a0_1 ≥ 1 then (if a0_1 ≤ 18 then ((impl_textOk.f k a0_2).bind fun t939 => (some t939)) else (some false)) else (some false)) else (some false))))
theorem impl_RowOk.mono : ∀ a0 a1 a2 k, LeO (impl_RowOk.f k a0 a1 a2) (impl_RowOk.f (k + 1) a0 a1 a2) := by
 intro a0 a1 a2 k
 unfold impl_RowOk.f
 repeat' first
   | (with_reducible exact impl_textOk.mono _ _)
   | (with_reducible exact LeO.refl _)
   | (with_reducible exact LeO.none _)
   | (with_reducible refine LeO.ite ?_ ?_)
   | (with_reducible refine LeO.bind ?_ (fun _ => ?_))
   | exact impl_textOk.mono _ _
   | exact LeO.none _
   | refine LeO.ite ?_ ?_
   | refine LeO.bind ?_ (fun _ => ?_)
set_option maxHeartbeats 8000000 in
set_option maxRecDepth 100000 in
theorem impl_RowOk.calls (k : Nat) (a0_0 : Int) (a0_1 : Int) (a0_2 : ByteArray) (r : Bool) (w : World) (h : impl_RowOk.f k a0_0 a0_1 a0_2 = some r) (hG : Glob w) :
  Calls Tryd.prog 97 #[.agg #[.int .i64 a0_0, .int .i64 a0_1, .string a0_2]] w fun e w' => e = .returned (.bool r) ∧ Below w.heap.size w w' := by
 have hu69 := Tryd.underlying69
 have HB := Aside0.mk (Below.refl w.heap.size w)
 have HG := Aside0.mk hG
 clear hG
 unfold impl_RowOk.f at h
 have H := h
 clear h
 replace H := Option.bind_eq_some_iff.mp H
 obtain ⟨t937, A20, H⟩ := H
 try dsimp only at H
 have A2 := Aside0.mk A20
 clear A20
 by_cases c3 : t937 = true
 ·subst c3
  have H1 : (if a0_1 = 0 then (some (a0_2.toList == ([] : List UInt8))) else (some false)) = some r := by rw [if_pos rfl] at H; exact H
  clear H
  have H := H1
  clear H1
  by_cases c4 : a0_1 = 0
  ·rw [if_pos c4] at H
   have c4b0 : (a0_1 == 0) = true := beq_iff_eq.mpr c4
   have c4b1 : (a0_1 != 0) = false := bne_eq_false_iff_eq.mpr c4
   clear c4
   obtain rfl := Option.some.inj H
   go_enter Tryd.func97, Tryd.ntmps97
   go_wp2_with (first | ((with_reducible refine gate_dst (N := 1) rfl ?_); refine bx_ 1 (#[.int .i64 a0_0, .int .i64 a0_1, .string a0_2]) 69 ?_; intro gb936 hg w5 hbox hb; have n0_ := Aside0.mk (below_step (bel_) hb); have n1_ := Aside0.mk (hbox); have n2_ := Aside0.mk ((by rw [hg]; exact (below_size (bel_)) : w.heap.size ≤ gb936)); have n3_ := Aside0.mk ((by rw [hg]; exact (below_size (bel_)) : w.heap.size ≤ gb936)); clear HB; have HB := n0_; have BK936 := n1_; have GW936 := n2_; have GE936 := n3_; clear n0_ n1_ n2_ n3_; clear hb hbox hg; have hcz6_0 := cz_ BK936.out 0 (.int .i64 a0_0); have hcz6_1 := cz_ BK936.out 1 (.int .i64 a0_1); have hcz6_2 := cz_ BK936.out 2 (.string a0_2); have hfz6_0 := blk_frozen BK936.out 0; have hfz6_1 := blk_frozen BK936.out 1; have hfz6_2 := blk_frozen BK936.out 2) | ((with_reducible refine gate_callee (f := 98) rfl ?_); refine gl_ 5 Tryd.func98 #[.int .i64 a0_0] ?_; (with_reducible refine (impl_isRoot.calls a0_0 true _ A2.out ?side1).mono ?_); (case side1 => exact Glob.below HG.out (bel_)); rintro e w' ⟨rfl, ⟨nd, rfl⟩⟩; refine ⟨_, rfl, ?_⟩))
   go_ret
   exact ⟨fi_, bel_⟩
  ·rw [if_neg c4] at H
   have c4b0 : (a0_1 == 0) = false := beq_eq_false_iff_ne.mpr c4
   have c4b1 : (a0_1 != 0) = true := bne_iff_ne.mpr c4
   obtain rfl := Option.some.inj H
   go_enter Tryd.func97, Tryd.ntmps97
   go_wp2_with (first | ((with_reducible refine gate_dst (N := 1) rfl ?_); refine bx_ 1 (#[.int .i64 a0_0, .int .i64 a0_1, .string a0_2]) 69 ?_; intro gb936 hg w7 hbox hb; have n0_ := Aside0.mk (below_step (bel_) hb); have n1_ := Aside0.mk (hbox); have n2_ := Aside0.mk ((by rw [hg]; exact (below_size (bel_)) : w.heap.size ≤ gb936)); have n3_ := Aside0.mk ((by rw [hg]; exact (below_size (bel_)) : w.heap.size ≤ gb936)); clear HB; have HB := n0_; have BK936 := n1_; have GW936 := n2_; have GE936 := n3_; clear n0_ n1_ n2_ n3_; clear hb hbox hg; have hcz8_0 := cz_ BK936.out 0 (.int .i64 a0_0); have hcz8_1 := cz_ BK936.out 1 (.int .i64 a0_1); have hcz8_2 := cz_ BK936.out 2 (.string a0_2); have hfz8_0 := blk_frozen BK936.out 0; have hfz8_1 := blk_frozen BK936.out 1; have hfz8_2 := blk_frozen BK936.out 2) | ((with_reducible refine gate_callee (f := 98) rfl ?_); refine gl_ 5 Tryd.func98 #[.int .i64 a0_0] ?_; (with_reducible refine (impl_isRoot.calls a0_0 true _ A2.out ?side1).mono ?_); (case side1 => exact Glob.below HG.out (bel_)); rintro e w' ⟨rfl, ⟨nd, rfl⟩⟩; refine ⟨_, rfl, ?_⟩))
   go_ret
   exact ⟨fi_, bel_⟩
 ·replace c3 := Bool.eq_false_iff.mpr c3
  subst c3
  have H1 : ((impl_isMade.f a0_0).bind fun t938 => (if t938 = true then (if a0_1 ≥ 1 then (if a0_1 ≤ 18 then ((impl_textOk.f k a0_2).bind fun t939 => (some t939)) else (some false)) else (some false)) else (some false))) = some r := by rw [if_neg (show ¬ (false = true) by decide)] at H; exact H
  clear H
  have H := H1
  clear H1
  replace H := Option.bind_eq_some_iff.mp H
  obtain ⟨t938, A90, H⟩ := H
  try dsimp only at H
  have A9 := Aside0.mk A90
  clear A90
  by_cases c10 : t938 = true
  ·subst c10
   have H1 : (if a0_1 ≥ 1 then (if a0_1 ≤ 18 then ((impl_textOk.f k a0_2).bind fun t939 => (some t939)) else (some false)) else (some false)) = some r := by rw [if_pos rfl] at H; exact H
   clear H
   have H := H1
   clear H1
   by_cases c11 : a0_1 ≥ 1
   ·rw [if_pos c11] at H
    have c11b0 : decide (1 ≤ a0_1) = true := decide_eq_true c11
    clear c11
    by_cases c12 : a0_1 ≤ 18
    ·rw [if_pos c12] at H
     have c12b0 : decide (a0_1 ≤ 18) = true := decide_eq_true c12
     clear c12
     replace H := Option.bind_eq_some_iff.mp H
     obtain ⟨t939, A130, H⟩ := H
     try dsimp only at H
     have A13 := Aside0.mk A130
     clear A130
     obtain rfl := Option.some.inj H
     go_enter Tryd.func97, Tryd.ntmps97
     go_wp2_with (first | ((with_reducible refine gate_dst (N := 1) rfl ?_); refine bx_ 1 (#[.int .i64 a0_0, .int .i64 a0_1, .string a0_2]) 69 ?_; intro gb936 hg w14 hbox hb; have n0_ := Aside0.mk (below_step (bel_) hb); have n1_ := Aside0.mk (hbox); have n2_ := Aside0.mk ((by rw [hg]; exact (below_size (bel_)) : w.heap.size ≤ gb936)); have n3_ := Aside0.mk ((by rw [hg]; exact (below_size (bel_)) : w.heap.size ≤ gb936)); clear HB; have HB := n0_; have BK936 := n1_; have GW936 := n2_; have GE936 := n3_; clear n0_ n1_ n2_ n3_; clear hb hbox hg; have hcz15_0 := cz_ BK936.out 0 (.int .i64 a0_0); have hcz15_1 := cz_ BK936.out 1 (.int .i64 a0_1); have hcz15_2 := cz_ BK936.out 2 (.string a0_2); have hfz15_0 := blk_frozen BK936.out 0; have hfz15_1 := blk_frozen BK936.out 1; have hfz15_2 := blk_frozen BK936.out 2) | ((with_reducible refine gate_callee (f := 98) rfl ?_); refine gl_ 5 Tryd.func98 #[.int .i64 a0_0] ?_; (with_reducible refine (impl_isRoot.calls a0_0 false _ A2.out ?side1).mono ?_); (case side1 => exact Glob.below HG.out (bel_)); rintro e w' ⟨rfl, ⟨nd, rfl⟩⟩; refine ⟨_, rfl, ?_⟩) | ((with_reducible refine gate_callee (f := 127) rfl ?_); refine gl_ 16 Tryd.func127 #[.int .i64 a0_0] ?_; (with_reducible refine (impl_isMade.calls a0_0 true _ A9.out ?side1).mono ?_); (case side1 => exact Glob.below HG.out (bel_)); rintro e w' ⟨rfl, ⟨nd, rfl⟩⟩; refine ⟨_, rfl, ?_⟩) | (go_at_call 129; (with_reducible refine (impl_textOk.calls k a0_2 t939 _ A13.out).mono ?_); rintro e w' ⟨rfl, ⟨nd, rfl⟩⟩))
     go_ret
     exact ⟨fi_, bel_⟩
    ·rw [if_neg c12] at H
     have c12b0 : decide (a0_1 ≤ 18) = false := decide_eq_false c12
     clear c12
     obtain rfl := Option.some.inj H
     go_enter Tryd.func97, Tryd.ntmps97
     go_wp2_with (first | ((with_reducible refine gate_dst (N := 1) rfl ?_); refine bx_ 1 (#[.int .i64 a0_0, .int .i64 a0_1, .string a0_2]) 69 ?_; intro gb936 hg w16 hbox hb; have n0_ := Aside0.mk (below_step (bel_) hb); have n1_ := Aside0.mk (hbox); have n2_ := Aside0.mk ((by rw [hg]; exact (below_size (bel_)) : w.heap.size ≤ gb936)); have n3_ := Aside0.mk ((by rw [hg]; exact (below_size (bel_)) : w.heap.size ≤ gb936)); clear HB; have HB := n0_; have BK936 := n1_; have GW936 := n2_; have GE936 := n3_; clear n0_ n1_ n2_ n3_; clear hb hbox hg; have hcz17_0 := cz_ BK936.out 0 (.int .i64 a0_0); have hcz17_1 := cz_ BK936.out 1 (.int .i64 a0_1); have hcz17_2 := cz_ BK936.out 2 (.string a0_2); have hfz17_0 := blk_frozen BK936.out 0; have hfz17_1 := blk_frozen BK936.out 1; have hfz17_2 := blk_frozen BK936.out 2) | ((with_reducible refine gate_callee (f := 98) rfl ?_); refine gl_ 5 Tryd.func98 #[.int .i64 a0_0] ?_; (with_reducible refine (impl_isRoot.calls a0_0 false _ A2.out ?side1).mono ?_); (case side1 => exact Glob.below HG.out (bel_)); rintro e w' ⟨rfl, ⟨nd, rfl⟩⟩; refine ⟨_, rfl, ?_⟩) | ((with_reducible refine gate_callee (f := 127) rfl ?_); refine gl_ 16 Tryd.func127 #[.int .i64 a0_0] ?_; (with_reducible refine (impl_isMade.calls a0_0 true _ A9.out ?side1).mono ?_); (case side1 => exact Glob.below HG.out (bel_)); rintro e w' ⟨rfl, ⟨nd, rfl⟩⟩; refine ⟨_, rfl, ?_⟩))
     go_ret
     exact ⟨fi_, bel_⟩
   ·rw [if_neg c11] at H
    have c11b0 : decide (1 ≤ a0_1) = false := decide_eq_false c11
    clear c11
    obtain rfl := Option.some.inj H
    go_enter Tryd.func97, Tryd.ntmps97
    go_wp2_with (first | ((with_reducible refine gate_dst (N := 1) rfl ?_); refine bx_ 1 (#[.int .i64 a0_0, .int .i64 a0_1, .string a0_2]) 69 ?_; intro gb936 hg w18 hbox hb; have n0_ := Aside0.mk (below_step (bel_) hb); have n1_ := Aside0.mk (hbox); have n2_ := Aside0.mk ((by rw [hg]; exact (below_size (bel_)) : w.heap.size ≤ gb936)); have n3_ := Aside0.mk ((by rw [hg]; exact (below_size (bel_)) : w.heap.size ≤ gb936)); clear HB; have HB := n0_; have BK936 := n1_; have GW936 := n2_; have GE936 := n3_; clear n0_ n1_ n2_ n3_; clear hb hbox hg; have hcz19_0 := cz_ BK936.out 0 (.int .i64 a0_0); have hcz19_1 := cz_ BK936.out 1 (.int .i64 a0_1); have hcz19_2 := cz_ BK936.out 2 (.string a0_2); have hfz19_0 := blk_frozen BK936.out 0; have hfz19_1 := blk_frozen BK936.out 1; have hfz19_2 := blk_frozen BK936.out 2) | ((with_reducible refine gate_callee (f := 98) rfl ?_); refine gl_ 5 Tryd.func98 #[.int .i64 a0_0] ?_; (with_reducible refine (impl_isRoot.calls a0_0 false _ A2.out ?side1).mono ?_); (case side1 => exact Glob.below HG.out (bel_)); rintro e w' ⟨rfl, ⟨nd, rfl⟩⟩; refine ⟨_, rfl, ?_⟩) | ((with_reducible refine gate_callee (f := 127) rfl ?_); refine gl_ 16 Tryd.func127 #[.int .i64 a0_0] ?_; (with_reducible refine (impl_isMade.calls a0_0 true _ A9.out ?side1).mono ?_); (case side1 => exact Glob.below HG.out (bel_)); rintro e w' ⟨rfl, ⟨nd, rfl⟩⟩; refine ⟨_, rfl, ?_⟩))
    go_ret
    exact ⟨fi_, bel_⟩
  ·replace c10 := Bool.eq_false_iff.mpr c10
   subst c10
   have H1 : (some false) = some r := by rw [if_neg (show ¬ (false = true) by decide)] at H; exact H
   clear H
   have H := H1
   clear H1
   obtain rfl := Option.some.inj H
   go_enter Tryd.func97, Tryd.ntmps97
   go_wp2_with (first | ((with_reducible refine gate_dst (N := 1) rfl ?_); refine bx_ 1 (#[.int .i64 a0_0, .int .i64 a0_1, .string a0_2]) 69 ?_; intro gb936 hg w20 hbox hb; have n0_ := Aside0.mk (below_step (bel_) hb); have n1_ := Aside0.mk (hbox); have n2_ := Aside0.mk ((by rw [hg]; exact (below_size (bel_)) : w.heap.size ≤ gb936)); have n3_ := Aside0.mk ((by rw [hg]; exact (below_size (bel_)) : w.heap.size ≤ gb936)); clear HB; have HB := n0_; have BK936 := n1_; have GW936 := n2_; have GE936 := n3_; clear n0_ n1_ n2_ n3_; clear hb hbox hg; have hcz21_0 := cz_ BK936.out 0 (.int .i64 a0_0); have hcz21_1 := cz_ BK936.out 1 (.int .i64 a0_1); have hcz21_2 := cz_ BK936.out 2 (.string a0_2); have hfz21_0 := blk_frozen BK936.out 0; have hfz21_1 := blk_frozen BK936.out 1; have hfz21_2 := blk_frozen BK936.out 2) | ((with_reducible refine gate_callee (f := 98) rfl ?_); refine gl_ 5 Tryd.func98 #[.int .i64 a0_0] ?_; (with_reducible refine (impl_isRoot.calls a0_0 false _ A2.out ?side1).mono ?_); (case side1 => exact Glob.below HG.out (bel_)); rintro e w' ⟨rfl, ⟨nd, rfl⟩⟩; refine ⟨_, rfl, ?_⟩) | ((with_reducible refine gate_callee (f := 127) rfl ?_); refine gl_ 16 Tryd.func127 #[.int .i64 a0_0] ?_; (with_reducible refine (impl_isMade.calls a0_0 false _ A9.out ?side1).mono ?_); (case side1 => exact Glob.below HG.out (bel_)); rintro e w' ⟨rfl, ⟨nd, rfl⟩⟩; refine ⟨_, rfl, ?_⟩))
   go_ret
   exact ⟨fi_, bel_⟩

def laws_szRow.f (a0_0 : Int) (a0_1 : Int) (a0_2 : ByteArray) (a1 : Int) : Option (Int) := if (wrap64 (a1 - (a0_2.size : Int))) < 0 then (some (-1)) else (some (wrap64 (a1 - (a0_2.size : Int))))
set_option maxHeartbeats 8000000 in
set_option maxRecDepth 100000 in
theorem laws_szRow.calls (a0_0 : Int) (a0_1 : Int) (a0_2 : ByteArray) (a1 : Int) (r : Int) (w : World) (h : laws_szRow.f a0_0 a0_1 a0_2 a1 = some r) :
  Calls Tryd.prog 139 #[.agg #[.int .i64 a0_0, .int .i64 a0_1, .string a0_2], .int .i64 a1] w fun e w' => e = .returned (.int .i64 r) ∧ Below w.heap.size w w' := by
 have hu183 := Tryd.underlying183
 have HB := Aside0.mk (Below.refl w.heap.size w)
 unfold laws_szRow.f at h
 have H := h
 clear h
 by_cases c3 : (wrap64 (a1 - (a0_2.size : Int))) < 0
 ·rw [if_pos c3] at H
  have c3b0 : decide ((wrap64 (a1 - (a0_2.size : Int))) < 0) = true := decide_eq_true c3
  clear c3
  obtain rfl := Option.some.inj H
  go_enter Tryd.func139, Tryd.ntmps139
  go_wp2_with (first | ((with_reducible refine gate_dst (N := 2) rfl ?_); refine bx_ 2 (#[.int .i64 a0_0, .int .i64 a0_1, .string a0_2]) 183 ?_; intro gb1181 hg w4 hbox hb; have n0_ := Aside0.mk (below_step (bel_) hb); have n1_ := Aside0.mk (hbox); have n2_ := Aside0.mk ((by rw [hg]; exact (below_size (bel_)) : w.heap.size ≤ gb1181)); have n3_ := Aside0.mk ((by rw [hg]; exact (below_size (bel_)) : w.heap.size ≤ gb1181)); clear HB; have HB := n0_; have BK1181 := n1_; have GW1181 := n2_; have GE1181 := n3_; clear n0_ n1_ n2_ n3_; clear hb hbox hg; have hcz5_0 := cz_ BK1181.out 0 (.int .i64 a0_0); have hcz5_1 := cz_ BK1181.out 1 (.int .i64 a0_1); have hcz5_2 := cz_ BK1181.out 2 (.string a0_2); have hfz5_0 := blk_frozen BK1181.out 0; have hfz5_1 := blk_frozen BK1181.out 1; have hfz5_2 := blk_frozen BK1181.out 2))
  go_ret
  exact ⟨fi_, bel_⟩
 ·rw [if_neg c3] at H
  have c3b0 : decide ((wrap64 (a1 - (a0_2.size : Int))) < 0) = false := decide_eq_false c3
  clear c3
  obtain rfl := Option.some.inj H
  go_enter Tryd.func139, Tryd.ntmps139
  go_wp2_with (first | ((with_reducible refine gate_dst (N := 2) rfl ?_); refine bx_ 2 (#[.int .i64 a0_0, .int .i64 a0_1, .string a0_2]) 183 ?_; intro gb1181 hg w6 hbox hb; have n0_ := Aside0.mk (below_step (bel_) hb); have n1_ := Aside0.mk (hbox); have n2_ := Aside0.mk ((by rw [hg]; exact (below_size (bel_)) : w.heap.size ≤ gb1181)); have n3_ := Aside0.mk ((by rw [hg]; exact (below_size (bel_)) : w.heap.size ≤ gb1181)); clear HB; have HB := n0_; have BK1181 := n1_; have GW1181 := n2_; have GE1181 := n3_; clear n0_ n1_ n2_ n3_; clear hb hbox hg; have hcz7_0 := cz_ BK1181.out 0 (.int .i64 a0_0); have hcz7_1 := cz_ BK1181.out 1 (.int .i64 a0_1); have hcz7_2 := cz_ BK1181.out 2 (.string a0_2); have hfz7_0 := blk_frozen BK1181.out 0; have hfz7_1 := blk_frozen BK1181.out 1; have hfz7_2 := blk_frozen BK1181.out 2))
  go_ret
  exact ⟨fi_, bel_⟩

def laws_szRowS.l0 : Nat → List (S183) → Int → Int → Option (Int)
 | 0, _, _, _ => none
 | k + 1, x0, x1, x5 => if x5 < (x0.length : Int) then (if 0 ≤ x5 then ((laws_szRow.f ((rd_T183 x0 x5).f0) ((rd_T183 x0 x5).f1) ((rd_T183 x0 x5).f2) x1).bind fun t1183 => (if t1183 < 0 then (some (-1)) else (laws_szRowS.l0 k x0 t1183 (wrap64 (x5 + 1))))) else (none)) else (some x1)
def laws_szRowS.f (k : Nat) (l0 : List (S183)) (a1 : Int) : Option (Int) := if (wrap64 (a1 - (l0.length : Int))) < 0 then (some (-1)) else (laws_szRowS.l0 k l0 (wrap64 (a1 - (l0.length : Int))) 0)
theorem laws_szRowS.mono_l : ∀ k, (∀ y0 y1 y2, LeO (laws_szRowS.l0 k y0 y1 y2) (laws_szRowS.l0 (k + 1) y0 y1 y2))
 | 0 => fun _ _ _ r h => by simp [laws_szRowS.l0] at h
 | k + 1 => by
  have ih0 := laws_szRowS.mono_l k
  ·intro y0 y1 y2
   unfold laws_szRowS.l0
   repeat' first
   | (with_reducible exact ih0 _ _ _)
   | (with_reducible exact LeO.refl _)
   | (with_reducible exact LeO.none _)
   | (with_reducible refine LeO.ite ?_ ?_)
   | (with_reducible refine LeO.bind ?_ (fun _ => ?_))
   | exact ih0 _ _ _
   | exact LeO.none _
   | refine LeO.ite ?_ ?_
   | refine LeO.bind ?_ (fun _ => ?_)
theorem laws_szRowS.mono : ∀ a0 a1 k, LeO (laws_szRowS.f k a0 a1) (laws_szRowS.f (k + 1) a0 a1) := by
 intro a0 a1 k
 have ih0 := laws_szRowS.mono_l k
 unfold laws_szRowS.f
 repeat' first
   | (with_reducible exact ih0 _ _ _)
   | (with_reducible exact LeO.refl _)
   | (with_reducible exact LeO.none _)
   | (with_reducible refine LeO.ite ?_ ?_)
   | (with_reducible refine LeO.bind ?_ (fun _ => ?_))
   | exact ih0 _ _ _
   | exact LeO.none _
   | refine LeO.ite ?_ ?_
   | refine LeO.bind ?_ (fun _ => ?_)
set_option maxHeartbeats 8000000 in
set_option maxRecDepth 100000 in
theorem laws_szRowS.calls (k : Nat) (A0 : Option Addr) (c0 : Nat) (l0 : List (S183)) (a1 : Int) (r : Int) (w : World) (hr0 : Kd.C k183 w A0 l0.length l0) (hc0 : l0.length ≤ c0) (h : laws_szRowS.f k l0 a1 = some r) :
  Calls Tryd.prog 109 #[.slice A0 l0.length c0, .int .i64 a1] w fun e w' => e = .returned (.int .i64 r) ∧ Below w.heap.size w w' := by
 have hu183 := Tryd.underlying183
 have HR0 := Aside0.mk hr0
 have HC0 := Aside0.mk hc0
 clear hr0 hc0
 have HB := Aside0.mk (Below.refl w.heap.size w)
 unfold laws_szRowS.f at h
 have H := h
 clear h
 by_cases c3 : (wrap64 (a1 - (l0.length : Int))) < 0
 ·rw [if_pos c3] at H
  have c3b0 : decide ((wrap64 (a1 - (l0.length : Int))) < 0) = true := decide_eq_true c3
  clear c3
  obtain rfl := Option.some.inj H
  go_enter Tryd.func109, Tryd.ntmps109
  go_wp2
  go_ret
  exact ⟨fi_, bel_⟩
 ·rw [if_neg c3] at H
  have c3b0 : decide ((wrap64 (a1 - (l0.length : Int))) < 0) = false := decide_eq_false c3
  clear c3
  have H' := Aside0.mk H
  clear H
  go_enter Tryd.func109, Tryd.ntmps109
  go_wp2
  go_loopg [1, 5] k (fun kq v1 v5 w' => ∃ (x1_1 : Int) (x5_1 : Int), v1 = .int .i64 x1_1 ∧ v5 = .int .i64 x5_1 ∧ Aside0 (laws_szRowS.l0 kq l0 x1_1 x5_1 = some r) ∧ Aside0 (kq ≤ k) ∧ Aside0 (Below w.heap.size w w'))
  case atStart => exact ⟨(wrap64 (a1 - (l0.length : Int))), (0), (si_), (si_), H', ⟨Nat.le_refl _⟩, ⟨bel_⟩⟩
  case round =>
   clear H'
   try clear c1
   try clear p2
   try clear c3
   try clear c3b0
   obtain ⟨x1_1, x5_1, rfl, rfl, HA, HK1, HB⟩ := hrel
   cases gk with
   | zero => exact absurd HA.out (by simp [laws_szRowS.l0])
   | succ k1 =>
    have H := HA.out
    clear HA
    simp only [laws_szRowS.l0] at H
    by_cases c4 : x5_1 < (l0.length : Int)
    ·rw [if_pos c4] at H
     have c4b0 : decide (x5_1 < (l0.length : Int)) = true := decide_eq_true c4
     clear c4
     by_cases c5 : 0 ≤ x5_1
     ·rw [if_pos c5] at H
      have c5b0 : decide (0 ≤ x5_1) = true := decide_eq_true c5
      clear c5
      replace H := Option.bind_eq_some_iff.mp H
      obtain ⟨t1183, A60, H⟩ := H
      try dsimp only at H
      have A6 := Aside0.mk A60
      clear A60
      by_cases c7 : t1183 < 0
      ·rw [if_pos c7] at H
       have c7b0 : decide (t1183 < 0) = true := decide_eq_true c7
       clear c7
       obtain rfl := Option.some.inj H
       have p1182 : 0 ≤ (x5_1 : Int) := od_
       have q1182 : x5_1 < (l0.length : Int) := od_
       obtain ⟨ad1182, e1182, hx1182_0, hx1182_1, hx1182_2⟩ := at_T183 HR0.out x5_1 p1182 q1182
       cases e1182
       replace hx1182_0 := (cb_ HB.out hx1182_0 :)
       replace hx1182_1 := (cb_ HB.out hx1182_1 :)
       replace hx1182_2 := (cb_ HB.out hx1182_2 :)
       replace p1182 := eq_true p1182
       replace q1182 := eq_true q1182
       go_wp2_with (first | ((with_reducible refine gate_callee (f := 139) rfl ?_); refine gl_ 23 Tryd.func139 #[.agg #[.int .i64 ((rd_T183 l0 x5_1).f0), .int .i64 ((rd_T183 l0 x5_1).f1), .string ((rd_T183 l0 x5_1).f2)], .int .i64 x1_1] ?_; (with_reducible refine (laws_szRow.calls ((rd_T183 l0 x5_1).f0) ((rd_T183 l0 x5_1).f1) ((rd_T183 l0 x5_1).f2) x1_1 t1183 _ A6.out).mono ?_); rintro e w8 ⟨rfl, hb⟩; refine ⟨_, rfl, ?_⟩; replace HB := Aside0.mk (below_step (bel_) hb); (try clear hb)))
       go_ret
       exact ⟨fi_, bel_⟩
      ·rw [if_neg c7] at H
       have c7b0 : decide (t1183 < 0) = false := decide_eq_false c7
       clear c7
       have H' := Aside0.mk H
       clear H
       have p1182 : 0 ≤ (x5_1 : Int) := od_
       have q1182 : x5_1 < (l0.length : Int) := od_
       obtain ⟨ad1182, e1182, hx1182_0, hx1182_1, hx1182_2⟩ := at_T183 HR0.out x5_1 p1182 q1182
       cases e1182
       replace hx1182_0 := (cb_ HB.out hx1182_0 :)
       replace hx1182_1 := (cb_ HB.out hx1182_1 :)
       replace hx1182_2 := (cb_ HB.out hx1182_2 :)
       replace p1182 := eq_true p1182
       replace q1182 := eq_true q1182
       go_wp2_with (first | ((with_reducible refine gate_callee (f := 139) rfl ?_); refine gl_ 23 Tryd.func139 #[.agg #[.int .i64 ((rd_T183 l0 x5_1).f0), .int .i64 ((rd_T183 l0 x5_1).f1), .string ((rd_T183 l0 x5_1).f2)], .int .i64 x1_1] ?_; (with_reducible refine (laws_szRow.calls ((rd_T183 l0 x5_1).f0) ((rd_T183 l0 x5_1).f1) ((rd_T183 l0 x5_1).f2) x1_1 t1183 _ A6.out).mono ?_); rintro e w9 ⟨rfl, hb⟩; refine ⟨_, rfl, ?_⟩; replace HB := Aside0.mk (below_step (bel_) hb); (try clear hb)))
       go_roundg k1
       case measure => have := HK1.out; omega
       case rel => exact ⟨(t1183), (wrap64 (x5_1 + 1)), (si_), (si_), H', ⟨by have := HK1.out; omega⟩, ⟨bel_⟩⟩
     ·rw [if_neg c5] at H
      exact absurd H (by simp)
    ·rw [if_neg c4] at H
     have c4b0 : decide (x5_1 < (l0.length : Int)) = false := decide_eq_false c4
     clear c4
     obtain rfl := Option.some.inj H
     go_wp2
     go_ret
     exact ⟨fi_, bel_⟩

def laws_szClient.f (k : Nat) (a0_0 : Int) (a0_1 : Int) (l0_2 : List (S183)) (l0_3 : List (S36)) (a0_4 : Int) (a0_5 : Int) (a1 : Int) : Option (Int) := (laws_szRowS.f k l0_2 a1).bind fun t1185 => (if t1185 < 0 then (some (-1)) else ((laws_szEntryS.f k l0_3 t1185).bind fun t1186 => (if t1186 < 0 then (some (-1)) else (some t1186))))
theorem laws_szClient.mono : ∀ a0 a1 a2 a3 a4 a5 a6 k, LeO (laws_szClient.f k a0 a1 a2 a3 a4 a5 a6) (laws_szClient.f (k + 1) a0 a1 a2 a3 a4 a5 a6) := by
 intro a0 a1 a2 a3 a4 a5 a6 k
 unfold laws_szClient.f
 repeat' first
   | (with_reducible exact laws_szEntryS.mono _ _ _)
   | (with_reducible exact laws_szRowS.mono _ _ _)
   | (with_reducible exact LeO.refl _)
   | (with_reducible exact LeO.none _)
   | (with_reducible refine LeO.ite ?_ ?_)
   | (with_reducible refine LeO.bind ?_ (fun _ => ?_))
   | exact laws_szEntryS.mono _ _ _
   | exact laws_szRowS.mono _ _ _
   | exact LeO.none _
   | refine LeO.ite ?_ ?_
   | refine LeO.bind ?_ (fun _ => ?_)
set_option maxHeartbeats 8000000 in
set_option maxRecDepth 100000 in
theorem laws_szClient.calls (k : Nat) (a0_0 : Int) (a0_1 : Int) (A0_2 : Option Addr) (c0_2 : Nat) (l0_2 : List (S183)) (A0_3 : Option Addr) (c0_3 : Nat) (l0_3 : List (S36)) (a0_4 : Int) (a0_5 : Int) (a1 : Int) (r : Int) (w : World) (hr0_2 : Kd.C k183 w A0_2 l0_2.length l0_2) (hc0_2 : l0_2.length ≤ c0_2) (hr0_3 : Kd.C k36 w A0_3 l0_3.length l0_3) (hc0_3 : l0_3.length ≤ c0_3) (h : laws_szClient.f k a0_0 a0_1 l0_2 l0_3 a0_4 a0_5 a1 = some r) :
  Calls Tryd.prog 62 #[.agg #[.int .i64 a0_0, .int .i64 a0_1, .slice A0_2 l0_2.length c0_2, .slice A0_3 l0_3.length c0_3, .int .i64 a0_4, .int .i64 a0_5], .int .i64 a1] w fun e w' => e = .returned (.int .i64 r) ∧ Below w.heap.size w w' := by
 have hu85 := Tryd.underlying85
 have HR0_2 := Aside0.mk hr0_2
 have HC0_2 := Aside0.mk hc0_2
 clear hr0_2 hc0_2
 have HR0_3 := Aside0.mk hr0_3
 have HC0_3 := Aside0.mk hc0_3
 clear hr0_3 hc0_3
 have HB := Aside0.mk (Below.refl w.heap.size w)
 unfold laws_szClient.f at h
 have H := h
 clear h
 replace H := Option.bind_eq_some_iff.mp H
 obtain ⟨t1185, A30, H⟩ := H
 try dsimp only at H
 have A3 := Aside0.mk A30
 clear A30
 by_cases c4 : t1185 < 0
 ·rw [if_pos c4] at H
  have c4b0 : decide (t1185 < 0) = true := decide_eq_true c4
  clear c4
  obtain rfl := Option.some.inj H
  go_enter Tryd.func62, Tryd.ntmps62
  go_wp2_with (first | ((with_reducible refine gate_dst (N := 2) rfl ?_); refine bx_ 2 (#[.int .i64 a0_0, .int .i64 a0_1, .slice A0_2 l0_2.length c0_2, .slice A0_3 l0_3.length c0_3, .int .i64 a0_4, .int .i64 a0_5]) 85 ?_; intro gb1184 hg w5 hbox hb; have n0_ := Aside0.mk (below_step (bel_) hb); have n1_ := Aside0.mk (hbox); have n2_ := Aside0.mk ((by rw [hg]; exact (below_size (bel_)) : w.heap.size ≤ gb1184)); have n3_ := Aside0.mk ((by rw [hg]; exact (below_size (bel_)) : w.heap.size ≤ gb1184)); clear HB; have HB := n0_; have BK1184 := n1_; have GW1184 := n2_; have GE1184 := n3_; clear n0_ n1_ n2_ n3_; clear hb hbox hg; have hcz6_0 := cz_ BK1184.out 0 (.int .i64 a0_0); have hcz6_1 := cz_ BK1184.out 1 (.int .i64 a0_1); have hcz6_2 := cz_ BK1184.out 2 (.slice A0_2 l0_2.length c0_2); have hcz6_3 := cz_ BK1184.out 3 (.slice A0_3 l0_3.length c0_3); have hcz6_4 := cz_ BK1184.out 4 (.int .i64 a0_4); have hcz6_5 := cz_ BK1184.out 5 (.int .i64 a0_5); have hfz6_0 := blk_frozen BK1184.out 0; have hfz6_1 := blk_frozen BK1184.out 1; have hfz6_2 := blk_frozen BK1184.out 2; have hfz6_3 := blk_frozen BK1184.out 3; have hfz6_4 := blk_frozen BK1184.out 4; have hfz6_5 := blk_frozen BK1184.out 5) | ((with_reducible refine gate_callee (f := 109) rfl ?_); refine gl_ 8 Tryd.func109 #[.slice A0_2 l0_2.length c0_2, .int .i64 a1] ?_; (with_reducible refine (laws_szRowS.calls k _ _ l0_2 a1 t1185 _ ?side1 ?side2 A3.out).mono ?_); (case side1 => exact cp_ HR0_2.out); (case side2 => exact HC0_2.out); rintro e w7 ⟨rfl, hb⟩; refine ⟨_, rfl, ?_⟩; replace HB := Aside0.mk (below_step (bel_) hb); replace BK1184 := Aside0.mk (bb_ BK1184.out hb); (try clear hb)))
  go_ret
  exact ⟨fi_, bel_⟩
 ·rw [if_neg c4] at H
  have c4b0 : decide (t1185 < 0) = false := decide_eq_false c4
  clear c4
  replace H := Option.bind_eq_some_iff.mp H
  obtain ⟨t1186, A80, H⟩ := H
  try dsimp only at H
  have A8 := Aside0.mk A80
  clear A80
  by_cases c9 : t1186 < 0
  ·rw [if_pos c9] at H
   have c9b0 : decide (t1186 < 0) = true := decide_eq_true c9
   clear c9
   obtain rfl := Option.some.inj H
   go_enter Tryd.func62, Tryd.ntmps62
   go_wp2_with (first | ((with_reducible refine gate_dst (N := 2) rfl ?_); refine bx_ 2 (#[.int .i64 a0_0, .int .i64 a0_1, .slice A0_2 l0_2.length c0_2, .slice A0_3 l0_3.length c0_3, .int .i64 a0_4, .int .i64 a0_5]) 85 ?_; intro gb1184 hg w10 hbox hb; have n0_ := Aside0.mk (below_step (bel_) hb); have n1_ := Aside0.mk (hbox); have n2_ := Aside0.mk ((by rw [hg]; exact (below_size (bel_)) : w.heap.size ≤ gb1184)); have n3_ := Aside0.mk ((by rw [hg]; exact (below_size (bel_)) : w.heap.size ≤ gb1184)); clear HB; have HB := n0_; have BK1184 := n1_; have GW1184 := n2_; have GE1184 := n3_; clear n0_ n1_ n2_ n3_; clear hb hbox hg; have hcz11_0 := cz_ BK1184.out 0 (.int .i64 a0_0); have hcz11_1 := cz_ BK1184.out 1 (.int .i64 a0_1); have hcz11_2 := cz_ BK1184.out 2 (.slice A0_2 l0_2.length c0_2); have hcz11_3 := cz_ BK1184.out 3 (.slice A0_3 l0_3.length c0_3); have hcz11_4 := cz_ BK1184.out 4 (.int .i64 a0_4); have hcz11_5 := cz_ BK1184.out 5 (.int .i64 a0_5); have hfz11_0 := blk_frozen BK1184.out 0; have hfz11_1 := blk_frozen BK1184.out 1; have hfz11_2 := blk_frozen BK1184.out 2; have hfz11_3 := blk_frozen BK1184.out 3; have hfz11_4 := blk_frozen BK1184.out 4; have hfz11_5 := blk_frozen BK1184.out 5) | ((with_reducible refine gate_callee (f := 109) rfl ?_); refine gl_ 8 Tryd.func109 #[.slice A0_2 l0_2.length c0_2, .int .i64 a1] ?_; (with_reducible refine (laws_szRowS.calls k _ _ l0_2 a1 t1185 _ ?side1 ?side2 A3.out).mono ?_); (case side1 => exact cp_ HR0_2.out); (case side2 => exact HC0_2.out); rintro e w12 ⟨rfl, hb⟩; refine ⟨_, rfl, ?_⟩; replace HB := Aside0.mk (below_step (bel_) hb); replace BK1184 := Aside0.mk (bb_ BK1184.out hb); (try clear hb); have hcz13_0 := cz_ BK1184.out 0 (.int .i64 a0_0); have hcz13_1 := cz_ BK1184.out 1 (.int .i64 a0_1); have hcz13_2 := cz_ BK1184.out 2 (.slice A0_2 l0_2.length c0_2); have hcz13_3 := cz_ BK1184.out 3 (.slice A0_3 l0_3.length c0_3); have hcz13_4 := cz_ BK1184.out 4 (.int .i64 a0_4); have hcz13_5 := cz_ BK1184.out 5 (.int .i64 a0_5); have hfz13_0 := blk_frozen BK1184.out 0; have hfz13_1 := blk_frozen BK1184.out 1; have hfz13_2 := blk_frozen BK1184.out 2; have hfz13_3 := blk_frozen BK1184.out 3; have hfz13_4 := blk_frozen BK1184.out 4; have hfz13_5 := blk_frozen BK1184.out 5) | ((with_reducible refine gate_callee (f := 49) rfl ?_); refine gl_ 14 Tryd.func49 #[.slice A0_3 l0_3.length c0_3, .int .i64 t1185] ?_; (with_reducible refine (laws_szEntryS.calls k _ _ l0_3 t1185 t1186 _ ?side1 ?side2 A8.out).mono ?_); (case side1 => exact cp_ HR0_3.out); (case side2 => exact HC0_3.out); rintro e w14 ⟨rfl, hb⟩; refine ⟨_, rfl, ?_⟩; replace HB := Aside0.mk (below_step (bel_) hb); replace BK1184 := Aside0.mk (bb_ BK1184.out hb); (try clear hb)))
   go_ret
   exact ⟨fi_, bel_⟩
  ·rw [if_neg c9] at H
   have c9b0 : decide (t1186 < 0) = false := decide_eq_false c9
   clear c9
   obtain rfl := Option.some.inj H
   go_enter Tryd.func62, Tryd.ntmps62
   go_wp2_with (first | ((with_reducible refine gate_dst (N := 2) rfl ?_); refine bx_ 2 (#[.int .i64 a0_0, .int .i64 a0_1, .slice A0_2 l0_2.length c0_2, .slice A0_3 l0_3.length c0_3, .int .i64 a0_4, .int .i64 a0_5]) 85 ?_; intro gb1184 hg w15 hbox hb; have n0_ := Aside0.mk (below_step (bel_) hb); have n1_ := Aside0.mk (hbox); have n2_ := Aside0.mk ((by rw [hg]; exact (below_size (bel_)) : w.heap.size ≤ gb1184)); have n3_ := Aside0.mk ((by rw [hg]; exact (below_size (bel_)) : w.heap.size ≤ gb1184)); clear HB; have HB := n0_; have BK1184 := n1_; have GW1184 := n2_; have GE1184 := n3_; clear n0_ n1_ n2_ n3_; clear hb hbox hg; have hcz16_0 := cz_ BK1184.out 0 (.int .i64 a0_0); have hcz16_1 := cz_ BK1184.out 1 (.int .i64 a0_1); have hcz16_2 := cz_ BK1184.out 2 (.slice A0_2 l0_2.length c0_2); have hcz16_3 := cz_ BK1184.out 3 (.slice A0_3 l0_3.length c0_3); have hcz16_4 := cz_ BK1184.out 4 (.int .i64 a0_4); have hcz16_5 := cz_ BK1184.out 5 (.int .i64 a0_5); have hfz16_0 := blk_frozen BK1184.out 0; have hfz16_1 := blk_frozen BK1184.out 1; have hfz16_2 := blk_frozen BK1184.out 2; have hfz16_3 := blk_frozen BK1184.out 3; have hfz16_4 := blk_frozen BK1184.out 4; have hfz16_5 := blk_frozen BK1184.out 5) | ((with_reducible refine gate_callee (f := 109) rfl ?_); refine gl_ 8 Tryd.func109 #[.slice A0_2 l0_2.length c0_2, .int .i64 a1] ?_; (with_reducible refine (laws_szRowS.calls k _ _ l0_2 a1 t1185 _ ?side1 ?side2 A3.out).mono ?_); (case side1 => exact cp_ HR0_2.out); (case side2 => exact HC0_2.out); rintro e w17 ⟨rfl, hb⟩; refine ⟨_, rfl, ?_⟩; replace HB := Aside0.mk (below_step (bel_) hb); replace BK1184 := Aside0.mk (bb_ BK1184.out hb); (try clear hb); have hcz18_0 := cz_ BK1184.out 0 (.int .i64 a0_0); have hcz18_1 := cz_ BK1184.out 1 (.int .i64 a0_1); have hcz18_2 := cz_ BK1184.out 2 (.slice A0_2 l0_2.length c0_2); have hcz18_3 := cz_ BK1184.out 3 (.slice A0_3 l0_3.length c0_3); have hcz18_4 := cz_ BK1184.out 4 (.int .i64 a0_4); have hcz18_5 := cz_ BK1184.out 5 (.int .i64 a0_5); have hfz18_0 := blk_frozen BK1184.out 0; have hfz18_1 := blk_frozen BK1184.out 1; have hfz18_2 := blk_frozen BK1184.out 2; have hfz18_3 := blk_frozen BK1184.out 3; have hfz18_4 := blk_frozen BK1184.out 4; have hfz18_5 := blk_frozen BK1184.out 5) | ((with_reducible refine gate_callee (f := 49) rfl ?_); refine gl_ 14 Tryd.func49 #[.slice A0_3 l0_3.length c0_3, .int .i64 t1185] ?_; (with_reducible refine (laws_szEntryS.calls k _ _ l0_3 t1185 t1186 _ ?side1 ?side2 A8.out).mono ?_); (case side1 => exact cp_ HR0_3.out); (case side2 => exact HC0_3.out); rintro e w19 ⟨rfl, hb⟩; refine ⟨_, rfl, ?_⟩; replace HB := Aside0.mk (below_step (bel_) hb); replace BK1184 := Aside0.mk (bb_ BK1184.out hb); (try clear hb)))
   go_ret
   exact ⟨fi_, bel_⟩

def spec_RowOk.f (k : Nat) (a0_0 : Int) (a0_1 : Int) (a0_2 : ByteArray) : Option (Bool) := (spec_l1Root.f a0_0).bind fun t1188 => (if t1188 = true then (if a0_1 = 0 then (some (a0_2.toList == ([] : List UInt8))) else (some false)) else ((spec_l1Made.f a0_0).bind fun t1189 => (if t1189 = true then ((spec_l6In.f a0_1 1 18).bind fun t1190 => (if t1190 = true then ((spec_l1Text.f k a0_2).bind fun t1191 => (some t1191)) else (some false))) else (some false))))
theorem spec_RowOk.mono : ∀ a0 a1 a2 k, LeO (spec_RowOk.f k a0 a1 a2) (spec_RowOk.f (k + 1) a0 a1 a2) := by
 intro a0 a1 a2 k
 unfold spec_RowOk.f
 repeat' first
   | (with_reducible exact spec_l1Text.mono _ _)
   | (with_reducible exact LeO.refl _)
   | (with_reducible exact LeO.none _)
   | (with_reducible refine LeO.ite ?_ ?_)
   | (with_reducible refine LeO.bind ?_ (fun _ => ?_))
   | exact spec_l1Text.mono _ _
   | exact LeO.none _
   | refine LeO.ite ?_ ?_
   | refine LeO.bind ?_ (fun _ => ?_)
set_option maxHeartbeats 8000000 in
set_option maxRecDepth 100000 in
theorem spec_RowOk.calls (k : Nat) (a0_0 : Int) (a0_1 : Int) (a0_2 : ByteArray) (r : Bool) (w : World) (h : spec_RowOk.f k a0_0 a0_1 a0_2 = some r) :
  Calls Tryd.prog 140 #[.agg #[.int .i64 a0_0, .int .i64 a0_1, .string a0_2]] w fun e w' => e = .returned (.bool r) ∧ Below w.heap.size w w' := by
 have hu69 := Tryd.underlying69
 have HB := Aside0.mk (Below.refl w.heap.size w)
 unfold spec_RowOk.f at h
 have H := h
 clear h
 replace H := Option.bind_eq_some_iff.mp H
 obtain ⟨t1188, A20, H⟩ := H
 try dsimp only at H
 have A2 := Aside0.mk A20
 clear A20
 by_cases c3 : t1188 = true
 ·subst c3
  have H1 : (if a0_1 = 0 then (some (a0_2.toList == ([] : List UInt8))) else (some false)) = some r := by rw [if_pos rfl] at H; exact H
  clear H
  have H := H1
  clear H1
  by_cases c4 : a0_1 = 0
  ·rw [if_pos c4] at H
   have c4b0 : (a0_1 == 0) = true := beq_iff_eq.mpr c4
   have c4b1 : (a0_1 != 0) = false := bne_eq_false_iff_eq.mpr c4
   clear c4
   obtain rfl := Option.some.inj H
   go_enter Tryd.func140, Tryd.ntmps140
   go_wp2_with (first | ((with_reducible refine gate_dst (N := 1) rfl ?_); refine bx_ 1 (#[.int .i64 a0_0, .int .i64 a0_1, .string a0_2]) 69 ?_; intro gb1187 hg w5 hbox hb; have n0_ := Aside0.mk (below_step (bel_) hb); have n1_ := Aside0.mk (hbox); have n2_ := Aside0.mk ((by rw [hg]; exact (below_size (bel_)) : w.heap.size ≤ gb1187)); have n3_ := Aside0.mk ((by rw [hg]; exact (below_size (bel_)) : w.heap.size ≤ gb1187)); clear HB; have HB := n0_; have BK1187 := n1_; have GW1187 := n2_; have GE1187 := n3_; clear n0_ n1_ n2_ n3_; clear hb hbox hg; have hcz6_0 := cz_ BK1187.out 0 (.int .i64 a0_0); have hcz6_1 := cz_ BK1187.out 1 (.int .i64 a0_1); have hcz6_2 := cz_ BK1187.out 2 (.string a0_2); have hfz6_0 := blk_frozen BK1187.out 0; have hfz6_1 := blk_frozen BK1187.out 1; have hfz6_2 := blk_frozen BK1187.out 2) | ((with_reducible refine gate_callee (f := 141) rfl ?_); refine gl_ 5 Tryd.func141 #[.int .i64 a0_0] ?_; (with_reducible refine (spec_l1Root.calls a0_0 true _ A2.out).mono ?_); rintro e w' ⟨rfl, ⟨nd, rfl⟩⟩; refine ⟨_, rfl, ?_⟩))
   go_ret
   exact ⟨fi_, bel_⟩
  ·rw [if_neg c4] at H
   have c4b0 : (a0_1 == 0) = false := beq_eq_false_iff_ne.mpr c4
   have c4b1 : (a0_1 != 0) = true := bne_iff_ne.mpr c4
   obtain rfl := Option.some.inj H
   go_enter Tryd.func140, Tryd.ntmps140
   go_wp2_with (first | ((with_reducible refine gate_dst (N := 1) rfl ?_); refine bx_ 1 (#[.int .i64 a0_0, .int .i64 a0_1, .string a0_2]) 69 ?_; intro gb1187 hg w7 hbox hb; have n0_ := Aside0.mk (below_step (bel_) hb); have n1_ := Aside0.mk (hbox); have n2_ := Aside0.mk ((by rw [hg]; exact (below_size (bel_)) : w.heap.size ≤ gb1187)); have n3_ := Aside0.mk ((by rw [hg]; exact (below_size (bel_)) : w.heap.size ≤ gb1187)); clear HB; have HB := n0_; have BK1187 := n1_; have GW1187 := n2_; have GE1187 := n3_; clear n0_ n1_ n2_ n3_; clear hb hbox hg; have hcz8_0 := cz_ BK1187.out 0 (.int .i64 a0_0); have hcz8_1 := cz_ BK1187.out 1 (.int .i64 a0_1); have hcz8_2 := cz_ BK1187.out 2 (.string a0_2); have hfz8_0 := blk_frozen BK1187.out 0; have hfz8_1 := blk_frozen BK1187.out 1; have hfz8_2 := blk_frozen BK1187.out 2) | ((with_reducible refine gate_callee (f := 141) rfl ?_); refine gl_ 5 Tryd.func141 #[.int .i64 a0_0] ?_; (with_reducible refine (spec_l1Root.calls a0_0 true _ A2.out).mono ?_); rintro e w' ⟨rfl, ⟨nd, rfl⟩⟩; refine ⟨_, rfl, ?_⟩))
   go_ret
   exact ⟨fi_, bel_⟩
 ·replace c3 := Bool.eq_false_iff.mpr c3
  subst c3
  have H1 : ((spec_l1Made.f a0_0).bind fun t1189 => (if t1189 = true then ((spec_l6In.f a0_1 1 18).bind fun t1190 => (if t1190 = true then ((spec_l1Text.f k a0_2).bind fun t1191 => (some t1191)) else (some false))) else (some false))) = some r := by rw [if_neg (show ¬ (false = true) by decide)] at H; exact H
  clear H
  have H := H1
  clear H1
  replace H := Option.bind_eq_some_iff.mp H
  obtain ⟨t1189, A90, H⟩ := H
  try dsimp only at H
  have A9 := Aside0.mk A90
  clear A90
  by_cases c10 : t1189 = true
  ·subst c10
   have H1 : ((spec_l6In.f a0_1 1 18).bind fun t1190 => (if t1190 = true then ((spec_l1Text.f k a0_2).bind fun t1191 => (some t1191)) else (some false))) = some r := by rw [if_pos rfl] at H; exact H
   clear H
   have H := H1
   clear H1
   replace H := Option.bind_eq_some_iff.mp H
   obtain ⟨t1190, A110, H⟩ := H
   try dsimp only at H
   have A11 := Aside0.mk A110
   clear A110
   by_cases c12 : t1190 = true
   ·subst c12
    have H1 : ((spec_l1Text.f k a0_2).bind fun t1191 => (some t1191)) = some r := by rw [if_pos rfl] at H; exact H
    clear H
    have H := H1
    clear H1
    replace H := Option.bind_eq_some_iff.mp H
    obtain ⟨t1191, A130, H⟩ := H
    try dsimp only at H
    have A13 := Aside0.mk A130
    clear A130
    obtain rfl := Option.some.inj H
    go_enter Tryd.func140, Tryd.ntmps140
    go_wp2_with (first | ((with_reducible refine gate_dst (N := 1) rfl ?_); refine bx_ 1 (#[.int .i64 a0_0, .int .i64 a0_1, .string a0_2]) 69 ?_; intro gb1187 hg w14 hbox hb; have n0_ := Aside0.mk (below_step (bel_) hb); have n1_ := Aside0.mk (hbox); have n2_ := Aside0.mk ((by rw [hg]; exact (below_size (bel_)) : w.heap.size ≤ gb1187)); have n3_ := Aside0.mk ((by rw [hg]; exact (below_size (bel_)) : w.heap.size ≤ gb1187)); clear HB; have HB := n0_; have BK1187 := n1_; have GW1187 := n2_; have GE1187 := n3_; clear n0_ n1_ n2_ n3_; clear hb hbox hg; have hcz15_0 := cz_ BK1187.out 0 (.int .i64 a0_0); have hcz15_1 := cz_ BK1187.out 1 (.int .i64 a0_1); have hcz15_2 := cz_ BK1187.out 2 (.string a0_2); have hfz15_0 := blk_frozen BK1187.out 0; have hfz15_1 := blk_frozen BK1187.out 1; have hfz15_2 := blk_frozen BK1187.out 2) | ((with_reducible refine gate_callee (f := 141) rfl ?_); refine gl_ 5 Tryd.func141 #[.int .i64 a0_0] ?_; (with_reducible refine (spec_l1Root.calls a0_0 false _ A2.out).mono ?_); rintro e w' ⟨rfl, ⟨nd, rfl⟩⟩; refine ⟨_, rfl, ?_⟩) | ((with_reducible refine gate_callee (f := 120) rfl ?_); refine gl_ 16 Tryd.func120 #[.int .i64 a0_0] ?_; (with_reducible refine (spec_l1Made.calls a0_0 true _ A9.out).mono ?_); rintro e w' ⟨rfl, ⟨nd, rfl⟩⟩; refine ⟨_, rfl, ?_⟩) | (go_at_call 75; (with_reducible refine (spec_l6In.calls a0_1 1 18 true _ A11.out).mono ?_); rintro e w' ⟨rfl, ⟨nd, rfl⟩⟩) | (go_at_call 121; (with_reducible refine (spec_l1Text.calls k a0_2 t1191 _ A13.out).mono ?_); rintro e w' ⟨rfl, ⟨nd, rfl⟩⟩))
    go_ret
    exact ⟨fi_, bel_⟩
   ·replace c12 := Bool.eq_false_iff.mpr c12
    subst c12
    have H1 : (some false) = some r := by rw [if_neg (show ¬ (false = true) by decide)] at H; exact H
    clear H
    have H := H1
    clear H1
    obtain rfl := Option.some.inj H
    go_enter Tryd.func140, Tryd.ntmps140
    go_wp2_with (first | ((with_reducible refine gate_dst (N := 1) rfl ?_); refine bx_ 1 (#[.int .i64 a0_0, .int .i64 a0_1, .string a0_2]) 69 ?_; intro gb1187 hg w16 hbox hb; have n0_ := Aside0.mk (below_step (bel_) hb); have n1_ := Aside0.mk (hbox); have n2_ := Aside0.mk ((by rw [hg]; exact (below_size (bel_)) : w.heap.size ≤ gb1187)); have n3_ := Aside0.mk ((by rw [hg]; exact (below_size (bel_)) : w.heap.size ≤ gb1187)); clear HB; have HB := n0_; have BK1187 := n1_; have GW1187 := n2_; have GE1187 := n3_; clear n0_ n1_ n2_ n3_; clear hb hbox hg; have hcz17_0 := cz_ BK1187.out 0 (.int .i64 a0_0); have hcz17_1 := cz_ BK1187.out 1 (.int .i64 a0_1); have hcz17_2 := cz_ BK1187.out 2 (.string a0_2); have hfz17_0 := blk_frozen BK1187.out 0; have hfz17_1 := blk_frozen BK1187.out 1; have hfz17_2 := blk_frozen BK1187.out 2) | ((with_reducible refine gate_callee (f := 141) rfl ?_); refine gl_ 5 Tryd.func141 #[.int .i64 a0_0] ?_; (with_reducible refine (spec_l1Root.calls a0_0 false _ A2.out).mono ?_); rintro e w' ⟨rfl, ⟨nd, rfl⟩⟩; refine ⟨_, rfl, ?_⟩) | ((with_reducible refine gate_callee (f := 120) rfl ?_); refine gl_ 16 Tryd.func120 #[.int .i64 a0_0] ?_; (with_reducible refine (spec_l1Made.calls a0_0 true _ A9.out).mono ?_); rintro e w' ⟨rfl, ⟨nd, rfl⟩⟩; refine ⟨_, rfl, ?_⟩) | (go_at_call 75; (with_reducible refine (spec_l6In.calls a0_1 1 18 false _ A11.out).mono ?_); rintro e w' ⟨rfl, ⟨nd, rfl⟩⟩))
    go_ret
    exact ⟨fi_, bel_⟩
  ·replace c10 := Bool.eq_false_iff.mpr c10
   subst c10
   have H1 : (some false) = some r := by rw [if_neg (show ¬ (false = true) by decide)] at H; exact H
   clear H
   have H := H1
   clear H1
   obtain rfl := Option.some.inj H
   go_enter Tryd.func140, Tryd.ntmps140
   go_wp2_with (first | ((with_reducible refine gate_dst (N := 1) rfl ?_); refine bx_ 1 (#[.int .i64 a0_0, .int .i64 a0_1, .string a0_2]) 69 ?_; intro gb1187 hg w18 hbox hb; have n0_ := Aside0.mk (below_step (bel_) hb); have n1_ := Aside0.mk (hbox); have n2_ := Aside0.mk ((by rw [hg]; exact (below_size (bel_)) : w.heap.size ≤ gb1187)); have n3_ := Aside0.mk ((by rw [hg]; exact (below_size (bel_)) : w.heap.size ≤ gb1187)); clear HB; have HB := n0_; have BK1187 := n1_; have GW1187 := n2_; have GE1187 := n3_; clear n0_ n1_ n2_ n3_; clear hb hbox hg; have hcz19_0 := cz_ BK1187.out 0 (.int .i64 a0_0); have hcz19_1 := cz_ BK1187.out 1 (.int .i64 a0_1); have hcz19_2 := cz_ BK1187.out 2 (.string a0_2); have hfz19_0 := blk_frozen BK1187.out 0; have hfz19_1 := blk_frozen BK1187.out 1; have hfz19_2 := blk_frozen BK1187.out 2) | ((with_reducible refine gate_callee (f := 141) rfl ?_); refine gl_ 5 Tryd.func141 #[.int .i64 a0_0] ?_; (with_reducible refine (spec_l1Root.calls a0_0 false _ A2.out).mono ?_); rintro e w' ⟨rfl, ⟨nd, rfl⟩⟩; refine ⟨_, rfl, ?_⟩) | ((with_reducible refine gate_callee (f := 120) rfl ?_); refine gl_ 16 Tryd.func120 #[.int .i64 a0_0] ?_; (with_reducible refine (spec_l1Made.calls a0_0 false _ A9.out).mono ?_); rintro e w' ⟨rfl, ⟨nd, rfl⟩⟩; refine ⟨_, rfl, ?_⟩))
   go_ret
   exact ⟨fi_, bel_⟩

end Go.Proofs.YtdpklbomhdpimaaDoor.P
namespace Go.Proofs.YtdpklbomhdpimaaDoor.PL
open Go.RowKit Go.Proofs.YtdpklbomhdpimaaDoor.P Go.Proofs.YtdpklbomhdpimaaDoorW.PrintWords Go.Proofs.YtdpklbomhdpimaaDoorW.PrintLast
theorem evnow {α : Type} (a : α) : Ev (fun _ => some a) a := ⟨0, fun _ _ => rfl⟩
theorem ev_neg {α : Type} {c : Prop} [Decidable c] {f g : Nat → Option α} {r : α} (h : ¬ c) (k : Ev g r) : Ev (fun n => if c then f n else g n) r := Ev.congr (fun _ => if_neg h) k
theorem ev_pos {α : Type} {c : Prop} [Decidable c] {f g : Nat → Option α} {r : α} (h : c) (k : Ev f r) : Ev (fun n => if c then f n else g n) r := Ev.congr (fun _ => if_pos h) k
theorem wrapS (i : Int) (h0 : 0 ≤ i) (h : i ≤ 4611686018427387904) : wrap64 (i + 1) = i + 1 := by unfold wrap64; omega
theorem wrapT (i : Int) (h0 : 0 ≤ i) (h : i + 1 ≤ 9223372036854775807) : wrap64 (i + 1) = i + 1 := by unfold wrap64; omega
def I64 (a : Int) : Prop := -9223372036854775808 ≤ a ∧ a ≤ 9223372036854775807

def madeB (a : Int) : Bool := decide (ownI a ≠ 0) && decide (ownI a ≠ 1)
def rootB (a : Int) : Bool := decide (1 ≤ a) && decide (a ≤ 3)
theorem in_f (a b c : Int) : spec_l6In.f a b c = some (decide (b ≤ a) && decide (a ≤ c)) := by
 unfold spec_l6In.f
 by_cases h : a ≥ b
 ·rw [if_pos h]; simp [h]
 ·rw [if_neg h]; simp [show ¬ b ≤ a from h]
theorem ownI_out (a : Int) (h : a < 0 ∨ 37 ≤ a) : ownI a = 0 := by
 unfold ownI
 rw [if_neg (by omega)]
theorem small_made : ∀ n : Nat, n < 37 → (decide (1 ≤ Int.tdiv (n : Int) 10) && decide (Int.tdiv (n : Int) 10 ≤ 3)) = true → (decide (1 ≤ Int.tmod (n : Int) 10) && decide (Int.tmod (n : Int) 10 ≤ 6)) = madeB n := by decide
theorem small_unmade : ∀ n : Nat, n < 37 → (decide (1 ≤ Int.tdiv (n : Int) 10) && decide (Int.tdiv (n : Int) 10 ≤ 3)) = false → madeB n = false := by decide
theorem small_who : ∀ n : Nat, n < 37 → madeB n = true → ownI n - 1 = Int.tdiv (n : Int) 10 := by decide
theorem small_root : ∀ n : Nat, n < 37 → (decide (ownI n ≠ 0) && decide (ownI n - 1 = 0)) = rootB n := by decide
theorem tdiv_wrap (a : Int) (h : I64 a) : wrap64 (Int.tdiv a 10) = Int.tdiv a 10 := by
 obtain ⟨h1, h2⟩ := h
 have : Int.tdiv a 10 ≤ 9223372036854775807 ∧ -9223372036854775808 ≤ Int.tdiv a 10 := by
  rcases Int.le_total 0 a with h0 | h0
  ·rw [Int.tdiv_eq_ediv_of_nonneg h0]; omega
  ·have e : Int.tdiv a 10 = -(Int.tdiv (-a) 10) := by rw [Int.neg_tdiv, Int.neg_neg]
   rw [e, Int.tdiv_eq_ediv_of_nonneg (by omega)]; omega
 unfold wrap64; omega
theorem made_f (a : Int) (h : I64 a) : spec_l1Made.f a = some (madeB a) := by
 unfold spec_l1Made.f
 rw [in_f, in_f, tdiv_wrap a h]
 simp only [Option.bind_some]
 by_cases hs : 0 ≤ a ∧ a < 37
 ·obtain ⟨n, rfl⟩ : ∃ n : Nat, a = n := ⟨a.toNat, by omega⟩
  have hn : n < 37 := by omega
  cases hd : (decide (1 ≤ Int.tdiv (n : Int) 10) && decide (Int.tdiv (n : Int) 10 ≤ 3)) with
  | true => rw [if_pos rfl, small_made n hn hd]
  | false => rw [if_neg (by decide), small_unmade n hn hd]
 ·have ho : madeB a = false := by unfold madeB; rw [ownI_out a (by omega)]; rfl
  rw [ho]
  rcases Int.lt_or_le a 0 with h0 | h0
  ·have e : Int.tdiv a 10 = -(Int.tdiv (-a) 10) := by rw [Int.neg_tdiv, Int.neg_neg]
   have h1 : Int.tdiv a 10 ≤ 0 := by rw [e, Int.tdiv_eq_ediv_of_nonneg (by omega)]; omega
   have h2 : decide (1 ≤ Int.tdiv a 10) = false := decide_eq_false (by omega)
   rw [h2]
   simp
  ·have e1 := Int.tdiv_eq_ediv_of_nonneg (b := 10) h0
   have e2 : Int.tmod a 10 = a % 10 := Int.tmod_eq_emod_of_nonneg h0
   rw [e1, e2]
   by_cases h3 : a / 10 ≤ 3
   ·have h4 : decide (a % 10 ≤ 6) = false := decide_eq_false (by omega)
    rw [h4]
    simp
   ·have h4 : decide (a / 10 ≤ 3) = false := decide_eq_false h3
    rw [h4]
    simp
theorem isMade_f (a : Int) : impl_isMade.f a = some (madeB a) := by
 unfold impl_isMade.f impl_RowWho.f madeB
 simp only [Option.bind_some]
 by_cases h0 : ownI a = 0
 ·rw [if_pos h0]; simp [h0]
 ·rw [if_neg h0]
  by_cases h1 : ownI a = 1
  ·simp [h1]
  ·simp [h0, h1]
   omega
theorem isRoot_f (a : Int) : impl_isRoot.f a = some (rootB a) := by
 unfold impl_isRoot.f impl_RowWho.f
 simp only [Option.bind_some]
 by_cases hs : 0 ≤ a ∧ a < 37
 ·obtain ⟨n, rfl⟩ : ∃ n : Nat, a = n := ⟨a.toNat, by omega⟩
  have := small_root n (by omega)
  rw [← this]
  by_cases h0 : ownI (n : Int) = 0
  ·rw [if_pos h0]; simp [h0]
  ·rw [if_neg h0]
   by_cases h1 : ownI (n : Int) - 1 = 0 <;> simp [h0, h1]
 ·rw [if_pos (ownI_out a (by omega))]
  have : rootB a = false := by unfold rootB; simp; omega
  rw [this]
  simp
theorem root_f (a : Int) : spec_l1Root.f a = some (rootB a) := by
 unfold spec_l1Root.f
 rw [in_f]
 rfl
def idB (a : Int) : Bool := rootB a || madeB a
theorem id_f (a : Int) (h : I64 a) : spec_l3Id.f a = some (idB a) := by
 unfold spec_l3Id.f idB
 rw [root_f, made_f a h]
 simp only [Option.bind_some]
 cases rootB a <;> simp
def placeB (u a : Int) : Bool := idB u && (decide (a = 0) || madeB a)
theorem place_f (u a : Int) : impl_placeOk.f u a = some (placeB u a) := by
 unfold impl_placeOk.f placeB idB
 rw [isMade_f, isMade_f, isRoot_f]
 simp only [Option.bind_some]
 by_cases h : a = 0
 ·simp only [h, if_true]
  cases madeB u <;> cases rootB u <;> simp
 ·simp only [h, if_false]
  cases madeB u <;> cases rootB u <;> simp
def textFrom (s : ByteArray) (i : Nat) : Nat → Bool
 | 0 => true
 | n + 1 => decide (97 ≤ bt s i) && decide (bt s i ≤ 100) && textFrom s (i + 1) n
def textB (s : ByteArray) : Bool := textFrom s 0 s.size && decide (s.size ≤ 4)
theorem bt_range (s : ByteArray) (i : Int) : 0 ≤ bt s i ∧ bt s i ≤ 255 := by
 unfold bt
 split
 ·rename_i h
  have := (s[i.toNat]'h).toNat_lt
  omega
 ·omega
theorem text_l0 (s : ByteArray) (hs : s.size ≤ 9223372036854775807) : ∀ (n : Nat) (i : Nat), i + n = s.size → Ev (fun k => spec_l1Text.l0 k s i) (textFrom s i n && decide (s.size ≤ 4))
 | 0, i, h => by
  refine Ev.step (f := fun _ => some (decide ((s.size : Int) ≤ 4))) (fun k => ?_) ?_
  ·simp only [spec_l1Text.l0]; rw [if_neg (by omega)]
  ·have : decide ((s.size : Int) ≤ 4) = (textFrom s i 0 && decide (s.size ≤ 4)) := by simp [textFrom]; omega
   rw [this]; exact evnow _
 | n + 1, i, h => by
  have hw : wrap64 (bt s i) = bt s i := by have := bt_range s i; unfold wrap64; omega
  unfold textFrom
  cases ht : (decide (97 ≤ bt s i) && decide (bt s i ≤ 100)) with
  | true =>
   rw [Bool.true_and]
   refine Ev.step (fun k => ?_) (text_l0 s hs n (i + 1) (by omega))
   simp only [spec_l1Text.l0]
   rw [if_pos (by omega), if_pos (by omega), hw, in_f, ht, Option.bind_some, if_pos rfl, wrapT i (by omega) (by omega)]
   rfl
  | false =>
   rw [Bool.false_and, Bool.false_and]
   refine Ev.step (f := fun _ => some false) (fun k => ?_) (evnow _)
   simp only [spec_l1Text.l0]
   rw [if_pos (by omega), if_pos (by omega), hw, in_f, ht, Option.bind_some, if_neg (by decide)]
theorem text_f (s : ByteArray) (hs : s.size ≤ 9223372036854775807) : Ev (fun k => spec_l1Text.f k s) (textB s) := text_l0 s hs s.size 0 (by omega)
theorem itext_l0 (s : ByteArray) (hs : s.size ≤ 9223372036854775807) : ∀ (n : Nat) (i : Nat), i + n = s.size → Ev (fun k => impl_textOk.l0 k s i) (textFrom s i n)
 | 0, i, h => by
  refine Ev.step (f := fun _ => some true) (fun k => ?_) (evnow _)
  simp only [impl_textOk.l0]; rw [if_neg (by omega)]
 | n + 1, i, h => by
  unfold textFrom
  by_cases h1 : bt s i < 97
  ·have : decide (97 ≤ bt s i) = false := decide_eq_false (by omega)
   rw [this, Bool.false_and, Bool.false_and]
   refine Ev.step (f := fun _ => some false) (fun k => ?_) (evnow _)
   simp only [impl_textOk.l0]
   rw [if_pos (by omega), if_pos (by omega), if_pos h1]
  ·by_cases h2 : bt s i > 100
   ·have : decide (bt s i ≤ 100) = false := decide_eq_false (by omega)
    rw [this, Bool.and_false, Bool.false_and]
    refine Ev.step (f := fun _ => some false) (fun k => ?_) (evnow _)
    simp only [impl_textOk.l0]
    rw [if_pos (by omega), if_pos (by omega), if_neg h1, if_pos h2]
   ·have e1 : decide (97 ≤ bt s i) = true := decide_eq_true (by omega)
    have e2 : decide (bt s i ≤ 100) = true := decide_eq_true (by omega)
    rw [e1, e2, Bool.true_and, Bool.true_and]
    refine Ev.step (fun k => ?_) (itext_l0 s hs n (i + 1) (by omega))
    simp only [impl_textOk.l0]
    rw [if_pos (by omega), if_pos (by omega), if_neg h1, if_neg h2, wrapT i (by omega) (by omega)]
    rfl
theorem itext_f (s : ByteArray) (hs : s.size ≤ 9223372036854775807) : Ev (fun k => impl_textOk.f k s) (textB s) := by
 unfold impl_textOk.f textB
 by_cases h : (s.size : Int) > 4
 ·refine ev_pos h ?_
  have : decide (s.size ≤ 4) = false := decide_eq_false (by omega)
  rw [this, Bool.and_false]
  exact evnow _
 ·refine ev_neg h ?_
  have : decide (s.size ≤ 4) = true := decide_eq_true (by omega)
  rw [this, Bool.and_true]
  exact itext_l0 s hs s.size 0 (by omega)
theorem text_nil (s : ByteArray) (h : s.toList.isEmpty = true) : textB s = true := by
 have : s.size = 0 := by
  have h2 := List.isEmpty_iff.1 h
  have h3 : s.toList.length = s.size := by rw [Go.ByteArray.toList_eq]; exact Array.length_toList
  rw [← h3, h2]; rfl
 unfold textB
 rw [this]
 rfl
def opB (k i u a : Int) (s : ByteArray) : Bool :=
 madeB i && (if k = 1 then placeB u a && textB s else if k = 2 then decide (u = 0) && decide (a = 0) && textB s else if k = 3 then placeB u a && s.toList.isEmpty else false)
theorem opOk_f (k i u a : Int) (s : ByteArray) (hs : s.size ≤ 9223372036854775807) : Ev (fun n => impl_OpOk.f n k i u a s) (opB k i u a s) := by
 unfold impl_OpOk.f impl_changeOf.f opB
 rw [isMade_f]
 simp only [Option.bind_some]
 cases madeB i with
 | false => simp only [Bool.false_eq_true, if_false, Bool.false_and]; exact evnow _
 | true =>
  simp only [if_true, Bool.true_and, place_f, Option.bind_some]
  by_cases h1 : k = 1
  ·simp only [h1, if_true]
   cases placeB u a with
   | true => simp only [if_true, Bool.true_and]; exact itext_f s hs
   | false => simp only [Bool.false_eq_true, if_false, Bool.false_and]; exact evnow _
  ·simp only [h1, if_false]
   by_cases h2 : k = 2
   ·simp only [h2, if_true]
    by_cases h3 : u = 0
    ·by_cases h4 : a = 0
     ·simp only [h3, h4, if_true, decide_true, Bool.true_and]; exact itext_f s hs
     ·simp only [h3, h4, if_true, if_false, decide_true, decide_false, Bool.true_and, Bool.false_and]; exact evnow _
    ·simp only [h3, if_false, decide_false, Bool.false_and]; exact evnow _
   ·simp only [h2, if_false]
    by_cases h3 : k = 3
    ·simp only [h3, if_true]
     cases placeB u a with
     | true => simp only [if_true, Bool.true_and]; exact evnow _
     | false => simp only [Bool.false_eq_true, if_false, Bool.false_and]; exact evnow _
    ·simp only [h3, if_false]; exact evnow _
theorem sop_f (k i u a : Int) (s : ByteArray) (hi : I64 i) (hu : I64 u) (ha : I64 a) (hs : s.size ≤ 9223372036854775807) : Ev (fun n => spec_OpOk.f n k i u a s) (opB k i u a s) := by
 unfold spec_OpOk.f opB
 rw [made_f i hi]
 simp only [Option.bind_some]
 cases madeB i with
 | false =>
  simp only [Bool.false_eq_true, if_false, Bool.false_and]
  refine Ev.step (f := fun _ => some false) (fun n => ?_) (evnow _)
  simp only [spec_OpOk.j0, if_true]
 | true =>
  simp only [if_true, Bool.true_and]
  refine Ev.bind (text_f s hs) ?_
  have hp : (idB u && (decide (a = 0) || madeB a)) = placeB u a := rfl
  cases ht : textB s with
  | false =>
   have hne : s.toList.isEmpty = false := by
    cases he : s.toList.isEmpty with
    | false => rfl
    | true => rw [text_nil s he] at ht; cases ht
   refine Ev.step (f := fun _ => some false) (fun n => ?_) ?_
   ·simp only [spec_OpOk.j0, Bool.not_false, if_true]
   ·simp only [hne, Bool.and_false, ite_self]
    exact evnow _
  | true =>
   refine Ev.step (f := fun _ => some (if k = 1 then placeB u a && true else if k = 2 then decide (u = 0) && decide (a = 0) && true else if k = 3 then placeB u a && s.toList.isEmpty else false)) (fun n => ?_) (evnow _)
   simp only [spec_OpOk.j0, Bool.not_true, Bool.false_eq_true, if_false]
   rw [id_f u hu, made_f a ha]
   simp only [Option.bind_some, Bool.and_true]
   rw [← hp]
   have hnil : (s.toList == ([] : List UInt8)) = s.toList.isEmpty := by cases s.toList <;> rfl
   rw [hnil]
   by_cases h1 : k = 1
   ·simp only [h1, if_true]
    by_cases h4 : a = 0
    ·simp only [h4, if_true, decide_true, Bool.true_or, Bool.and_true]; cases idB u <;> simp
    ·simp only [h4, if_false, decide_false, Bool.false_or]; cases idB u <;> simp
   ·simp only [h1, if_false]
    by_cases h2 : k = 2
    ·simp only [h2, if_true]
     by_cases h3 : u = 0
     ·simp [h3]; by_cases h4 : a = 0 <;> simp [h4]
     ·simp [h3]
    ·simp only [h2, if_false]
     by_cases h3 : k = 3
     ·simp only [h3, if_true]
      by_cases h4 : a = 0
      ·simp only [h4, if_true, decide_true, Bool.true_or, Bool.and_true]; cases idB u <;> simp
      ·simp only [h4, if_false, decide_false, Bool.false_or]; cases idB u <;> cases madeB a <;> simp
     ·simp only [h3, if_false]
theorem made_small (a : Int) (h : madeB a = true) : 0 ≤ a ∧ a < 37 := by
 rcases Int.lt_or_le a 0 with h0 | h0
 ·unfold madeB at h; rw [ownI_out a (by omega)] at h; simp at h
 ·rcases Int.lt_or_le a 37 with h1 | h1
  ·exact ⟨h0, h1⟩
  ·unfold madeB at h; rw [ownI_out a (by omega)] at h; simp at h
theorem opB_made (k i u a : Int) (s : ByteArray) (h : opB k i u a s = true) : madeB i = true := by
 unfold opB at h
 simp only [Bool.and_eq_true] at h
 exact h.1
def rowB (r : S69) : Bool := if rootB r.f0 then decide (r.f1 = 0) && (r.f2.toList == ([] : List UInt8)) else madeB r.f0 && (decide (1 ≤ r.f1) && (decide (r.f1 ≤ 18) && textB r.f2))
theorem itext_any (s : ByteArray) : Ev (fun k => impl_textOk.f k s) (textB s) := by
 by_cases hs : s.size ≤ 9223372036854775807
 ·exact itext_f s hs
 ·have e : textB s = false := by unfold textB; simp; omega
  rw [e]
  refine Ev.congr (fun k => ?_) (evnow false)
  unfold impl_textOk.f
  exact if_pos (by omega)
theorem row_f (r : S69) : Ev (fun k => impl_RowOk.f k r.f0 r.f1 r.f2) (rowB r) := by
 unfold impl_RowOk.f rowB
 rw [isRoot_f, isMade_f]
 simp only [Option.bind_some]
 cases rootB r.f0 with
 | true =>
  simp only [if_true]
  by_cases h : r.f1 = 0
  ·simp only [h, if_true, decide_true, Bool.true_and]; exact evnow _
  ·simp only [h, if_false, decide_false, Bool.false_and]; exact evnow _
 | false =>
  cases madeB r.f0 with
  | false => simp only [Bool.false_eq_true, if_false, Bool.false_and]; exact evnow _
  | true =>
   simp only [Bool.false_eq_true, if_false, if_true, Bool.true_and]
   by_cases h1 : 1 ≤ r.f1
   ·refine ev_pos h1 ?_
    by_cases h2 : r.f1 ≤ 18
    ·refine ev_pos h2 ?_
     simp only [h1, h2, decide_true, Bool.true_and]
     exact Ev.bind (itext_any r.f2) (evnow _)
    ·refine ev_neg h2 ?_
     simp only [h1, h2, decide_true, decide_false, Bool.true_and, Bool.false_and]
     exact evnow _
   ·refine ev_neg h1 ?_
    simp only [h1, decide_false, Bool.false_and]
    exact evnow _
theorem srow_f (r : S69) (hi : I64 r.f0) (hs : r.f2.size ≤ 9223372036854775807) : Ev (fun k => spec_RowOk.f k r.f0 r.f1 r.f2) (rowB r) := by
 unfold spec_RowOk.f rowB
 rw [root_f, made_f _ hi, in_f]
 simp only [Option.bind_some]
 cases rootB r.f0 with
 | true =>
  simp only [if_true]
  by_cases h : r.f1 = 0
  ·simp only [h, if_true, decide_true, Bool.true_and]; exact evnow _
  ·simp only [h, if_false, decide_false, Bool.false_and]; exact evnow _
 | false =>
  cases madeB r.f0 with
  | false => simp only [Bool.false_eq_true, if_false, Bool.false_and]; exact evnow _
  | true =>
   simp only [Bool.false_eq_true, if_false, if_true, Bool.true_and]
   cases h : (decide (1 ≤ r.f1) && decide (r.f1 ≤ 18)) with
   | true =>
    simp only [Bool.and_eq_true] at h
    rw [h.1, h.2]
    simp only [if_true, Bool.true_and]
    exact Ev.bind (text_f r.f2 hs) (evnow _)
   | false =>
    rw [← Bool.and_assoc, h]
    simp only [Bool.false_eq_true, if_false, Bool.false_and]
    exact evnow _
end Go.Proofs.YtdpklbomhdpimaaDoor.PL
