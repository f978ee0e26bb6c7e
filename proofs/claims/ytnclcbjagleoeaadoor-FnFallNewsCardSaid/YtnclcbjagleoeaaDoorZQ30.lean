/- Joined by a program (wip/shake.py): the declarations that 'YtnclcbjagleoeaaDoorCardFnFallNews' reaches. -/
import Derived.Below
import Derived.Deep.Draws
import Derived.Deep.AppendLies
import Derived.Maps.AppendAt
import Derived.OwnWalk
import Derived.Laws.BytesArg
import Derived.Laws.MakeOwn
import Derived.Laws.OwnMore
import Derived.Deep.OwnRows
import Derived.Tactics
import Derived.Lib.ConvBytes
import Derived.Laws.Slices
import Derived.WalkKit
import Derived.KernelRfl
import Derived.RowKit3
import Derived.Deep.LoopGhost
import Derived.Deep.QuietTactic
import Derived.BigQuiet
import Derived.WideLaws
import Derived.Deep.DeepCutAuto
import Derived.Deep.CutBlock
import Derived.Deep.RegionHeld3
import Derived.Laws.Rows
import Derived.Lib.AppendStr
import Derived.ArgAppend
import Derived.Laws.IdiomCopy
import Derived.OrdersHeld
import Derived.Laws.BitsLemmas
import Derived.RowKit
import Derived.Lib.LaidTab
import Derived.Lib.Hide
import Derived.Maps.OwnOps
import Derived.Maps.OwnSet
import Derived.Outline
import Derived.WalkSpells
import Derived.Deep.CutRange
import Derived.LaidMore
import Derived.LaidLaws
import Derived.ProofKit
import Derived.ChangeVars
import Derived.ChangeSame
import Derived.OpenShut
import Derived.ShutString
import Derived.ChangeOld
import Derived.SizedLaws
import Derived.SevenTiedAt
import Derived.Test.YtnclcbjagleoeaaDoorCards
import Derived.Test.YtnclcbjagleoeaaDoorRows
import Derived.Test.YtnclcbjagleoeaaDoorTie
import Derived.Test.YtnclcbjagleoeaaDoorZQ3V
import Derived.Test.YtnclcbjagleoeaaDoorWSized
namespace Go.Proofs.YtnclcbjagleoeaaDoor.P
open Go.RowKit Go.Proofs.YtnclcbjagleoeaaDoorW.PrintWords Go.Proofs.YtnclcbjagleoeaaDoorW.PrintLast Go.Proofs.YtnclcbjagleoeaaDoorW.PrintMore
theorem bel_ {p : Prop} (h : p := by repeat (first | (with_reducible first | exact HB.out | apply below_alloc | apply pw_below_drewN | apply below_drew1 | refine below_set ?_ (Aside0.out (by assumption)) | refine below_set ?_ (IsS96.ge (Aside0.out (by assumption)))) | exact HB.out)) : p := h
theorem bp_ {p q : Prop} (h : p) (f : p → q := by intro h_; (with_reducible repeat (first | refine blk_drewN ?_ _ | refine blk_drew ?_ | refine blk_alloc ?_ _)); exact h_) : q := f h
theorem rp_ {p q : Prop} (h : p) (f : p → q := by intro h_; (with_reducible repeat (first | apply Kd.R_alloc | apply Kd.R_drewN | apply Kd.R_drew)); exact h_) : q := f h
theorem ar_ {p : Prop} (h : p := by (try simp only [List.map_toArray, List.map_cons, List.map_nil]); first | done | rfl | (simp only [List.length_drop, List.length_take]; rfl)) : p := h
theorem fi_ {p : Prop} (h : p := by first | rfl | (simp [errW_none, errW_some] <;> rfl) | (simp [*, errW_none, errW_some] <;> rfl)) : p := h
theorem cp_ {p q : Prop} (h : p) (f : p → q := by intro h_; repeat (first | exact (Kd.C_below h_ HB.out) | (with_reducible refine Kd.C_alloc ?_ _) | (with_reducible refine Kd.C_drewN ?_ _) | (with_reducible refine Kd.C_drew ?_))) : q := f h
theorem ke_ {p : Prop} (h : p := by repeat (first | (with_reducible first | exact HK.out | apply KeepBut.set_ | apply keep_drewN | apply keep_drew | apply keep_alloc) | exact HK.out)) : p := h
theorem od_ {p : Prop} [d : Decidable p] (h : decide p = true := by first | (with_reducible assumption) | assumption) : p := of_decide_eq_true h
theorem si_ {p : Prop} (h : p := by first | rfl | (simp; done) | (simp [*]; done)) : p := h
theorem cb_ {w w' : World} {p : Addr} {v : Value} (hb : Below w.heap.size w w') (h : w.cell? p = some v) : w'.cell? p = some v := (hb.cell (World.block_lt_of_cell? w _ h)).trans h
theorem gl_ {P : Program} {ops : Array Oper} {Q : Exit → Act → World → Prop} {rest : List Oper} {oi : Oper} {a : Act} {w : World} (n : Tmp) {f : FuncId} {fn : Func} (hf : P.funcs[f]? = some fn) (args : Array Value) {as_ : Array Operand} {ts : Array TypeId}
    (h : Calls P f args w fun e w' => ∃ v, e = .returned v ∧ wpList P ops Q rest (a.put (some n) v) w') (hd : oi.dst = some n := by exact rfl) (hg : oi.guard = none := by exact rfl)
    (hname : (fn.name == "runtime.NumGoroutine") = false := by kernel_rfl) (hb : fn.body.isSome = true := by exact rfl) (hop : oi.op = .call { callee := .value (.func f), args := as_, argTypes := ts } := by exact rfl)
    (hargs : as_.map a.eval = args := by (try simp only [List.map_toArray, List.map_cons, List.map_nil]); first | done | rfl | (simp only [List.length_drop, List.length_take]; rfl)) : wpList P ops Q (oi :: rest) a w := goesL_ (some n) hd hg hf hname hb args hop hargs h
theorem pa_ {P : Program} {md : Region.Mode} {ops : Array Oper} {Q : Exit → Act → World → Prop} {S : World → Prop} {ds : List Nat} (i : Nat) (n : Tmp) {oi : Oper} {v : Value} {fuel : Nat} {l : Array Bool} {a : Act} {w : World} {a' : Act}
    (h : wpAnyLast P md ops Q S ds fuel (l.setIfInBounds i true) a' w) (hi : ops[i]? = some oi := by exact rfl) (hN : oi.dst = some n := by exact rfl) (hc : anyB md ops l (l.setIfInBounds i true) i = true := by exact any_of HT_.out (by kernel_rfl))
    (hQ : ∀ c a w, Q (.panic c) (a.put oi.dst v) w → Q (.panic c) a w := by exact fun _ _ _ h => h) (hy : Yields P ops oi v a := by exact Or.inl ⟨by rfl, by intro w'; go_simp; with_reducible rfl⟩)
    (ha : a.put (some n) v = a' := by simp only [Act.put, List.setIfInBounds_toArray, List.set_cons_zero, List.set_cons_succ, i64_w, i32_w]; rfl) : wpAnyLast P md ops Q S ds (fuel + 1) l a w := pure_ _ hi hN hc hQ hy ha h
theorem po_ {P : Program} {md : Region.Mode} {ops : Array Oper} {Q : Exit → Act → World → Prop} {S : World → Prop} {ds : List Nat} (i : Nat) (n : Tmp) {oi : Oper} {fuel : Nat} {l : Array Bool} {a : Act} {w : World} {a' : Act}
    (h : wpAnyLast P md ops Q S ds fuel (l.setIfInBounds i true) a' w) (hi : ops[i]? = some oi := by exact rfl) (hN : oi.dst = some n := by exact rfl) (hc : anyB md ops l (l.setIfInBounds i true) i = true := by exact any_of HT_.out (by kernel_rfl))
    (hQ : ∀ c a w, Q (.panic c) (a.put oi.dst undef) w → Q (.panic c) a w := by exact fun _ _ _ h => h) (hy : Yields P ops oi undef a := by exact Or.inr ⟨by rfl, rfl⟩)
    (ha : a.put (some n) undef = a' := by simp only [Act.put, List.setIfInBounds_toArray, List.set_cons_zero, List.set_cons_succ, i64_w, i32_w]; rfl) : wpAnyLast P md ops Q S ds (fuel + 1) l a w := pure_ _ hi hN hc hQ hy ha h
theorem on_ {P : Program} {md : Region.Mode} {ops : Array Oper} {Q : Exit → Act → World → Prop} {S : World → Prop} {ds : List Nat} (i : Nat) (n : Tmp) {oi : Oper} {fuel : Nat} {l : Array Bool} {a : Act} {w : World}
    (h : ∀ K : Act → World → Prop, Shut (∀ a' w', S w' → (S w' → wpAnyLast P md ops Q S ds fuel (l.setIfInBounds i true) a' w') → K a' w') → if Region.wanted oi (yielded ops a.tmps) = true then Oper.wp P oi a w K Q else K (a.put (some n) undef) w)
    (hi : ops[i]? = some oi := by exact rfl) (hN : oi.dst = some n := by exact rfl) (hc : readyB md ops l (l.setIfInBounds i true) i = true := by exact one_of HT_.out (by kernel_rfl)) (hd : i ∉ ds := by decide) : wpAnyLast P md ops Q S ds (fuel + 1) l a w := one_ _ hi hN hc hd h
theorem no_ {P : Program} {md : Region.Mode} {ops : Array Oper} {Q : Exit → Act → World → Prop} {S : World → Prop} {ds : List Nat} {fuel : Nat} {l : Array Bool} {a a' : Act} {w : World} (h : wpAnyLast P md ops Q S ds fuel l a' w)
    (ha : a = a' := by show Act.put _ _ _ = _; simp only [Act.put, List.setIfInBounds_toArray, List.set_cons_zero, List.set_cons_succ, i64_w, i32_w]; rfl) : wpAnyLast P md ops Q S ds fuel l a w := norm_ ha h
theorem ta5_ {P : Program} {md : Region.Mode} {ops : Array Oper} {Q : Exit → Act → World → Prop} {S : World → Prop} {ds : List Nat} (i : Nat) (n : Tmp) {oi : Oper} {v : Value} {fuel : Nat} {l : Array Bool} {a : Act} {w : World} {a' : Act} (hS : S w)
    (h : wpAnyLast P md ops Q S ds fuel (l.setIfInBounds i true) a' w) (hi : ops[i]? = some oi := by exact rfl) (hN : oi.dst = some n := by exact rfl) (hc : takeB md ops ds l (l.setIfInBounds i true) i = true := by exact take_ofW HT_.out HW_.out (by kernel_rfl))
    (hQ : ∀ c a w, Q (.panic c) (a.put oi.dst v) w → Q (.panic c) a w := by exact fun _ _ _ h => h) (hy : YieldsIf P ops S oi v a := by exact Or.inl ⟨by rfl, by rintro w' ⟨s0, s1, s2, s3, s4⟩; go_simp; with_reducible rfl⟩)
    (ha : a.put (some n) v = a' := by simp only [Act.put, List.setIfInBounds_toArray, List.set_cons_zero, List.set_cons_succ, i64_w, i32_w]; rfl) : wpAnyLast P md ops Q S ds (fuel + 1) l a w := take_ _ hi hN hc hQ hy hS ha h
theorem ta6_ {P : Program} {md : Region.Mode} {ops : Array Oper} {Q : Exit → Act → World → Prop} {S : World → Prop} {ds : List Nat} (i : Nat) (n : Tmp) {oi : Oper} {v : Value} {fuel : Nat} {l : Array Bool} {a : Act} {w : World} {a' : Act} (hS : S w)
    (h : wpAnyLast P md ops Q S ds fuel (l.setIfInBounds i true) a' w) (hi : ops[i]? = some oi := by exact rfl) (hN : oi.dst = some n := by exact rfl) (hc : takeB md ops ds l (l.setIfInBounds i true) i = true := by exact take_ofW HT_.out HW_.out (by kernel_rfl))
    (hQ : ∀ c a w, Q (.panic c) (a.put oi.dst v) w → Q (.panic c) a w := by exact fun _ _ _ h => h) (hy : YieldsIf P ops S oi v a := by exact Or.inl ⟨by rfl, by rintro w' ⟨s0, s1, s2, s3, s4, s5⟩; go_simp; with_reducible rfl⟩)
    (ha : a.put (some n) v = a' := by simp only [Act.put, List.setIfInBounds_toArray, List.set_cons_zero, List.set_cons_succ, i64_w, i32_w]; rfl) : wpAnyLast P md ops Q S ds (fuel + 1) l a w := take_ _ hi hN hc hQ hy hS ha h
theorem ta7_ {P : Program} {md : Region.Mode} {ops : Array Oper} {Q : Exit → Act → World → Prop} {S : World → Prop} {ds : List Nat} (i : Nat) (n : Tmp) {oi : Oper} {v : Value} {fuel : Nat} {l : Array Bool} {a : Act} {w : World} {a' : Act} (hS : S w)
    (h : wpAnyLast P md ops Q S ds fuel (l.setIfInBounds i true) a' w) (hi : ops[i]? = some oi := by exact rfl) (hN : oi.dst = some n := by exact rfl) (hc : takeB md ops ds l (l.setIfInBounds i true) i = true := by exact take_ofW HT_.out HW_.out (by kernel_rfl))
    (hQ : ∀ c a w, Q (.panic c) (a.put oi.dst v) w → Q (.panic c) a w := by exact fun _ _ _ h => h) (hy : YieldsIf P ops S oi v a := by exact Or.inl ⟨by rfl, by rintro w' ⟨s0, s1, s2, s3, s4, s5, s6⟩; go_simp; with_reducible rfl⟩)
    (ha : a.put (some n) v = a' := by simp only [Act.put, List.setIfInBounds_toArray, List.set_cons_zero, List.set_cons_succ, i64_w, i32_w]; rfl) : wpAnyLast P md ops Q S ds (fuel + 1) l a w := take_ _ hi hN hc hQ hy hS ha h
theorem ta21_ {P : Program} {md : Region.Mode} {ops : Array Oper} {Q : Exit → Act → World → Prop} {S : World → Prop} {ds : List Nat} (i : Nat) (n : Tmp) {oi : Oper} {v : Value} {fuel : Nat} {l : Array Bool} {a : Act} {w : World} {a' : Act} (hS : S w)
    (h : wpAnyLast P md ops Q S ds fuel (l.setIfInBounds i true) a' w) (hi : ops[i]? = some oi := by exact rfl) (hN : oi.dst = some n := by exact rfl) (hc : takeB md ops ds l (l.setIfInBounds i true) i = true := by exact take_ofW HT_.out HW_.out (by kernel_rfl))
    (hQ : ∀ c a w, Q (.panic c) (a.put oi.dst v) w → Q (.panic c) a w := by exact fun _ _ _ h => h) (hy : YieldsIf P ops S oi v a := by exact Or.inl ⟨by rfl, by rintro w' ⟨s0, s1, s2, s3, s4, s5, s6, s7, s8, s9, s10, s11, s12, s13, s14, s15, s16, s17, s18, s19, s20⟩; go_simp; with_reducible rfl⟩)
    (ha : a.put (some n) v = a' := by simp only [Act.put, List.setIfInBounds_toArray, List.set_cons_zero, List.set_cons_succ, i64_w, i32_w]; rfl) : wpAnyLast P md ops Q S ds (fuel + 1) l a w := take_ _ hi hN hc hQ hy hS ha h
end Go.Proofs.YtnclcbjagleoeaaDoor.P
namespace Go.Proofs.YtnclcbjagleoeaaDoor.P
open Go.RowKit Go.Proofs.YtnclcbjagleoeaaDoorW.PrintWords Go.Proofs.YtnclcbjagleoeaaDoorW.PrintLast
set_option linter.unusedVariables false
set_option linter.unusedSimpArgs false
def errW : Option Int → Value
 | none => .nilIface
 | some c => .iface 0 (.int .i64 c)
theorem errW_none : errW none = .nilIface := rfl
theorem errW_some (c : Int) : errW (some c) = .iface 0 (.int .i64 c) := rfl

theorem info3 : (Tryd.prog.info? 3).map (fun i => (i.zero, i.size, i.bytes)) = some (some (.int .i64 0), 1, 8) := by kernel_rfl
theorem info5 : (Tryd.prog.info? 5).map (fun i => (i.zero, i.size, i.bytes)) = some (some (.int .u8 0), 1, 1) := by kernel_rfl
theorem info56 : (Tryd.prog.info? 56).map (fun i => (i.zero, i.size, i.bytes)) = some (some (.agg #[(.int .i64 0), (.int .i64 0), (.int .i64 0), (.int .i64 0), (.int .i64 0), (.int .i64 0), (.string ⟨#[]⟩)]), 7, 64) := by kernel_rfl
theorem info120 : (Tryd.prog.info? 120).map (fun i => (i.zero, i.size, i.bytes)) = some (some (.agg #[(.int .i64 0), (.int .i64 0), (.string ⟨#[]⟩)]), 3, 32) := by kernel_rfl
structure S54 where
 f0 : Int
 f1 : Int
 f2 : Int
 f3 : Int
 f4 : ByteArray
def z54 : S54 := ⟨(0 : Int), (0 : Int), (0 : Int), (0 : Int), (⟨#[]⟩ : ByteArray)⟩
def k54 : Kd S54 := Kd.iso (Kd.pair (Kd.int .i64) (Kd.pair (Kd.int .i64) (Kd.pair (Kd.int .i64) (Kd.pair (Kd.int .i64) Kd.string)))) (fun x : S54 => (x.f0, x.f1, x.f2, x.f3, x.f4))
theorem k54_open {w : World} {x : S54} {cs : List Value} (h : k54.K w x cs) : cs = [.int .i64 x.f0, .int .i64 x.f1, .int .i64 x.f2, .int .i64 x.f3, .string x.f4] := by
 obtain ⟨_, _, rfl, rfl, ⟨_, _, rfl, rfl, ⟨_, _, rfl, rfl, ⟨_, _, rfl, rfl, rfl⟩⟩⟩⟩ := h
 exact rfl
theorem k54_openM {w : World} {base : Nat} {ok : Nat → Prop} {x : S54} {cs : List Value} (h : k54.M w base ok x cs) : cs = [.int .i64 x.f0, .int .i64 x.f1, .int .i64 x.f2, .int .i64 x.f3, .string x.f4] := by
 obtain ⟨_, _, rfl, rfl, ⟨_, _, rfl, rfl, ⟨_, _, rfl, rfl, ⟨_, _, rfl, rfl, rfl⟩⟩⟩⟩ := h
 exact rfl
theorem k54_mkM (w : World) (base : Nat) (ok : Nat → Prop) (x : S54)  : k54.M w base ok x [.int .i64 x.f0, .int .i64 x.f1, .int .i64 x.f2, .int .i64 x.f3, .string x.f4] := ⟨[.int .i64 x.f0], [.int .i64 x.f1, .int .i64 x.f2, .int .i64 x.f3, .string x.f4], rfl, rfl, ⟨[.int .i64 x.f1], [.int .i64 x.f2, .int .i64 x.f3, .string x.f4], rfl, rfl, ⟨[.int .i64 x.f2], [.int .i64 x.f3, .string x.f4], rfl, rfl, ⟨[.int .i64 x.f3], [.string x.f4], rfl, rfl, rfl⟩⟩⟩⟩
structure S56 where
 f0 : Int
 f1 : Int
 f2 : S54
def z56 : S56 := ⟨(0 : Int), (0 : Int), z54⟩
def k56 : Kd S56 := Kd.iso (Kd.pair (Kd.int .i64) (Kd.pair (Kd.int .i64) k54)) (fun x : S56 => (x.f0, x.f1, x.f2))
theorem k56_open {w : World} {x : S56} {cs : List Value} (h : k56.K w x cs) : cs = [.int .i64 x.f0, .int .i64 x.f1, .int .i64 x.f2.f0, .int .i64 x.f2.f1, .int .i64 x.f2.f2, .int .i64 x.f2.f3, .string x.f2.f4] := by
 obtain ⟨_, _, rfl, rfl, ⟨_, _, rfl, rfl, s2⟩⟩ := h
 obtain rfl := k54_open s2
 exact rfl
theorem k56_openM {w : World} {base : Nat} {ok : Nat → Prop} {x : S56} {cs : List Value} (h : k56.M w base ok x cs) : cs = [.int .i64 x.f0, .int .i64 x.f1, .int .i64 x.f2.f0, .int .i64 x.f2.f1, .int .i64 x.f2.f2, .int .i64 x.f2.f3, .string x.f2.f4] := by
 obtain ⟨_, _, rfl, rfl, ⟨_, _, rfl, rfl, s2⟩⟩ := h
 obtain rfl := k54_openM s2
 exact rfl
theorem k56_mkM (w : World) (base : Nat) (ok : Nat → Prop) (x : S56)  : k56.M w base ok x [.int .i64 x.f0, .int .i64 x.f1, .int .i64 x.f2.f0, .int .i64 x.f2.f1, .int .i64 x.f2.f2, .int .i64 x.f2.f3, .string x.f2.f4] := ⟨[.int .i64 x.f0], [.int .i64 x.f1, .int .i64 x.f2.f0, .int .i64 x.f2.f1, .int .i64 x.f2.f2, .int .i64 x.f2.f3, .string x.f2.f4], rfl, rfl, ⟨[.int .i64 x.f1], [.int .i64 x.f2.f0, .int .i64 x.f2.f1, .int .i64 x.f2.f2, .int .i64 x.f2.f3, .string x.f2.f4], rfl, rfl, (k54_mkM w base ok x.f2 )⟩⟩
def rd_T56 (xs : List S56) (i : Int) : S56 := xs.getD i.toNat z56
theorem at_T56 {w : World} {A : Option Addr} {n : Nat} {xs : List S56} (h : Kd.C k56 w A n xs) (i : Int) (h0 : 0 ≤ i) (h1 : i < n) : ∃ ad , A = some ad ∧ w.cell? (ad.add (i.toNat * 7)) = some (.int .i64 (rd_T56 xs i).f0) ∧ w.cell? ⟨(ad.add (i.toNat * 7)).block, (ad.add (i.toNat * 7)).off + 1, none⟩ = some (.int .i64 (rd_T56 xs i).f1) ∧ w.cell? ⟨(ad.add (i.toNat * 7)).block, (ad.add (i.toNat * 7)).off + 2, none⟩ = some (.int .i64 (rd_T56 xs i).f2.f0) ∧ w.cell? ⟨(ad.add (i.toNat * 7)).block, (ad.add (i.toNat * 7)).off + 3, none⟩ = some (.int .i64 (rd_T56 xs i).f2.f1) ∧ w.cell? ⟨(ad.add (i.toNat * 7)).block, (ad.add (i.toNat * 7)).off + 4, none⟩ = some (.int .i64 (rd_T56 xs i).f2.f2) ∧ w.cell? ⟨(ad.add (i.toNat * 7)).block, (ad.add (i.toNat * 7)).off + 5, none⟩ = some (.int .i64 (rd_T56 xs i).f2.f3) ∧ w.cell? ⟨(ad.add (i.toNat * 7)).block, (ad.add (i.toNat * 7)).off + 6, none⟩ = some (.string (rd_T56 xs i).f2.f4) := by
 obtain ⟨ad, c, e, _, hK, hc0⟩ := Kd.C_get h z56 i h0 h1
 have hc : ∀ j u, c[j]? = some u → w.cell? (ad.add (i.toNat * 7 + j)) = some u := hc0
 obtain rfl := k56_open hK
 exact ⟨ad, e, hc 0 _ rfl, by rw [← add_field _ _ 1 (by omega)]; exact hc 1 _ rfl, by rw [← add_field _ _ 2 (by omega)]; exact hc 2 _ rfl, by rw [← add_field _ _ 3 (by omega)]; exact hc 3 _ rfl, by rw [← add_field _ _ 4 (by omega)]; exact hc 4 _ rfl, by rw [← add_field _ _ 5 (by omega)]; exact hc 5 _ rfl, by rw [← add_field _ _ 6 (by omega)]; exact hc 6 _ rfl⟩

structure S120 where
 f0 : Int
 f1 : Int
 f2 : ByteArray
def z120 : S120 := ⟨(0 : Int), (0 : Int), (⟨#[]⟩ : ByteArray)⟩
def k120 : Kd S120 := Kd.iso (Kd.pair (Kd.int .i64) (Kd.pair (Kd.int .i64) Kd.string)) (fun x : S120 => (x.f0, x.f1, x.f2))
theorem k120_open {w : World} {x : S120} {cs : List Value} (h : k120.K w x cs) : cs = [.int .i64 x.f0, .int .i64 x.f1, .string x.f2] := by
 obtain ⟨_, _, rfl, rfl, ⟨_, _, rfl, rfl, rfl⟩⟩ := h
 exact rfl
theorem k120_openM {w : World} {base : Nat} {ok : Nat → Prop} {x : S120} {cs : List Value} (h : k120.M w base ok x cs) : cs = [.int .i64 x.f0, .int .i64 x.f1, .string x.f2] := by
 obtain ⟨_, _, rfl, rfl, ⟨_, _, rfl, rfl, rfl⟩⟩ := h
 exact rfl
theorem k120_mkM (w : World) (base : Nat) (ok : Nat → Prop) (x : S120)  : k120.M w base ok x [.int .i64 x.f0, .int .i64 x.f1, .string x.f2] := ⟨[.int .i64 x.f0], [.int .i64 x.f1, .string x.f2], rfl, rfl, ⟨[.int .i64 x.f1], [.string x.f2], rfl, rfl, rfl⟩⟩
def rd_T120 (xs : List S120) (i : Int) : S120 := xs.getD i.toNat z120
theorem at_T120 {w : World} {A : Option Addr} {n : Nat} {xs : List S120} (h : Kd.C k120 w A n xs) (i : Int) (h0 : 0 ≤ i) (h1 : i < n) : ∃ ad , A = some ad ∧ w.cell? (ad.add (i.toNat * 3)) = some (.int .i64 (rd_T120 xs i).f0) ∧ w.cell? ⟨(ad.add (i.toNat * 3)).block, (ad.add (i.toNat * 3)).off + 1, none⟩ = some (.int .i64 (rd_T120 xs i).f1) ∧ w.cell? ⟨(ad.add (i.toNat * 3)).block, (ad.add (i.toNat * 3)).off + 2, none⟩ = some (.string (rd_T120 xs i).f2) := by
 obtain ⟨ad, c, e, _, hK, hc0⟩ := Kd.C_get h z120 i h0 h1
 have hc : ∀ j u, c[j]? = some u → w.cell? (ad.add (i.toNat * 3 + j)) = some u := hc0
 obtain rfl := k120_open hK
 exact ⟨ad, e, hc 0 _ rfl, by rw [← add_field _ _ 1 (by omega)]; exact hc 1 _ rfl, by rw [← add_field _ _ 2 (by omega)]; exact hc 2 _ rfl⟩

end Go.Proofs.YtnclcbjagleoeaaDoor.P
namespace Go.Proofs.YtnclcbjagleoeaaDoor.P
open Go.RowKit Go.Proofs.YtnclcbjagleoeaaDoorW.PrintWords Go.Proofs.YtnclcbjagleoeaaDoorW.PrintLast
set_option linter.unusedVariables false
set_option linter.unusedSimpArgs false
def spec_l6In.f (a0 : Int) (a1 : Int) (a2 : Int) : Option (Bool) := if a0 ≥ a1 then (some (decide (a0 ≤ a2))) else (some false)
set_option maxHeartbeats 8000000 in
set_option maxRecDepth 100000 in
theorem spec_l6In.calls (a0 : Int) (a1 : Int) (a2 : Int) (r : Bool) (w : World) (h : spec_l6In.f a0 a1 a2 = some r) :
  Calls Tryd.prog 49 #[.int .i64 a0, .int .i64 a1, .int .i64 a2] w fun e w' => e = .returned (.bool r) ∧ Drawn0 w w' := by
 have H : (if a0 ≥ a1 then (some (decide (a0 ≤ a2))) else (some false)) = some r := h
 clear h
 by_cases c4 : a0 ≥ a1
 ·rw [if_pos c4] at H
  have c4b0 : decide (a1 ≤ a0) = true := decide_eq_true c4
  clear c4
  obtain rfl := Option.some.inj H
  go_enter Tryd.func49, Tryd.ntmps49
  go_wp2
  go_ret
  exact ⟨si_, by repeat (first | exact Drawn0.refl _ | apply Drawn0.step)⟩
 ·rw [if_neg c4] at H
  have c4b0 : decide (a1 ≤ a0) = false := decide_eq_false c4
  clear c4
  obtain rfl := Option.some.inj H
  go_enter Tryd.func49, Tryd.ntmps49
  go_wp2
  go_ret
  exact ⟨si_, by repeat (first | exact Drawn0.refl _ | apply Drawn0.step)⟩

def spec_l1Made.f (a0 : Int) : Option (Bool) := (spec_l6In.f (wrap64 (Int.tdiv a0 10)) 1 3).bind fun t108 => (if t108 = true then ((spec_l6In.f (Int.tmod a0 10) 1 6).bind fun t109 => (some t109)) else (some false))
set_option maxHeartbeats 8000000 in
set_option maxRecDepth 100000 in
theorem spec_l1Made.calls (a0 : Int) (r : Bool) (w : World) (h : spec_l1Made.f a0 = some r) :
  Calls Tryd.prog 83 #[.int .i64 a0] w fun e w' => e = .returned (.bool r) ∧ Drawn0 w w' := by
 have H : ((spec_l6In.f (wrap64 (Int.tdiv a0 10)) 1 3).bind fun t108 => (if t108 = true then ((spec_l6In.f (Int.tmod a0 10) 1 6).bind fun t109 => (some t109)) else (some false))) = some r := h
 clear h
 replace H := Option.bind_eq_some_iff.mp H
 obtain ⟨t108, A20, H⟩ := H
 replace H : (if t108 = true then ((spec_l6In.f (Int.tmod a0 10) 1 6).bind fun t109 => (some t109)) else (some false)) = some r := H
 have A2 := Aside0.mk A20
 clear A20
 by_cases c3 : t108 = true
 ·subst c3
  have H1 : ((spec_l6In.f (Int.tmod a0 10) 1 6).bind fun t109 => (some t109)) = some r := by rw [if_pos rfl] at H; exact H
  clear H
  have H := H1
  clear H1
  replace H := Option.bind_eq_some_iff.mp H
  obtain ⟨t109, A40, H⟩ := H
  replace H : (some t109) = some r := H
  have A4 := Aside0.mk A40
  clear A40
  obtain rfl := Option.some.inj H
  go_enter Tryd.func83, Tryd.ntmps83
  go_wp2_with (first | ((with_reducible refine gate_callee (f := 49) rfl ?_); refine gl_ 5 Tryd.func49 #[.int .i64 (wrap64 (Int.tdiv a0 10)), .int .i64 1, .int .i64 3] ?_; (with_reducible refine (spec_l6In.calls (wrap64 (Int.tdiv a0 10)) 1 3 true _ A2.out).mono ?_); rintro e w' ⟨rfl, ⟨nd, rfl⟩⟩; refine ⟨_, rfl, ?_⟩) | (go_at_call 49; (with_reducible refine (spec_l6In.calls (Int.tmod a0 10) 1 6 t109 _ A4.out).mono ?_); rintro e w' ⟨rfl, ⟨nd, rfl⟩⟩))
  go_ret
  exact ⟨si_, by repeat (first | exact Drawn0.refl _ | apply Drawn0.step)⟩
 ·replace c3 := Bool.eq_false_iff.mpr c3
  subst c3
  have H1 : (some false) = some r := by rw [if_neg (show ¬ (false = true) by decide)] at H; exact H
  clear H
  have H := H1
  clear H1
  obtain rfl := Option.some.inj H
  go_enter Tryd.func83, Tryd.ntmps83
  go_wp2_with (first | ((with_reducible refine gate_callee (f := 49) rfl ?_); refine gl_ 5 Tryd.func49 #[.int .i64 (wrap64 (Int.tdiv a0 10)), .int .i64 1, .int .i64 3] ?_; (with_reducible refine (spec_l6In.calls (wrap64 (Int.tdiv a0 10)) 1 3 false _ A2.out).mono ?_); rintro e w' ⟨rfl, ⟨nd, rfl⟩⟩; refine ⟨_, rfl, ?_⟩))
  go_ret
  exact ⟨si_, by repeat (first | exact Drawn0.refl _ | apply Drawn0.step)⟩

def spec_l1Text.l0 : Nat → ByteArray → Int → Option (Bool)
 | 0, _, _ => none
 | k + 1, x0, x3 => if x3 < (x0.size : Int) then (if 0 ≤ x3 then ((spec_l6In.f (wrap64 (bt x0 x3)) 97 100).bind fun t110 => (if t110 = true then (spec_l1Text.l0 k x0 (wrap64 (x3 + 1))) else (some false))) else (none)) else (some (decide ((x0.size : Int) ≤ 4)))
def spec_l1Text.f (k : Nat) (a0 : ByteArray) : Option (Bool) := spec_l1Text.l0 k a0 0
theorem spec_l1Text.mono_l : ∀ k, (∀ y0 y1, LeO (spec_l1Text.l0 k y0 y1) (spec_l1Text.l0 (k + 1) y0 y1))
 | 0 => fun _ _ r h => by simp [spec_l1Text.l0] at h
 | k + 1 => by
  have ih0 := spec_l1Text.mono_l k
  ·intro y0 y1
   unfold spec_l1Text.l0
   repeat' first
   | (with_reducible exact ih0 _ _)
   | (with_reducible exact LeO.refl _)
   | (with_reducible exact LeO.none _)
   | (with_reducible refine LeO.ite ?_ ?_)
   | (with_reducible refine LeO.bind ?_ (fun _ => ?_))
   | exact ih0 _ _
   | exact LeO.none _
   | refine LeO.ite ?_ ?_
   | refine LeO.bind ?_ (fun _ => ?_)
theorem spec_l1Text.mono : ∀ a0 k, LeO (spec_l1Text.f k a0) (spec_l1Text.f (k + 1) a0) := by
 intro a0 k
 have ih0 := spec_l1Text.mono_l k
 unfold spec_l1Text.f
 repeat' first
   | (with_reducible exact ih0 _ _)
   | (with_reducible exact LeO.refl _)
   | (with_reducible exact LeO.none _)
   | (with_reducible refine LeO.ite ?_ ?_)
   | (with_reducible refine LeO.bind ?_ (fun _ => ?_))
   | exact ih0 _ _
   | exact LeO.none _
   | refine LeO.ite ?_ ?_
   | refine LeO.bind ?_ (fun _ => ?_)
set_option maxHeartbeats 8000000 in
set_option maxRecDepth 100000 in
theorem spec_l1Text.calls (k : Nat) (a0 : ByteArray) (r : Bool) (w : World) (h : spec_l1Text.f k a0 = some r) :
  Calls Tryd.prog 84 #[.string a0] w fun e w' => e = .returned (.bool r) ∧ Drawn0 w w' := by
 have H : (spec_l1Text.l0 k a0 0) = some r := h
 clear h
 have H' := Aside0.mk H
 clear H
 go_enter Tryd.func84, Tryd.ntmps84
 go_wp2
 go_loopg [3] k (fun kq v3 w' => ∃ (x3_1 : Int), v3 = .int .i64 x3_1 ∧ Aside0 (spec_l1Text.l0 kq a0 x3_1 = some r) ∧ Aside0 (kq ≤ k) ∧ Drawn0 w w')
 case atStart => exact ⟨(0), (si_), H', ⟨Nat.le_refl _⟩, by repeat (first | exact Drawn0.refl _ | apply Drawn0.step)⟩
 case round =>
  clear H'
  obtain ⟨x3_1, rfl, HA, HK1, ⟨m1, rfl⟩⟩ := hrel
  cases gk with
  | zero => exact absurd HA.out (by simp [spec_l1Text.l0])
  | succ k1 =>
   have H := HA.out
   clear HA
   simp only [spec_l1Text.l0] at H
   by_cases c2 : x3_1 < (a0.size : Int)
   ·rw [if_pos c2] at H
    have c2b0 : decide (x3_1 < (a0.size : Int)) = true := decide_eq_true c2
    clear c2
    by_cases c3 : 0 ≤ x3_1
    ·rw [if_pos c3] at H
     have c3b0 : decide (0 ≤ x3_1) = true := decide_eq_true c3
     clear c3
     replace H := Option.bind_eq_some_iff.mp H
     obtain ⟨t110, A50, H⟩ := H
     replace H : (if t110 = true then (spec_l1Text.l0 k1 a0 (wrap64 (x3_1 + 1))) else (some false)) = some r := H
     have A5 := Aside0.mk A50
     clear A50
     by_cases c6 : t110 = true
     ·subst c6
      have H1 : (spec_l1Text.l0 k1 a0 (wrap64 (x3_1 + 1))) = some r := by rw [if_pos rfl] at H; exact H
      clear H
      have H := H1
      clear H1
      have H' := Aside0.mk H
      clear H
      have p4 : 0 ≤ (x3_1 : Int) := od_
      have q4 : x3_1 < (a0.size : Int) := od_
      have hx4 := bt_at a0 x3_1
      replace p4 := eq_true p4
      replace q4 := eq_true q4
      go_wp2_with (first | ((with_reducible refine gate_callee (f := 49) rfl ?_); refine gl_ 14 Tryd.func49 #[.int .i64 (wrap64 (bt a0 x3_1)), .int .i64 97, .int .i64 100] ?_; (with_reducible refine (spec_l6In.calls (wrap64 (bt a0 x3_1)) 97 100 true _ A5.out).mono ?_); rintro e w' ⟨rfl, ⟨nd, rfl⟩⟩; refine ⟨_, rfl, ?_⟩))
      go_roundg k1
      case measure => have := HK1.out; omega
      case rel => exact ⟨(wrap64 (x3_1 + 1)), (si_), H', ⟨by have := HK1.out; omega⟩, by repeat (first | exact Drawn0.refl _ | apply Drawn0.step)⟩
     ·replace c6 := Bool.eq_false_iff.mpr c6
      subst c6
      have H1 : (some false) = some r := by rw [if_neg (show ¬ (false = true) by decide)] at H; exact H
      clear H
      have H := H1
      clear H1
      obtain rfl := Option.some.inj H
      have p4 : 0 ≤ (x3_1 : Int) := od_
      have q4 : x3_1 < (a0.size : Int) := od_
      have hx4 := bt_at a0 x3_1
      replace p4 := eq_true p4
      replace q4 := eq_true q4
      go_wp2_with (first | ((with_reducible refine gate_callee (f := 49) rfl ?_); refine gl_ 14 Tryd.func49 #[.int .i64 (wrap64 (bt a0 x3_1)), .int .i64 97, .int .i64 100] ?_; (with_reducible refine (spec_l6In.calls (wrap64 (bt a0 x3_1)) 97 100 false _ A5.out).mono ?_); rintro e w' ⟨rfl, ⟨nd, rfl⟩⟩; refine ⟨_, rfl, ?_⟩))
      go_ret
      exact ⟨si_, by repeat (first | exact Drawn0.refl _ | apply Drawn0.step)⟩
    ·rw [if_neg c3] at H
     exact absurd H (by simp)
   ·rw [if_neg c2] at H
    have c2b0 : decide (x3_1 < (a0.size : Int)) = false := decide_eq_false c2
    clear c2
    obtain rfl := Option.some.inj H
    go_wp2
    go_ret
    exact ⟨si_, by repeat (first | exact Drawn0.refl _ | apply Drawn0.step)⟩

def spec_l1Root.f (a0 : Int) : Option (Bool) := (spec_l6In.f a0 1 3).bind fun t111 => (some t111)
set_option maxHeartbeats 8000000 in
set_option maxRecDepth 100000 in
theorem spec_l1Root.calls (a0 : Int) (r : Bool) (w : World) (h : spec_l1Root.f a0 = some r) :
  Calls Tryd.prog 93 #[.int .i64 a0] w fun e w' => e = .returned (.bool r) ∧ Drawn0 w w' := by
 have H : ((spec_l6In.f a0 1 3).bind fun t111 => (some t111)) = some r := h
 clear h
 replace H := Option.bind_eq_some_iff.mp H
 obtain ⟨t111, A20, H⟩ := H
 replace H : (some t111) = some r := H
 have A2 := Aside0.mk A20
 clear A20
 obtain rfl := Option.some.inj H
 go_enter Tryd.func93, Tryd.ntmps93
 go_wp2_with (first | ((with_reducible refine gate_callee (f := 49) rfl ?_); refine gl_ 4 Tryd.func49 #[.int .i64 a0, .int .i64 1, .int .i64 3] ?_; (with_reducible refine (spec_l6In.calls a0 1 3 t111 _ A2.out).mono ?_); rintro e w' ⟨rfl, ⟨nd, rfl⟩⟩; refine ⟨_, rfl, ?_⟩))
 go_ret
 exact ⟨si_, by repeat (first | exact Drawn0.refl _ | apply Drawn0.step)⟩

def spec_l3Id.f (a0 : Int) : Option (Bool) := (spec_l1Root.f a0).bind fun t112 => (if t112 = true then (some true) else ((spec_l1Made.f a0).bind fun t113 => (some t113)))
set_option maxHeartbeats 8000000 in
set_option maxRecDepth 100000 in
theorem spec_l3Id.calls (a0 : Int) (r : Bool) (w : World) (h : spec_l3Id.f a0 = some r) :
  Calls Tryd.prog 85 #[.int .i64 a0] w fun e w' => e = .returned (.bool r) ∧ Drawn0 w w' := by
 have H : ((spec_l1Root.f a0).bind fun t112 => (if t112 = true then (some true) else ((spec_l1Made.f a0).bind fun t113 => (some t113)))) = some r := h
 clear h
 replace H := Option.bind_eq_some_iff.mp H
 obtain ⟨t112, A20, H⟩ := H
 replace H : (if t112 = true then (some true) else ((spec_l1Made.f a0).bind fun t113 => (some t113))) = some r := H
 have A2 := Aside0.mk A20
 clear A20
 by_cases c3 : t112 = true
 ·subst c3
  have H1 : (some true) = some r := by rw [if_pos rfl] at H; exact H
  clear H
  have H := H1
  clear H1
  obtain rfl := Option.some.inj H
  go_enter Tryd.func85, Tryd.ntmps85
  go_wp2_with (first | ((with_reducible refine gate_callee (f := 93) rfl ?_); refine gl_ 4 Tryd.func93 #[.int .i64 a0] ?_; (with_reducible refine (spec_l1Root.calls a0 true _ A2.out).mono ?_); rintro e w' ⟨rfl, ⟨nd, rfl⟩⟩; refine ⟨_, rfl, ?_⟩))
  go_ret
  exact ⟨si_, by repeat (first | exact Drawn0.refl _ | apply Drawn0.step)⟩
 ·replace c3 := Bool.eq_false_iff.mpr c3
  subst c3
  have H1 : ((spec_l1Made.f a0).bind fun t113 => (some t113)) = some r := by rw [if_neg (show ¬ (false = true) by decide)] at H; exact H
  clear H
  have H := H1
  clear H1
  replace H := Option.bind_eq_some_iff.mp H
  obtain ⟨t113, A40, H⟩ := H
  replace H : (some t113) = some r := H
  have A4 := Aside0.mk A40
  clear A40
  obtain rfl := Option.some.inj H
  go_enter Tryd.func85, Tryd.ntmps85
  go_wp2_with (first | ((with_reducible refine gate_callee (f := 93) rfl ?_); refine gl_ 4 Tryd.func93 #[.int .i64 a0] ?_; (with_reducible refine (spec_l1Root.calls a0 false _ A2.out).mono ?_); rintro e w' ⟨rfl, ⟨nd, rfl⟩⟩; refine ⟨_, rfl, ?_⟩) | (go_at_call 83; (with_reducible refine (spec_l1Made.calls a0 t113 _ A4.out).mono ?_); rintro e w' ⟨rfl, ⟨nd, rfl⟩⟩))
  go_ret
  exact ⟨si_, by repeat (first | exact Drawn0.refl _ | apply Drawn0.step)⟩

def spec_OpOk.j0 : Nat → Bool → Int → Int → Int → Int → ByteArray → Option (Bool)
 | 0, _, _, _, _, _, _ => none
 | k + 1, x12, x115000, x115001, x115002, x115003, x115004 => if x12 = true then (some false) else (if x115000 = 1 then ((spec_l3Id.f x115002).bind fun t117 => (if t117 = true then (if x115003 = 0 then (some true) else ((spec_l1Made.f x115003).bind fun t118 => (some t118))) else (some false))) else (if x115000 = 2 then (if x115002 = 0 then (some (x115003 == 0)) else (some false)) else (if x115000 = 3 then ((spec_l3Id.f x115002).bind fun t119 => (if t119 = true then (if x115003 = 0 then (some (x115004.toList == ([] : List UInt8))) else ((spec_l1Made.f x115003).bind fun t120 => (if t120 = true then (some (x115004.toList == ([] : List UInt8))) else (some false)))) else (some false))) else (some false))))
def spec_OpOk.f (k : Nat) (a0_0 : Int) (a0_1 : Int) (a0_2 : Int) (a0_3 : Int) (a0_4 : ByteArray) : Option (Bool) := (spec_l1Made.f a0_1).bind fun t115 => (if t115 = true then ((spec_l1Text.f k a0_4).bind fun t116 => (spec_OpOk.j0 k (!t116) a0_0 a0_1 a0_2 a0_3 a0_4)) else (spec_OpOk.j0 k true a0_0 a0_1 a0_2 a0_3 a0_4))
theorem spec_OpOk.mono_l : ∀ k, (∀ y0 y1 y2 y3 y4 y5, LeO (spec_OpOk.j0 k y0 y1 y2 y3 y4 y5) (spec_OpOk.j0 (k + 1) y0 y1 y2 y3 y4 y5))
 | 0 => fun _ _ _ _ _ _ r h => by simp [spec_OpOk.j0] at h
 | k + 1 => by
  have ih0 := spec_OpOk.mono_l k
  ·intro y0 y1 y2 y3 y4 y5
   unfold spec_OpOk.j0
   repeat' first
   | (with_reducible exact ih0 _ _ _ _ _ _)
   | (with_reducible exact spec_l1Text.mono _ _)
   | (with_reducible exact LeO.refl _)
   | (with_reducible exact LeO.none _)
   | (with_reducible refine LeO.ite ?_ ?_)
   | (with_reducible refine LeO.bind ?_ (fun _ => ?_))
   | exact ih0 _ _ _ _ _ _
   | exact spec_l1Text.mono _ _
   | exact LeO.none _
   | refine LeO.ite ?_ ?_
   | refine LeO.bind ?_ (fun _ => ?_)
theorem spec_OpOk.mono : ∀ a0 a1 a2 a3 a4 k, LeO (spec_OpOk.f k a0 a1 a2 a3 a4) (spec_OpOk.f (k + 1) a0 a1 a2 a3 a4) := by
 intro a0 a1 a2 a3 a4 k
 have ih0 := spec_OpOk.mono_l k
 unfold spec_OpOk.f
 repeat' first
   | (with_reducible exact ih0 _ _ _ _ _ _)
   | (with_reducible exact spec_l1Text.mono _ _)
   | (with_reducible exact LeO.refl _)
   | (with_reducible exact LeO.none _)
   | (with_reducible refine LeO.ite ?_ ?_)
   | (with_reducible refine LeO.bind ?_ (fun _ => ?_))
   | exact ih0 _ _ _ _ _ _
   | exact spec_l1Text.mono _ _
   | exact LeO.none _
   | refine LeO.ite ?_ ?_
   | refine LeO.bind ?_ (fun _ => ?_)
set_option maxHeartbeats 8000000 in
set_option maxRecDepth 100000 in
theorem spec_OpOk.calls (k : Nat) (a0_0 : Int) (a0_1 : Int) (a0_2 : Int) (a0_3 : Int) (a0_4 : ByteArray) (r : Bool) (w : World) (h : spec_OpOk.f k a0_0 a0_1 a0_2 a0_3 a0_4 = some r) :
  Calls Tryd.prog 70 #[.agg #[.int .i64 a0_0, .int .i64 a0_1, .int .i64 a0_2, .int .i64 a0_3, .string a0_4]] w fun e w' => e = .returned (.bool r) ∧ Below w.heap.size w w' := by
 have hu54 := Tryd.underlying54
 have HB := Aside0.mk (Below.refl w.heap.size w)
 have H : ((spec_l1Made.f a0_1).bind fun t115 => (if t115 = true then ((spec_l1Text.f k a0_4).bind fun t116 => (spec_OpOk.j0 k (!t116) a0_0 a0_1 a0_2 a0_3 a0_4)) else (spec_OpOk.j0 k true a0_0 a0_1 a0_2 a0_3 a0_4))) = some r := h
 clear h
 have HC2 := Aside0.mk H
 clear H
 go_enter Tryd.func70, Tryd.ntmps70
 go_upto_region 1 with (first | ((with_reducible refine gate_dst (N := 1) rfl ?_); refine box_event ?hg (N := 1) ?hd (cs := #[.int .i64 a0_0, .int .i64 a0_1, .int .i64 a0_2, .int .i64 a0_3, .string a0_4]) (t := 54) ?hr ?_; (case hd => rfl); (case hg => rfl); (case hr => first | (go_simp; done) | (go_simp; rfl)); intro gb114 hg w3 hbox hb; have n0_ := Aside0.mk (below_step (bel_) hb); have n1_ := Aside0.mk (hbox); have n2_ := Aside0.mk ((by rw [hg]; exact (below_size (bel_)) : w.heap.size ≤ gb114)); have n3_ := Aside0.mk ((by rw [hg]; exact (below_size (bel_)) : w.heap.size ≤ gb114)); clear HB; have HB := n0_; have BK114 := n1_; have GW114 := n2_; have GE114 := n3_; clear n0_ n1_ n2_ n3_; clear hb hbox hg))
 (try simp only [Act.put, List.setIfInBounds_toArray, List.set_cons_zero, List.set_cons_succ])
 go_cut [12] (fun v12 wc => ∃ (kq : Nat) (x12_1 : Bool), v12 = .bool x12_1 ∧ Aside0 (spec_OpOk.j0 kq x12_1 a0_0 a0_1 a0_2 a0_3 a0_4 = some r) ∧ Aside0 (kq ≤ k) ∧ Aside0 (wc.heap[gb114]? = some (.cells #[.int .i64 a0_0, .int .i64 a0_1, .int .i64 a0_2, .int .i64 a0_3, .string a0_4] 54 (0, 0))) ∧ Aside0 (Below w.heap.size w wc))
 case first =>
  have H := HC2.out
  clear HC2
  replace H := Option.bind_eq_some_iff.mp H
  obtain ⟨t115, A40, H⟩ := H
  replace H : (if t115 = true then ((spec_l1Text.f k a0_4).bind fun t116 => (spec_OpOk.j0 k (!t116) a0_0 a0_1 a0_2 a0_3 a0_4)) else (spec_OpOk.j0 k true a0_0 a0_1 a0_2 a0_3 a0_4)) = some r := H
  have A4 := Aside0.mk A40
  clear A40
  by_cases c5 : t115 = true
  ·subst c5
   have H1 : ((spec_l1Text.f k a0_4).bind fun t116 => (spec_OpOk.j0 k (!t116) a0_0 a0_1 a0_2 a0_3 a0_4)) = some r := by rw [if_pos rfl] at H; exact H
   clear H
   have H := H1
   clear H1
   replace H := Option.bind_eq_some_iff.mp H
   obtain ⟨t116, A60, H⟩ := H
   replace H : (spec_OpOk.j0 k (!t116) a0_0 a0_1 a0_2 a0_3 a0_4) = some r := H
   have A6 := Aside0.mk A60
   clear A60
   have H' := Aside0.mk H
   clear H
   have hcz7_0 : w3.cell? ⟨gb114, 0, none⟩ = some (.int .i64 a0_0) := (blk_cell BK114.out 0).trans rfl
   have hcz7_1 : w3.cell? ⟨gb114, 1, none⟩ = some (.int .i64 a0_1) := (blk_cell BK114.out 1).trans rfl
   have hcz7_2 : w3.cell? ⟨gb114, 2, none⟩ = some (.int .i64 a0_2) := (blk_cell BK114.out 2).trans rfl
   have hcz7_3 : w3.cell? ⟨gb114, 3, none⟩ = some (.int .i64 a0_3) := (blk_cell BK114.out 3).trans rfl
   have hcz7_4 : w3.cell? ⟨gb114, 4, none⟩ = some (.string a0_4) := (blk_cell BK114.out 4).trans rfl
   have hfz7_0 := blk_frozen BK114.out 0
   have hfz7_1 := blk_frozen BK114.out 1
   have hfz7_2 := blk_frozen BK114.out 2
   have hfz7_3 := blk_frozen BK114.out 3
   have hfz7_4 := blk_frozen BK114.out 4
   go_wp2_with (first | ((with_reducible refine gate_callee (f := 83) rfl ?_); refine gl_ 5 Tryd.func83 #[.int .i64 a0_1] ?_; (with_reducible refine (spec_l1Made.calls a0_1 true _ A4.out).mono ?_); rintro e w' ⟨rfl, ⟨nd, rfl⟩⟩; refine ⟨_, rfl, ?_⟩) | (go_at_call 84; (with_reducible refine (spec_l1Text.calls k a0_4 t116 _ A6.out).mono ?_); rintro e w' ⟨rfl, ⟨nd, rfl⟩⟩))
   go_meet
   case rel => exact ⟨_, (!t116), (si_), H', ⟨by first | omega | exact Nat.le_refl _⟩, ⟨by (with_reducible repeat (first | refine blk_drewN ?_ _ | refine blk_drew ?_ | refine blk_alloc ?_ _)); exact BK114.out⟩, ⟨bel_⟩⟩
  ·replace c5 := Bool.eq_false_iff.mpr c5
   subst c5
   have H1 : (spec_OpOk.j0 k true a0_0 a0_1 a0_2 a0_3 a0_4) = some r := by rw [if_neg (show ¬ (false = true) by decide)] at H; exact H
   clear H
   have H := H1
   clear H1
   have H' := Aside0.mk H
   clear H
   have hcz8_0 : w3.cell? ⟨gb114, 0, none⟩ = some (.int .i64 a0_0) := (blk_cell BK114.out 0).trans rfl
   have hcz8_1 : w3.cell? ⟨gb114, 1, none⟩ = some (.int .i64 a0_1) := (blk_cell BK114.out 1).trans rfl
   have hcz8_2 : w3.cell? ⟨gb114, 2, none⟩ = some (.int .i64 a0_2) := (blk_cell BK114.out 2).trans rfl
   have hcz8_3 : w3.cell? ⟨gb114, 3, none⟩ = some (.int .i64 a0_3) := (blk_cell BK114.out 3).trans rfl
   have hcz8_4 : w3.cell? ⟨gb114, 4, none⟩ = some (.string a0_4) := (blk_cell BK114.out 4).trans rfl
   have hfz8_0 := blk_frozen BK114.out 0
   have hfz8_1 := blk_frozen BK114.out 1
   have hfz8_2 := blk_frozen BK114.out 2
   have hfz8_3 := blk_frozen BK114.out 3
   have hfz8_4 := blk_frozen BK114.out 4
   go_wp2_with (first | ((with_reducible refine gate_callee (f := 83) rfl ?_); refine gl_ 5 Tryd.func83 #[.int .i64 a0_1] ?_; (with_reducible refine (spec_l1Made.calls a0_1 false _ A4.out).mono ?_); rintro e w' ⟨rfl, ⟨nd, rfl⟩⟩; refine ⟨_, rfl, ?_⟩))
   go_meet
   case rel => exact ⟨_, (true), (si_), H', ⟨by first | omega | exact Nat.le_refl _⟩, ⟨by (with_reducible repeat (first | refine blk_drewN ?_ _ | refine blk_drew ?_ | refine blk_alloc ?_ _)); exact BK114.out⟩, ⟨bel_⟩⟩
 case rest =>
  clear HC2
  try clear p2
  try clear c5
  try clear c7
  try clear c8
  try clear hcz7_0
  try clear hcz7_1
  try clear hcz7_2
  try clear hcz7_3
  try clear hcz7_4
  try clear hcz8_0
  try clear hcz8_1
  try clear hcz8_2
  try clear hcz8_3
  try clear hcz8_4
  try clear hfz7_0
  try clear hfz7_1
  try clear hfz7_2
  try clear hfz7_3
  try clear hfz7_4
  try clear hfz8_0
  try clear hfz8_1
  try clear hfz8_2
  try clear hfz8_3
  try clear hfz8_4
  obtain ⟨kq, x12_1, rfl, HA, HJ1, BK114, HB⟩ := hcut
  cases kq with
  | zero => exact absurd HA.out (by simp [spec_OpOk.j0])
  | succ kj1 =>
   have H := HA.out
   clear HA
   simp only [spec_OpOk.j0] at H
   by_cases c9 : x12_1 = true
   ·subst c9
    have H1 : (some false) = some r := by rw [if_pos rfl] at H; exact H
    clear H
    have H := H1
    clear H1
    obtain rfl := Option.some.inj H
    go_wp2
    go_ret
    exact ⟨fi_, bel_⟩
   ·replace c9 := Bool.eq_false_iff.mpr c9
    subst c9
    have H1 : (if a0_0 = 1 then ((spec_l3Id.f a0_2).bind fun t117 => (if t117 = true then (if a0_3 = 0 then (some true) else ((spec_l1Made.f a0_3).bind fun t118 => (some t118))) else (some false))) else (if a0_0 = 2 then (if a0_2 = 0 then (some (a0_3 == 0)) else (some false)) else (if a0_0 = 3 then ((spec_l3Id.f a0_2).bind fun t119 => (if t119 = true then (if a0_3 = 0 then (some (a0_4.toList == ([] : List UInt8))) else ((spec_l1Made.f a0_3).bind fun t120 => (if t120 = true then (some (a0_4.toList == ([] : List UInt8))) else (some false)))) else (some false))) else (some false)))) = some r := by rw [if_neg (show ¬ (false = true) by decide)] at H; exact H
    clear H
    have H := H1
    clear H1
    by_cases c10 : a0_0 = 1
    ·rw [if_pos c10] at H
     have c10b0 : (a0_0 == 1) = true := beq_iff_eq.mpr c10
     have c10b1 : (a0_0 != 1) = false := bne_eq_false_iff_eq.mpr c10
     clear c10
     replace H := Option.bind_eq_some_iff.mp H
     obtain ⟨t117, A110, H⟩ := H
     replace H : (if t117 = true then (if a0_3 = 0 then (some true) else ((spec_l1Made.f a0_3).bind fun t118 => (some t118))) else (some false)) = some r := H
     have A11 := Aside0.mk A110
     clear A110
     by_cases c12 : t117 = true
     ·subst c12
      have H1 : (if a0_3 = 0 then (some true) else ((spec_l1Made.f a0_3).bind fun t118 => (some t118))) = some r := by rw [if_pos rfl] at H; exact H
      clear H
      have H := H1
      clear H1
      by_cases c13 : a0_3 = 0
      ·rw [if_pos c13] at H
       have c13b0 : (a0_3 == 0) = true := beq_iff_eq.mpr c13
       have c13b1 : (a0_3 != 0) = false := bne_eq_false_iff_eq.mpr c13
       clear c13
       obtain rfl := Option.some.inj H
       have hcz14_0 : wc.cell? ⟨gb114, 0, none⟩ = some (.int .i64 a0_0) := (blk_cell BK114.out 0).trans rfl
       have hcz14_1 : wc.cell? ⟨gb114, 1, none⟩ = some (.int .i64 a0_1) := (blk_cell BK114.out 1).trans rfl
       have hcz14_2 : wc.cell? ⟨gb114, 2, none⟩ = some (.int .i64 a0_2) := (blk_cell BK114.out 2).trans rfl
       have hcz14_3 : wc.cell? ⟨gb114, 3, none⟩ = some (.int .i64 a0_3) := (blk_cell BK114.out 3).trans rfl
       have hcz14_4 : wc.cell? ⟨gb114, 4, none⟩ = some (.string a0_4) := (blk_cell BK114.out 4).trans rfl
       have hfz14_0 := blk_frozen BK114.out 0
       have hfz14_1 := blk_frozen BK114.out 1
       have hfz14_2 := blk_frozen BK114.out 2
       have hfz14_3 := blk_frozen BK114.out 3
       have hfz14_4 := blk_frozen BK114.out 4
       go_wp2_with (first | ((with_reducible refine gate_callee (f := 85) rfl ?_); refine gl_ 19 Tryd.func85 #[.int .i64 a0_2] ?_; (with_reducible refine (spec_l3Id.calls a0_2 true _ A11.out).mono ?_); rintro e w' ⟨rfl, ⟨nd, rfl⟩⟩; refine ⟨_, rfl, ?_⟩))
       go_ret
       exact ⟨fi_, bel_⟩
      ·rw [if_neg c13] at H
       have c13b0 : (a0_3 == 0) = false := beq_eq_false_iff_ne.mpr c13
       have c13b1 : (a0_3 != 0) = true := bne_iff_ne.mpr c13
       replace H := Option.bind_eq_some_iff.mp H
       obtain ⟨t118, A150, H⟩ := H
       replace H : (some t118) = some r := H
       have A15 := Aside0.mk A150
       clear A150
       obtain rfl := Option.some.inj H
       have hcz16_0 : wc.cell? ⟨gb114, 0, none⟩ = some (.int .i64 a0_0) := (blk_cell BK114.out 0).trans rfl
       have hcz16_1 : wc.cell? ⟨gb114, 1, none⟩ = some (.int .i64 a0_1) := (blk_cell BK114.out 1).trans rfl
       have hcz16_2 : wc.cell? ⟨gb114, 2, none⟩ = some (.int .i64 a0_2) := (blk_cell BK114.out 2).trans rfl
       have hcz16_3 : wc.cell? ⟨gb114, 3, none⟩ = some (.int .i64 a0_3) := (blk_cell BK114.out 3).trans rfl
       have hcz16_4 : wc.cell? ⟨gb114, 4, none⟩ = some (.string a0_4) := (blk_cell BK114.out 4).trans rfl
       have hfz16_0 := blk_frozen BK114.out 0
       have hfz16_1 := blk_frozen BK114.out 1
       have hfz16_2 := blk_frozen BK114.out 2
       have hfz16_3 := blk_frozen BK114.out 3
       have hfz16_4 := blk_frozen BK114.out 4
       go_wp2_with (first | ((with_reducible refine gate_callee (f := 85) rfl ?_); refine gl_ 19 Tryd.func85 #[.int .i64 a0_2] ?_; (with_reducible refine (spec_l3Id.calls a0_2 true _ A11.out).mono ?_); rintro e w' ⟨rfl, ⟨nd, rfl⟩⟩; refine ⟨_, rfl, ?_⟩) | (go_at_call 83; (with_reducible refine (spec_l1Made.calls a0_3 t118 _ A15.out).mono ?_); rintro e w' ⟨rfl, ⟨nd, rfl⟩⟩))
       go_ret
       exact ⟨fi_, bel_⟩
     ·replace c12 := Bool.eq_false_iff.mpr c12
      subst c12
      have H1 : (some false) = some r := by rw [if_neg (show ¬ (false = true) by decide)] at H; exact H
      clear H
      have H := H1
      clear H1
      obtain rfl := Option.some.inj H
      have hcz17_0 : wc.cell? ⟨gb114, 0, none⟩ = some (.int .i64 a0_0) := (blk_cell BK114.out 0).trans rfl
      have hcz17_1 : wc.cell? ⟨gb114, 1, none⟩ = some (.int .i64 a0_1) := (blk_cell BK114.out 1).trans rfl
      have hcz17_2 : wc.cell? ⟨gb114, 2, none⟩ = some (.int .i64 a0_2) := (blk_cell BK114.out 2).trans rfl
      have hcz17_3 : wc.cell? ⟨gb114, 3, none⟩ = some (.int .i64 a0_3) := (blk_cell BK114.out 3).trans rfl
      have hcz17_4 : wc.cell? ⟨gb114, 4, none⟩ = some (.string a0_4) := (blk_cell BK114.out 4).trans rfl
      have hfz17_0 := blk_frozen BK114.out 0
      have hfz17_1 := blk_frozen BK114.out 1
      have hfz17_2 := blk_frozen BK114.out 2
      have hfz17_3 := blk_frozen BK114.out 3
      have hfz17_4 := blk_frozen BK114.out 4
      go_wp2_with (first | ((with_reducible refine gate_callee (f := 85) rfl ?_); refine gl_ 19 Tryd.func85 #[.int .i64 a0_2] ?_; (with_reducible refine (spec_l3Id.calls a0_2 false _ A11.out).mono ?_); rintro e w' ⟨rfl, ⟨nd, rfl⟩⟩; refine ⟨_, rfl, ?_⟩))
      go_ret
      exact ⟨fi_, bel_⟩
    ·rw [if_neg c10] at H
     have c10b0 : (a0_0 == 1) = false := beq_eq_false_iff_ne.mpr c10
     have c10b1 : (a0_0 != 1) = true := bne_iff_ne.mpr c10
     by_cases c18 : a0_0 = 2
     ·rw [if_pos c18] at H
      have c18b0 : (a0_0 == 2) = true := beq_iff_eq.mpr c18
      have c18b1 : (a0_0 != 2) = false := bne_eq_false_iff_eq.mpr c18
      clear c18
      by_cases c19 : a0_2 = 0
      ·rw [if_pos c19] at H
       have c19b0 : (a0_2 == 0) = true := beq_iff_eq.mpr c19
       have c19b1 : (a0_2 != 0) = false := bne_eq_false_iff_eq.mpr c19
       clear c19
       obtain rfl := Option.some.inj H
       have hcz20_0 : wc.cell? ⟨gb114, 0, none⟩ = some (.int .i64 a0_0) := (blk_cell BK114.out 0).trans rfl
       have hcz20_1 : wc.cell? ⟨gb114, 1, none⟩ = some (.int .i64 a0_1) := (blk_cell BK114.out 1).trans rfl
       have hcz20_2 : wc.cell? ⟨gb114, 2, none⟩ = some (.int .i64 a0_2) := (blk_cell BK114.out 2).trans rfl
       have hcz20_3 : wc.cell? ⟨gb114, 3, none⟩ = some (.int .i64 a0_3) := (blk_cell BK114.out 3).trans rfl
       have hcz20_4 : wc.cell? ⟨gb114, 4, none⟩ = some (.string a0_4) := (blk_cell BK114.out 4).trans rfl
       have hfz20_0 := blk_frozen BK114.out 0
       have hfz20_1 := blk_frozen BK114.out 1
       have hfz20_2 := blk_frozen BK114.out 2
       have hfz20_3 := blk_frozen BK114.out 3
       have hfz20_4 := blk_frozen BK114.out 4
       go_wp2
       go_ret
       exact ⟨fi_, bel_⟩
      ·rw [if_neg c19] at H
       have c19b0 : (a0_2 == 0) = false := beq_eq_false_iff_ne.mpr c19
       have c19b1 : (a0_2 != 0) = true := bne_iff_ne.mpr c19
       obtain rfl := Option.some.inj H
       have hcz21_0 : wc.cell? ⟨gb114, 0, none⟩ = some (.int .i64 a0_0) := (blk_cell BK114.out 0).trans rfl
       have hcz21_1 : wc.cell? ⟨gb114, 1, none⟩ = some (.int .i64 a0_1) := (blk_cell BK114.out 1).trans rfl
       have hcz21_2 : wc.cell? ⟨gb114, 2, none⟩ = some (.int .i64 a0_2) := (blk_cell BK114.out 2).trans rfl
       have hcz21_3 : wc.cell? ⟨gb114, 3, none⟩ = some (.int .i64 a0_3) := (blk_cell BK114.out 3).trans rfl
       have hcz21_4 : wc.cell? ⟨gb114, 4, none⟩ = some (.string a0_4) := (blk_cell BK114.out 4).trans rfl
       have hfz21_0 := blk_frozen BK114.out 0
       have hfz21_1 := blk_frozen BK114.out 1
       have hfz21_2 := blk_frozen BK114.out 2
       have hfz21_3 := blk_frozen BK114.out 3
       have hfz21_4 := blk_frozen BK114.out 4
       go_wp2
       go_ret
       exact ⟨fi_, bel_⟩
     ·rw [if_neg c18] at H
      have c18b0 : (a0_0 == 2) = false := beq_eq_false_iff_ne.mpr c18
      have c18b1 : (a0_0 != 2) = true := bne_iff_ne.mpr c18
      by_cases c22 : a0_0 = 3
      ·rw [if_pos c22] at H
       have c22b0 : (a0_0 == 3) = true := beq_iff_eq.mpr c22
       have c22b1 : (a0_0 != 3) = false := bne_eq_false_iff_eq.mpr c22
       clear c22
       replace H := Option.bind_eq_some_iff.mp H
       obtain ⟨t119, A230, H⟩ := H
       replace H : (if t119 = true then (if a0_3 = 0 then (some (a0_4.toList == ([] : List UInt8))) else ((spec_l1Made.f a0_3).bind fun t120 => (if t120 = true then (some (a0_4.toList == ([] : List UInt8))) else (some false)))) else (some false)) = some r := H
       have A23 := Aside0.mk A230
       clear A230
       by_cases c24 : t119 = true
       ·subst c24
        have H1 : (if a0_3 = 0 then (some (a0_4.toList == ([] : List UInt8))) else ((spec_l1Made.f a0_3).bind fun t120 => (if t120 = true then (some (a0_4.toList == ([] : List UInt8))) else (some false)))) = some r := by rw [if_pos rfl] at H; exact H
        clear H
        have H := H1
        clear H1
        by_cases c25 : a0_3 = 0
        ·rw [if_pos c25] at H
         have c25b0 : (a0_3 == 0) = true := beq_iff_eq.mpr c25
         have c25b1 : (a0_3 != 0) = false := bne_eq_false_iff_eq.mpr c25
         clear c25
         obtain rfl := Option.some.inj H
         have hcz26_0 : wc.cell? ⟨gb114, 0, none⟩ = some (.int .i64 a0_0) := (blk_cell BK114.out 0).trans rfl
         have hcz26_1 : wc.cell? ⟨gb114, 1, none⟩ = some (.int .i64 a0_1) := (blk_cell BK114.out 1).trans rfl
         have hcz26_2 : wc.cell? ⟨gb114, 2, none⟩ = some (.int .i64 a0_2) := (blk_cell BK114.out 2).trans rfl
         have hcz26_3 : wc.cell? ⟨gb114, 3, none⟩ = some (.int .i64 a0_3) := (blk_cell BK114.out 3).trans rfl
         have hcz26_4 : wc.cell? ⟨gb114, 4, none⟩ = some (.string a0_4) := (blk_cell BK114.out 4).trans rfl
         have hfz26_0 := blk_frozen BK114.out 0
         have hfz26_1 := blk_frozen BK114.out 1
         have hfz26_2 := blk_frozen BK114.out 2
         have hfz26_3 := blk_frozen BK114.out 3
         have hfz26_4 := blk_frozen BK114.out 4
         go_wp2_with (first | ((with_reducible refine gate_callee (f := 85) rfl ?_); refine gl_ 44 Tryd.func85 #[.int .i64 a0_2] ?_; (with_reducible refine (spec_l3Id.calls a0_2 true _ A23.out).mono ?_); rintro e w' ⟨rfl, ⟨nd, rfl⟩⟩; refine ⟨_, rfl, ?_⟩))
         go_ret
         exact ⟨fi_, bel_⟩
        ·rw [if_neg c25] at H
         have c25b0 : (a0_3 == 0) = false := beq_eq_false_iff_ne.mpr c25
         have c25b1 : (a0_3 != 0) = true := bne_iff_ne.mpr c25
         replace H := Option.bind_eq_some_iff.mp H
         obtain ⟨t120, A270, H⟩ := H
         replace H : (if t120 = true then (some (a0_4.toList == ([] : List UInt8))) else (some false)) = some r := H
         have A27 := Aside0.mk A270
         clear A270
         by_cases c28 : t120 = true
         ·subst c28
          have H1 : (some (a0_4.toList == ([] : List UInt8))) = some r := by rw [if_pos rfl] at H; exact H
          clear H
          have H := H1
          clear H1
          obtain rfl := Option.some.inj H
          have hcz29_0 : wc.cell? ⟨gb114, 0, none⟩ = some (.int .i64 a0_0) := (blk_cell BK114.out 0).trans rfl
          have hcz29_1 : wc.cell? ⟨gb114, 1, none⟩ = some (.int .i64 a0_1) := (blk_cell BK114.out 1).trans rfl
          have hcz29_2 : wc.cell? ⟨gb114, 2, none⟩ = some (.int .i64 a0_2) := (blk_cell BK114.out 2).trans rfl
          have hcz29_3 : wc.cell? ⟨gb114, 3, none⟩ = some (.int .i64 a0_3) := (blk_cell BK114.out 3).trans rfl
          have hcz29_4 : wc.cell? ⟨gb114, 4, none⟩ = some (.string a0_4) := (blk_cell BK114.out 4).trans rfl
          have hfz29_0 := blk_frozen BK114.out 0
          have hfz29_1 := blk_frozen BK114.out 1
          have hfz29_2 := blk_frozen BK114.out 2
          have hfz29_3 := blk_frozen BK114.out 3
          have hfz29_4 := blk_frozen BK114.out 4
          go_wp2_with (first | ((with_reducible refine gate_callee (f := 85) rfl ?_); refine gl_ 44 Tryd.func85 #[.int .i64 a0_2] ?_; (with_reducible refine (spec_l3Id.calls a0_2 true _ A23.out).mono ?_); rintro e w' ⟨rfl, ⟨nd, rfl⟩⟩; refine ⟨_, rfl, ?_⟩) | (go_at_call 83; (with_reducible refine (spec_l1Made.calls a0_3 true _ A27.out).mono ?_); rintro e w' ⟨rfl, ⟨nd, rfl⟩⟩))
          go_ret
          exact ⟨fi_, bel_⟩
         ·replace c28 := Bool.eq_false_iff.mpr c28
          subst c28
          have H1 : (some false) = some r := by rw [if_neg (show ¬ (false = true) by decide)] at H; exact H
          clear H
          have H := H1
          clear H1
          obtain rfl := Option.some.inj H
          have hcz30_0 : wc.cell? ⟨gb114, 0, none⟩ = some (.int .i64 a0_0) := (blk_cell BK114.out 0).trans rfl
          have hcz30_1 : wc.cell? ⟨gb114, 1, none⟩ = some (.int .i64 a0_1) := (blk_cell BK114.out 1).trans rfl
          have hcz30_2 : wc.cell? ⟨gb114, 2, none⟩ = some (.int .i64 a0_2) := (blk_cell BK114.out 2).trans rfl
          have hcz30_3 : wc.cell? ⟨gb114, 3, none⟩ = some (.int .i64 a0_3) := (blk_cell BK114.out 3).trans rfl
          have hcz30_4 : wc.cell? ⟨gb114, 4, none⟩ = some (.string a0_4) := (blk_cell BK114.out 4).trans rfl
          have hfz30_0 := blk_frozen BK114.out 0
          have hfz30_1 := blk_frozen BK114.out 1
          have hfz30_2 := blk_frozen BK114.out 2
          have hfz30_3 := blk_frozen BK114.out 3
          have hfz30_4 := blk_frozen BK114.out 4
          go_wp2_with (first | ((with_reducible refine gate_callee (f := 85) rfl ?_); refine gl_ 44 Tryd.func85 #[.int .i64 a0_2] ?_; (with_reducible refine (spec_l3Id.calls a0_2 true _ A23.out).mono ?_); rintro e w' ⟨rfl, ⟨nd, rfl⟩⟩; refine ⟨_, rfl, ?_⟩) | (go_at_call 83; (with_reducible refine (spec_l1Made.calls a0_3 false _ A27.out).mono ?_); rintro e w' ⟨rfl, ⟨nd, rfl⟩⟩))
          go_ret
          exact ⟨fi_, bel_⟩
       ·replace c24 := Bool.eq_false_iff.mpr c24
        subst c24
        have H1 : (some false) = some r := by rw [if_neg (show ¬ (false = true) by decide)] at H; exact H
        clear H
        have H := H1
        clear H1
        obtain rfl := Option.some.inj H
        have hcz31_0 : wc.cell? ⟨gb114, 0, none⟩ = some (.int .i64 a0_0) := (blk_cell BK114.out 0).trans rfl
        have hcz31_1 : wc.cell? ⟨gb114, 1, none⟩ = some (.int .i64 a0_1) := (blk_cell BK114.out 1).trans rfl
        have hcz31_2 : wc.cell? ⟨gb114, 2, none⟩ = some (.int .i64 a0_2) := (blk_cell BK114.out 2).trans rfl
        have hcz31_3 : wc.cell? ⟨gb114, 3, none⟩ = some (.int .i64 a0_3) := (blk_cell BK114.out 3).trans rfl
        have hcz31_4 : wc.cell? ⟨gb114, 4, none⟩ = some (.string a0_4) := (blk_cell BK114.out 4).trans rfl
        have hfz31_0 := blk_frozen BK114.out 0
        have hfz31_1 := blk_frozen BK114.out 1
        have hfz31_2 := blk_frozen BK114.out 2
        have hfz31_3 := blk_frozen BK114.out 3
        have hfz31_4 := blk_frozen BK114.out 4
        go_wp2_with (first | ((with_reducible refine gate_callee (f := 85) rfl ?_); refine gl_ 44 Tryd.func85 #[.int .i64 a0_2] ?_; (with_reducible refine (spec_l3Id.calls a0_2 false _ A23.out).mono ?_); rintro e w' ⟨rfl, ⟨nd, rfl⟩⟩; refine ⟨_, rfl, ?_⟩))
        go_ret
        exact ⟨fi_, bel_⟩
      ·rw [if_neg c22] at H
       have c22b0 : (a0_0 == 3) = false := beq_eq_false_iff_ne.mpr c22
       have c22b1 : (a0_0 != 3) = true := bne_iff_ne.mpr c22
       obtain rfl := Option.some.inj H
       have hcz32_0 : wc.cell? ⟨gb114, 0, none⟩ = some (.int .i64 a0_0) := (blk_cell BK114.out 0).trans rfl
       have hcz32_1 : wc.cell? ⟨gb114, 1, none⟩ = some (.int .i64 a0_1) := (blk_cell BK114.out 1).trans rfl
       have hcz32_2 : wc.cell? ⟨gb114, 2, none⟩ = some (.int .i64 a0_2) := (blk_cell BK114.out 2).trans rfl
       have hcz32_3 : wc.cell? ⟨gb114, 3, none⟩ = some (.int .i64 a0_3) := (blk_cell BK114.out 3).trans rfl
       have hcz32_4 : wc.cell? ⟨gb114, 4, none⟩ = some (.string a0_4) := (blk_cell BK114.out 4).trans rfl
       have hfz32_0 := blk_frozen BK114.out 0
       have hfz32_1 := blk_frozen BK114.out 1
       have hfz32_2 := blk_frozen BK114.out 2
       have hfz32_3 := blk_frozen BK114.out 3
       have hfz32_4 := blk_frozen BK114.out 4
       go_wp2
       go_ret
       exact ⟨fi_, bel_⟩

end Go.Proofs.YtnclcbjagleoeaaDoor.P
namespace Go.Proofs.YtnclcbjagleoeaaDoor.P
open Go.RowKit Go.Proofs.YtnclcbjagleoeaaDoorW.PrintWords Go.Proofs.YtnclcbjagleoeaaDoorW.PrintLast
set_option linter.unusedVariables false
set_option linter.unusedSimpArgs false
def spec_EntryOk.f (k : Nat) (a0_0 : Int) (a0_1 : Int) (a0_2 : Int) (a0_3 : Int) (a0_4 : Int) (a0_5 : Int) (a0_6 : ByteArray) : Option (Bool) := (spec_l6In.f a0_0 1 3).bind fun t122 => (if t122 = true then ((spec_l6In.f a0_1 1 40).bind fun t123 => (if t123 = true then ((spec_OpOk.f k a0_2 a0_3 a0_4 a0_5 a0_6).bind fun t124 => (if t124 = true then (if a0_2 = 1 then (some ((wrap64 (Int.tdiv a0_3 10)) == a0_0)) else (some true)) else (some false))) else (some false))) else (some false))
theorem spec_EntryOk.mono : ∀ a0 a1 a2 a3 a4 a5 a6 k, LeO (spec_EntryOk.f k a0 a1 a2 a3 a4 a5 a6) (spec_EntryOk.f (k + 1) a0 a1 a2 a3 a4 a5 a6) := by
 intro a0 a1 a2 a3 a4 a5 a6 k
 unfold spec_EntryOk.f
 repeat' first
   | (with_reducible exact spec_OpOk.mono _ _ _ _ _ _)
   | (with_reducible exact LeO.refl _)
   | (with_reducible exact LeO.none _)
   | (with_reducible refine LeO.ite ?_ ?_)
   | (with_reducible refine LeO.bind ?_ (fun _ => ?_))
   | exact spec_OpOk.mono _ _ _ _ _ _
   | exact LeO.none _
   | refine LeO.ite ?_ ?_
   | refine LeO.bind ?_ (fun _ => ?_)
set_option maxHeartbeats 8000000 in
set_option maxRecDepth 100000 in
theorem spec_EntryOk.calls (k : Nat) (a0_0 : Int) (a0_1 : Int) (a0_2 : Int) (a0_3 : Int) (a0_4 : Int) (a0_5 : Int) (a0_6 : ByteArray) (r : Bool) (w : World) (h : spec_EntryOk.f k a0_0 a0_1 a0_2 a0_3 a0_4 a0_5 a0_6 = some r) :
  Calls Tryd.prog 45 #[.agg #[.int .i64 a0_0, .int .i64 a0_1, .int .i64 a0_2, .int .i64 a0_3, .int .i64 a0_4, .int .i64 a0_5, .string a0_6]] w fun e w' => e = .returned (.bool r) ∧ Below w.heap.size w w' := by
 have hu56 := Tryd.underlying56
 have hu54 := Tryd.underlying54
 have HB := Aside0.mk (Below.refl w.heap.size w)
 have H : ((spec_l6In.f a0_0 1 3).bind fun t122 => (if t122 = true then ((spec_l6In.f a0_1 1 40).bind fun t123 => (if t123 = true then ((spec_OpOk.f k a0_2 a0_3 a0_4 a0_5 a0_6).bind fun t124 => (if t124 = true then (if a0_2 = 1 then (some ((wrap64 (Int.tdiv a0_3 10)) == a0_0)) else (some true)) else (some false))) else (some false))) else (some false))) = some r := h
 clear h
 replace H := Option.bind_eq_some_iff.mp H
 obtain ⟨t122, A20, H⟩ := H
 replace H : (if t122 = true then ((spec_l6In.f a0_1 1 40).bind fun t123 => (if t123 = true then ((spec_OpOk.f k a0_2 a0_3 a0_4 a0_5 a0_6).bind fun t124 => (if t124 = true then (if a0_2 = 1 then (some ((wrap64 (Int.tdiv a0_3 10)) == a0_0)) else (some true)) else (some false))) else (some false))) else (some false)) = some r := H
 have A2 := Aside0.mk A20
 clear A20
 by_cases c3 : t122 = true
 ·subst c3
  have H1 : ((spec_l6In.f a0_1 1 40).bind fun t123 => (if t123 = true then ((spec_OpOk.f k a0_2 a0_3 a0_4 a0_5 a0_6).bind fun t124 => (if t124 = true then (if a0_2 = 1 then (some ((wrap64 (Int.tdiv a0_3 10)) == a0_0)) else (some true)) else (some false))) else (some false))) = some r := by rw [if_pos rfl] at H; exact H
  clear H
  have H := H1
  clear H1
  replace H := Option.bind_eq_some_iff.mp H
  obtain ⟨t123, A40, H⟩ := H
  replace H : (if t123 = true then ((spec_OpOk.f k a0_2 a0_3 a0_4 a0_5 a0_6).bind fun t124 => (if t124 = true then (if a0_2 = 1 then (some ((wrap64 (Int.tdiv a0_3 10)) == a0_0)) else (some true)) else (some false))) else (some false)) = some r := H
  have A4 := Aside0.mk A40
  clear A40
  by_cases c5 : t123 = true
  ·subst c5
   have H1 : ((spec_OpOk.f k a0_2 a0_3 a0_4 a0_5 a0_6).bind fun t124 => (if t124 = true then (if a0_2 = 1 then (some ((wrap64 (Int.tdiv a0_3 10)) == a0_0)) else (some true)) else (some false))) = some r := by rw [if_pos rfl] at H; exact H
   clear H
   have H := H1
   clear H1
   replace H := Option.bind_eq_some_iff.mp H
   obtain ⟨t124, A60, H⟩ := H
   replace H : (if t124 = true then (if a0_2 = 1 then (some ((wrap64 (Int.tdiv a0_3 10)) == a0_0)) else (some true)) else (some false)) = some r := H
   have A6 := Aside0.mk A60
   clear A60
   by_cases c7 : t124 = true
   ·subst c7
    have H1 : (if a0_2 = 1 then (some ((wrap64 (Int.tdiv a0_3 10)) == a0_0)) else (some true)) = some r := by rw [if_pos rfl] at H; exact H
    clear H
    have H := H1
    clear H1
    by_cases c8 : a0_2 = 1
    ·rw [if_pos c8] at H
     have c8b0 : (a0_2 == 1) = true := beq_iff_eq.mpr c8
     have c8b1 : (a0_2 != 1) = false := bne_eq_false_iff_eq.mpr c8
     clear c8
     obtain rfl := Option.some.inj H
     go_enter Tryd.func45, Tryd.ntmps45
     go_wp2_with (first | ((with_reducible refine gate_dst (N := 1) rfl ?_); refine box_event ?hg (N := 1) ?hd (cs := #[.int .i64 a0_0, .int .i64 a0_1, .int .i64 a0_2, .int .i64 a0_3, .int .i64 a0_4, .int .i64 a0_5, .string a0_6]) (t := 56) ?hr ?_; (case hd => rfl); (case hg => rfl); (case hr => first | (go_simp; done) | (go_simp; rfl)); intro gb121 hg w9 hbox hb; have n0_ := Aside0.mk (below_step (bel_) hb); have n1_ := Aside0.mk (hbox); have n2_ := Aside0.mk ((by rw [hg]; exact (below_size (bel_)) : w.heap.size ≤ gb121)); have n3_ := Aside0.mk ((by rw [hg]; exact (below_size (bel_)) : w.heap.size ≤ gb121)); clear HB; have HB := n0_; have BK121 := n1_; have GW121 := n2_; have GE121 := n3_; clear n0_ n1_ n2_ n3_; clear hb hbox hg; have hcz10_0 : w9.cell? ⟨gb121, 0, none⟩ = some (.int .i64 a0_0) := (blk_cell BK121.out 0).trans rfl; have hcz10_1 : w9.cell? ⟨gb121, 1, none⟩ = some (.int .i64 a0_1) := (blk_cell BK121.out 1).trans rfl; have hcz10_2 : w9.cell? ⟨gb121, 2, none⟩ = some (.int .i64 a0_2) := (blk_cell BK121.out 2).trans rfl; have hcz10_3 : w9.cell? ⟨gb121, 3, none⟩ = some (.int .i64 a0_3) := (blk_cell BK121.out 3).trans rfl; have hcz10_4 : w9.cell? ⟨gb121, 4, none⟩ = some (.int .i64 a0_4) := (blk_cell BK121.out 4).trans rfl; have hcz10_5 : w9.cell? ⟨gb121, 5, none⟩ = some (.int .i64 a0_5) := (blk_cell BK121.out 5).trans rfl; have hcz10_6 : w9.cell? ⟨gb121, 6, none⟩ = some (.string a0_6) := (blk_cell BK121.out 6).trans rfl; have hfz10_0 := blk_frozen BK121.out 0; have hfz10_1 := blk_frozen BK121.out 1; have hfz10_2 := blk_frozen BK121.out 2; have hfz10_3 := blk_frozen BK121.out 3; have hfz10_4 := blk_frozen BK121.out 4; have hfz10_5 := blk_frozen BK121.out 5; have hfz10_6 := blk_frozen BK121.out 6) | ((with_reducible refine gate_callee (f := 49) rfl ?_); refine gl_ 5 Tryd.func49 #[.int .i64 a0_0, .int .i64 1, .int .i64 3] ?_; (with_reducible refine (spec_l6In.calls a0_0 1 3 true _ A2.out).mono ?_); rintro e w' ⟨rfl, ⟨nd, rfl⟩⟩; refine ⟨_, rfl, ?_⟩) | (go_at_call 49; (with_reducible refine (spec_l6In.calls a0_1 1 40 true _ A4.out).mono ?_); rintro e w' ⟨rfl, ⟨nd, rfl⟩⟩) | (go_at_call 70; (with_reducible refine (spec_OpOk.calls k a0_2 a0_3 a0_4 a0_5 a0_6 true _ A6.out).mono ?_); rintro e w11 ⟨rfl, hb⟩; replace HB := Aside0.mk (below_step (bel_) hb); replace BK121 := Aside0.mk (blk_below (g := gb121) (o := .cells #[.int .i64 a0_0, .int .i64 a0_1, .int .i64 a0_2, .int .i64 a0_3, .int .i64 a0_4, .int .i64 a0_5, .string a0_6] 56 (0, 0)) (bp_ BK121.out) hb); (try clear hb); (try clear hb2); (try clear hk); (try clear hi); have hcz12_0 : w11.cell? ⟨gb121, 0, none⟩ = some (.int .i64 a0_0) := (blk_cell BK121.out 0).trans rfl; have hcz12_1 : w11.cell? ⟨gb121, 1, none⟩ = some (.int .i64 a0_1) := (blk_cell BK121.out 1).trans rfl; have hcz12_2 : w11.cell? ⟨gb121, 2, none⟩ = some (.int .i64 a0_2) := (blk_cell BK121.out 2).trans rfl; have hcz12_3 : w11.cell? ⟨gb121, 3, none⟩ = some (.int .i64 a0_3) := (blk_cell BK121.out 3).trans rfl; have hcz12_4 : w11.cell? ⟨gb121, 4, none⟩ = some (.int .i64 a0_4) := (blk_cell BK121.out 4).trans rfl; have hcz12_5 : w11.cell? ⟨gb121, 5, none⟩ = some (.int .i64 a0_5) := (blk_cell BK121.out 5).trans rfl; have hcz12_6 : w11.cell? ⟨gb121, 6, none⟩ = some (.string a0_6) := (blk_cell BK121.out 6).trans rfl; have hfz12_0 := blk_frozen BK121.out 0; have hfz12_1 := blk_frozen BK121.out 1; have hfz12_2 := blk_frozen BK121.out 2; have hfz12_3 := blk_frozen BK121.out 3; have hfz12_4 := blk_frozen BK121.out 4; have hfz12_5 := blk_frozen BK121.out 5; have hfz12_6 := blk_frozen BK121.out 6))
     go_ret
     exact ⟨fi_, bel_⟩
    ·rw [if_neg c8] at H
     have c8b0 : (a0_2 == 1) = false := beq_eq_false_iff_ne.mpr c8
     have c8b1 : (a0_2 != 1) = true := bne_iff_ne.mpr c8
     obtain rfl := Option.some.inj H
     go_enter Tryd.func45, Tryd.ntmps45
     go_wp2_with (first | ((with_reducible refine gate_dst (N := 1) rfl ?_); refine box_event ?hg (N := 1) ?hd (cs := #[.int .i64 a0_0, .int .i64 a0_1, .int .i64 a0_2, .int .i64 a0_3, .int .i64 a0_4, .int .i64 a0_5, .string a0_6]) (t := 56) ?hr ?_; (case hd => rfl); (case hg => rfl); (case hr => first | (go_simp; done) | (go_simp; rfl)); intro gb121 hg w13 hbox hb; have n0_ := Aside0.mk (below_step (bel_) hb); have n1_ := Aside0.mk (hbox); have n2_ := Aside0.mk ((by rw [hg]; exact (below_size (bel_)) : w.heap.size ≤ gb121)); have n3_ := Aside0.mk ((by rw [hg]; exact (below_size (bel_)) : w.heap.size ≤ gb121)); clear HB; have HB := n0_; have BK121 := n1_; have GW121 := n2_; have GE121 := n3_; clear n0_ n1_ n2_ n3_; clear hb hbox hg; have hcz14_0 : w13.cell? ⟨gb121, 0, none⟩ = some (.int .i64 a0_0) := (blk_cell BK121.out 0).trans rfl; have hcz14_1 : w13.cell? ⟨gb121, 1, none⟩ = some (.int .i64 a0_1) := (blk_cell BK121.out 1).trans rfl; have hcz14_2 : w13.cell? ⟨gb121, 2, none⟩ = some (.int .i64 a0_2) := (blk_cell BK121.out 2).trans rfl; have hcz14_3 : w13.cell? ⟨gb121, 3, none⟩ = some (.int .i64 a0_3) := (blk_cell BK121.out 3).trans rfl; have hcz14_4 : w13.cell? ⟨gb121, 4, none⟩ = some (.int .i64 a0_4) := (blk_cell BK121.out 4).trans rfl; have hcz14_5 : w13.cell? ⟨gb121, 5, none⟩ = some (.int .i64 a0_5) := (blk_cell BK121.out 5).trans rfl; have hcz14_6 : w13.cell? ⟨gb121, 6, none⟩ = some (.string a0_6) := (blk_cell BK121.out 6).trans rfl; have hfz14_0 := blk_frozen BK121.out 0; have hfz14_1 := blk_frozen BK121.out 1; have hfz14_2 := blk_frozen BK121.out 2; have hfz14_3 := blk_frozen BK121.out 3; have hfz14_4 := blk_frozen BK121.out 4; have hfz14_5 := blk_frozen BK121.out 5; have hfz14_6 := blk_frozen BK121.out 6) | ((with_reducible refine gate_callee (f := 49) rfl ?_); refine gl_ 5 Tryd.func49 #[.int .i64 a0_0, .int .i64 1, .int .i64 3] ?_; (with_reducible refine (spec_l6In.calls a0_0 1 3 true _ A2.out).mono ?_); rintro e w' ⟨rfl, ⟨nd, rfl⟩⟩; refine ⟨_, rfl, ?_⟩) | (go_at_call 49; (with_reducible refine (spec_l6In.calls a0_1 1 40 true _ A4.out).mono ?_); rintro e w' ⟨rfl, ⟨nd, rfl⟩⟩) | (go_at_call 70; (with_reducible refine (spec_OpOk.calls k a0_2 a0_3 a0_4 a0_5 a0_6 true _ A6.out).mono ?_); rintro e w15 ⟨rfl, hb⟩; replace HB := Aside0.mk (below_step (bel_) hb); replace BK121 := Aside0.mk (blk_below (g := gb121) (o := .cells #[.int .i64 a0_0, .int .i64 a0_1, .int .i64 a0_2, .int .i64 a0_3, .int .i64 a0_4, .int .i64 a0_5, .string a0_6] 56 (0, 0)) (bp_ BK121.out) hb); (try clear hb); (try clear hb2); (try clear hk); (try clear hi); have hcz16_0 : w15.cell? ⟨gb121, 0, none⟩ = some (.int .i64 a0_0) := (blk_cell BK121.out 0).trans rfl; have hcz16_1 : w15.cell? ⟨gb121, 1, none⟩ = some (.int .i64 a0_1) := (blk_cell BK121.out 1).trans rfl; have hcz16_2 : w15.cell? ⟨gb121, 2, none⟩ = some (.int .i64 a0_2) := (blk_cell BK121.out 2).trans rfl; have hcz16_3 : w15.cell? ⟨gb121, 3, none⟩ = some (.int .i64 a0_3) := (blk_cell BK121.out 3).trans rfl; have hcz16_4 : w15.cell? ⟨gb121, 4, none⟩ = some (.int .i64 a0_4) := (blk_cell BK121.out 4).trans rfl; have hcz16_5 : w15.cell? ⟨gb121, 5, none⟩ = some (.int .i64 a0_5) := (blk_cell BK121.out 5).trans rfl; have hcz16_6 : w15.cell? ⟨gb121, 6, none⟩ = some (.string a0_6) := (blk_cell BK121.out 6).trans rfl; have hfz16_0 := blk_frozen BK121.out 0; have hfz16_1 := blk_frozen BK121.out 1; have hfz16_2 := blk_frozen BK121.out 2; have hfz16_3 := blk_frozen BK121.out 3; have hfz16_4 := blk_frozen BK121.out 4; have hfz16_5 := blk_frozen BK121.out 5; have hfz16_6 := blk_frozen BK121.out 6))
     go_ret
     exact ⟨fi_, bel_⟩
   ·replace c7 := Bool.eq_false_iff.mpr c7
    subst c7
    have H1 : (some false) = some r := by rw [if_neg (show ¬ (false = true) by decide)] at H; exact H
    clear H
    have H := H1
    clear H1
    obtain rfl := Option.some.inj H
    go_enter Tryd.func45, Tryd.ntmps45
    go_wp2_with (first | ((with_reducible refine gate_dst (N := 1) rfl ?_); refine box_event ?hg (N := 1) ?hd (cs := #[.int .i64 a0_0, .int .i64 a0_1, .int .i64 a0_2, .int .i64 a0_3, .int .i64 a0_4, .int .i64 a0_5, .string a0_6]) (t := 56) ?hr ?_; (case hd => rfl); (case hg => rfl); (case hr => first | (go_simp; done) | (go_simp; rfl)); intro gb121 hg w17 hbox hb; have n0_ := Aside0.mk (below_step (bel_) hb); have n1_ := Aside0.mk (hbox); have n2_ := Aside0.mk ((by rw [hg]; exact (below_size (bel_)) : w.heap.size ≤ gb121)); have n3_ := Aside0.mk ((by rw [hg]; exact (below_size (bel_)) : w.heap.size ≤ gb121)); clear HB; have HB := n0_; have BK121 := n1_; have GW121 := n2_; have GE121 := n3_; clear n0_ n1_ n2_ n3_; clear hb hbox hg; have hcz18_0 : w17.cell? ⟨gb121, 0, none⟩ = some (.int .i64 a0_0) := (blk_cell BK121.out 0).trans rfl; have hcz18_1 : w17.cell? ⟨gb121, 1, none⟩ = some (.int .i64 a0_1) := (blk_cell BK121.out 1).trans rfl; have hcz18_2 : w17.cell? ⟨gb121, 2, none⟩ = some (.int .i64 a0_2) := (blk_cell BK121.out 2).trans rfl; have hcz18_3 : w17.cell? ⟨gb121, 3, none⟩ = some (.int .i64 a0_3) := (blk_cell BK121.out 3).trans rfl; have hcz18_4 : w17.cell? ⟨gb121, 4, none⟩ = some (.int .i64 a0_4) := (blk_cell BK121.out 4).trans rfl; have hcz18_5 : w17.cell? ⟨gb121, 5, none⟩ = some (.int .i64 a0_5) := (blk_cell BK121.out 5).trans rfl; have hcz18_6 : w17.cell? ⟨gb121, 6, none⟩ = some (.string a0_6) := (blk_cell BK121.out 6).trans rfl; have hfz18_0 := blk_frozen BK121.out 0; have hfz18_1 := blk_frozen BK121.out 1; have hfz18_2 := blk_frozen BK121.out 2; have hfz18_3 := blk_frozen BK121.out 3; have hfz18_4 := blk_frozen BK121.out 4; have hfz18_5 := blk_frozen BK121.out 5; have hfz18_6 := blk_frozen BK121.out 6) | ((with_reducible refine gate_callee (f := 49) rfl ?_); refine gl_ 5 Tryd.func49 #[.int .i64 a0_0, .int .i64 1, .int .i64 3] ?_; (with_reducible refine (spec_l6In.calls a0_0 1 3 true _ A2.out).mono ?_); rintro e w' ⟨rfl, ⟨nd, rfl⟩⟩; refine ⟨_, rfl, ?_⟩) | (go_at_call 49; (with_reducible refine (spec_l6In.calls a0_1 1 40 true _ A4.out).mono ?_); rintro e w' ⟨rfl, ⟨nd, rfl⟩⟩) | (go_at_call 70; (with_reducible refine (spec_OpOk.calls k a0_2 a0_3 a0_4 a0_5 a0_6 false _ A6.out).mono ?_); rintro e w19 ⟨rfl, hb⟩; replace HB := Aside0.mk (below_step (bel_) hb); replace BK121 := Aside0.mk (blk_below (g := gb121) (o := .cells #[.int .i64 a0_0, .int .i64 a0_1, .int .i64 a0_2, .int .i64 a0_3, .int .i64 a0_4, .int .i64 a0_5, .string a0_6] 56 (0, 0)) (bp_ BK121.out) hb); (try clear hb); (try clear hb2); (try clear hk); (try clear hi)))
    go_ret
    exact ⟨fi_, bel_⟩
  ·replace c5 := Bool.eq_false_iff.mpr c5
   subst c5
   have H1 : (some false) = some r := by rw [if_neg (show ¬ (false = true) by decide)] at H; exact H
   clear H
   have H := H1
   clear H1
   obtain rfl := Option.some.inj H
   go_enter Tryd.func45, Tryd.ntmps45
   go_wp2_with (first | ((with_reducible refine gate_dst (N := 1) rfl ?_); refine box_event ?hg (N := 1) ?hd (cs := #[.int .i64 a0_0, .int .i64 a0_1, .int .i64 a0_2, .int .i64 a0_3, .int .i64 a0_4, .int .i64 a0_5, .string a0_6]) (t := 56) ?hr ?_; (case hd => rfl); (case hg => rfl); (case hr => first | (go_simp; done) | (go_simp; rfl)); intro gb121 hg w20 hbox hb; have n0_ := Aside0.mk (below_step (bel_) hb); have n1_ := Aside0.mk (hbox); have n2_ := Aside0.mk ((by rw [hg]; exact (below_size (bel_)) : w.heap.size ≤ gb121)); have n3_ := Aside0.mk ((by rw [hg]; exact (below_size (bel_)) : w.heap.size ≤ gb121)); clear HB; have HB := n0_; have BK121 := n1_; have GW121 := n2_; have GE121 := n3_; clear n0_ n1_ n2_ n3_; clear hb hbox hg; have hcz21_0 : w20.cell? ⟨gb121, 0, none⟩ = some (.int .i64 a0_0) := (blk_cell BK121.out 0).trans rfl; have hcz21_1 : w20.cell? ⟨gb121, 1, none⟩ = some (.int .i64 a0_1) := (blk_cell BK121.out 1).trans rfl; have hcz21_2 : w20.cell? ⟨gb121, 2, none⟩ = some (.int .i64 a0_2) := (blk_cell BK121.out 2).trans rfl; have hcz21_3 : w20.cell? ⟨gb121, 3, none⟩ = some (.int .i64 a0_3) := (blk_cell BK121.out 3).trans rfl; have hcz21_4 : w20.cell? ⟨gb121, 4, none⟩ = some (.int .i64 a0_4) := (blk_cell BK121.out 4).trans rfl; have hcz21_5 : w20.cell? ⟨gb121, 5, none⟩ = some (.int .i64 a0_5) := (blk_cell BK121.out 5).trans rfl; have hcz21_6 : w20.cell? ⟨gb121, 6, none⟩ = some (.string a0_6) := (blk_cell BK121.out 6).trans rfl; have hfz21_0 := blk_frozen BK121.out 0; have hfz21_1 := blk_frozen BK121.out 1; have hfz21_2 := blk_frozen BK121.out 2; have hfz21_3 := blk_frozen BK121.out 3; have hfz21_4 := blk_frozen BK121.out 4; have hfz21_5 := blk_frozen BK121.out 5; have hfz21_6 := blk_frozen BK121.out 6) | ((with_reducible refine gate_callee (f := 49) rfl ?_); refine gl_ 5 Tryd.func49 #[.int .i64 a0_0, .int .i64 1, .int .i64 3] ?_; (with_reducible refine (spec_l6In.calls a0_0 1 3 true _ A2.out).mono ?_); rintro e w' ⟨rfl, ⟨nd, rfl⟩⟩; refine ⟨_, rfl, ?_⟩) | (go_at_call 49; (with_reducible refine (spec_l6In.calls a0_1 1 40 false _ A4.out).mono ?_); rintro e w' ⟨rfl, ⟨nd, rfl⟩⟩))
   go_ret
   exact ⟨fi_, bel_⟩
 ·replace c3 := Bool.eq_false_iff.mpr c3
  subst c3
  have H1 : (some false) = some r := by rw [if_neg (show ¬ (false = true) by decide)] at H; exact H
  clear H
  have H := H1
  clear H1
  obtain rfl := Option.some.inj H
  go_enter Tryd.func45, Tryd.ntmps45
  go_wp2_with (first | ((with_reducible refine gate_dst (N := 1) rfl ?_); refine box_event ?hg (N := 1) ?hd (cs := #[.int .i64 a0_0, .int .i64 a0_1, .int .i64 a0_2, .int .i64 a0_3, .int .i64 a0_4, .int .i64 a0_5, .string a0_6]) (t := 56) ?hr ?_; (case hd => rfl); (case hg => rfl); (case hr => first | (go_simp; done) | (go_simp; rfl)); intro gb121 hg w22 hbox hb; have n0_ := Aside0.mk (below_step (bel_) hb); have n1_ := Aside0.mk (hbox); have n2_ := Aside0.mk ((by rw [hg]; exact (below_size (bel_)) : w.heap.size ≤ gb121)); have n3_ := Aside0.mk ((by rw [hg]; exact (below_size (bel_)) : w.heap.size ≤ gb121)); clear HB; have HB := n0_; have BK121 := n1_; have GW121 := n2_; have GE121 := n3_; clear n0_ n1_ n2_ n3_; clear hb hbox hg; have hcz23_0 : w22.cell? ⟨gb121, 0, none⟩ = some (.int .i64 a0_0) := (blk_cell BK121.out 0).trans rfl; have hcz23_1 : w22.cell? ⟨gb121, 1, none⟩ = some (.int .i64 a0_1) := (blk_cell BK121.out 1).trans rfl; have hcz23_2 : w22.cell? ⟨gb121, 2, none⟩ = some (.int .i64 a0_2) := (blk_cell BK121.out 2).trans rfl; have hcz23_3 : w22.cell? ⟨gb121, 3, none⟩ = some (.int .i64 a0_3) := (blk_cell BK121.out 3).trans rfl; have hcz23_4 : w22.cell? ⟨gb121, 4, none⟩ = some (.int .i64 a0_4) := (blk_cell BK121.out 4).trans rfl; have hcz23_5 : w22.cell? ⟨gb121, 5, none⟩ = some (.int .i64 a0_5) := (blk_cell BK121.out 5).trans rfl; have hcz23_6 : w22.cell? ⟨gb121, 6, none⟩ = some (.string a0_6) := (blk_cell BK121.out 6).trans rfl; have hfz23_0 := blk_frozen BK121.out 0; have hfz23_1 := blk_frozen BK121.out 1; have hfz23_2 := blk_frozen BK121.out 2; have hfz23_3 := blk_frozen BK121.out 3; have hfz23_4 := blk_frozen BK121.out 4; have hfz23_5 := blk_frozen BK121.out 5; have hfz23_6 := blk_frozen BK121.out 6) | ((with_reducible refine gate_callee (f := 49) rfl ?_); refine gl_ 5 Tryd.func49 #[.int .i64 a0_0, .int .i64 1, .int .i64 3] ?_; (with_reducible refine (spec_l6In.calls a0_0 1 3 false _ A2.out).mono ?_); rintro e w' ⟨rfl, ⟨nd, rfl⟩⟩; refine ⟨_, rfl, ?_⟩))
  go_ret
  exact ⟨fi_, bel_⟩

def spec_l12Seq.l0 : Nat → List (S56) → Int → Int → Int → Option (Int)
 | 0, _, _, _, _ => none
 | k + 1, x0, x1, x5, x6 => if x6 < (x0.length : Int) then (if 0 ≤ x6 then (if ((rd_T56 x0 x6).f0) = x1 then (spec_l12Seq.l0 k x0 x1 (wrap64 (x5 + 1)) (wrap64 (x6 + 1))) else (spec_l12Seq.l0 k x0 x1 x5 (wrap64 (x6 + 1)))) else (none)) else (some x5)
def spec_l12Seq.f (k : Nat) (l0 : List (S56)) (a1 : Int) : Option (Int) := spec_l12Seq.l0 k l0 a1 0 0
theorem spec_l12Seq.mono_l : ∀ k, (∀ y0 y1 y2 y3, LeO (spec_l12Seq.l0 k y0 y1 y2 y3) (spec_l12Seq.l0 (k + 1) y0 y1 y2 y3))
 | 0 => fun _ _ _ _ r h => by simp [spec_l12Seq.l0] at h
 | k + 1 => by
  have ih0 := spec_l12Seq.mono_l k
  ·intro y0 y1 y2 y3
   unfold spec_l12Seq.l0
   repeat' first
   | (with_reducible exact ih0 _ _ _ _)
   | (with_reducible exact LeO.refl _)
   | (with_reducible exact LeO.none _)
   | (with_reducible refine LeO.ite ?_ ?_)
   | (with_reducible refine LeO.bind ?_ (fun _ => ?_))
   | exact ih0 _ _ _ _
   | exact LeO.none _
   | refine LeO.ite ?_ ?_
   | refine LeO.bind ?_ (fun _ => ?_)
theorem spec_l12Seq.mono : ∀ a0 a1 k, LeO (spec_l12Seq.f k a0 a1) (spec_l12Seq.f (k + 1) a0 a1) := by
 intro a0 a1 k
 have ih0 := spec_l12Seq.mono_l k
 unfold spec_l12Seq.f
 repeat' first
   | (with_reducible exact ih0 _ _ _ _)
   | (with_reducible exact LeO.refl _)
   | (with_reducible exact LeO.none _)
   | (with_reducible refine LeO.ite ?_ ?_)
   | (with_reducible refine LeO.bind ?_ (fun _ => ?_))
   | exact ih0 _ _ _ _
   | exact LeO.none _
   | refine LeO.ite ?_ ?_
   | refine LeO.bind ?_ (fun _ => ?_)
set_option maxHeartbeats 8000000 in
set_option maxRecDepth 100000 in
theorem spec_l12Seq.calls (k : Nat) (A0 : Option Addr) (c0 : Nat) (l0 : List (S56)) (a1 : Int) (r : Int) (w : World) (hr0 : Kd.C k56 w A0 l0.length l0) (hc0 : l0.length ≤ c0) (h : spec_l12Seq.f k l0 a1 = some r) :
  Calls Tryd.prog 75 #[.slice A0 l0.length c0, .int .i64 a1] w fun e w' => e = .returned (.int .i64 r) ∧ Drawn0 w w' := by
 have HR0 := Aside0.mk hr0
 have HC0 := Aside0.mk hc0
 clear hr0 hc0
 have H : (spec_l12Seq.l0 k l0 a1 0 0) = some r := h
 clear h
 have H' := Aside0.mk H
 clear H
 go_enter Tryd.func75, Tryd.ntmps75
 go_wp2
 go_loopg [5, 6] k (fun kq v5 v6 w' => ∃ (x5_1 : Int) (x6_1 : Int), v5 = .int .i64 x5_1 ∧ v6 = .int .i64 x6_1 ∧ Aside0 (spec_l12Seq.l0 kq l0 a1 x5_1 x6_1 = some r) ∧ Aside0 (kq ≤ k) ∧ Drawn0 w w')
 case atStart => exact ⟨(0), (0), (si_), (si_), H', ⟨Nat.le_refl _⟩, by repeat (first | exact Drawn0.refl _ | apply Drawn0.step)⟩
 case round =>
  clear H'
  try clear p2
  obtain ⟨x5_1, x6_1, rfl, rfl, HA, HK1, ⟨m1, rfl⟩⟩ := hrel
  cases gk with
  | zero => exact absurd HA.out (by simp [spec_l12Seq.l0])
  | succ k1 =>
   have H := HA.out
   clear HA
   simp only [spec_l12Seq.l0] at H
   by_cases c3 : x6_1 < (l0.length : Int)
   ·rw [if_pos c3] at H
    have c3b0 : decide (x6_1 < (l0.length : Int)) = true := decide_eq_true c3
    clear c3
    by_cases c4 : 0 ≤ x6_1
    ·rw [if_pos c4] at H
     have c4b0 : decide (0 ≤ x6_1) = true := decide_eq_true c4
     clear c4
     by_cases c5 : ((rd_T56 l0 x6_1).f0) = a1
     ·rw [if_pos c5] at H
      have c5b0 : (((rd_T56 l0 x6_1).f0) == a1) = true := beq_iff_eq.mpr c5
      have c5b1 : (((rd_T56 l0 x6_1).f0) != a1) = false := bne_eq_false_iff_eq.mpr c5
      clear c5
      have H' := Aside0.mk H
      clear H
      have p125 : 0 ≤ (x6_1 : Int) := od_
      have q125 : x6_1 < (l0.length : Int) := od_
      obtain ⟨ad125, e125, hx125_0, hx125_1, hx125_2, hx125_3, hx125_4, hx125_5, hx125_6⟩ := at_T56 HR0.out x6_1 p125 q125
      cases e125
      replace p125 := eq_true p125
      replace q125 := eq_true q125
      go_wp2
      go_roundg k1
      case measure => have := HK1.out; omega
      case rel => exact ⟨(wrap64 (x5_1 + 1)), (wrap64 (x6_1 + 1)), (si_), (si_), H', ⟨by have := HK1.out; omega⟩, by repeat (first | exact Drawn0.refl _ | apply Drawn0.step)⟩
     ·rw [if_neg c5] at H
      have c5b0 : (((rd_T56 l0 x6_1).f0) == a1) = false := beq_eq_false_iff_ne.mpr c5
      have c5b1 : (((rd_T56 l0 x6_1).f0) != a1) = true := bne_iff_ne.mpr c5
      have H' := Aside0.mk H
      clear H
      have p125 : 0 ≤ (x6_1 : Int) := od_
      have q125 : x6_1 < (l0.length : Int) := od_
      obtain ⟨ad125, e125, hx125_0, hx125_1, hx125_2, hx125_3, hx125_4, hx125_5, hx125_6⟩ := at_T56 HR0.out x6_1 p125 q125
      cases e125
      replace p125 := eq_true p125
      replace q125 := eq_true q125
      go_wp2
      go_roundg k1
      case measure => have := HK1.out; omega
      case rel => exact ⟨(x5_1), (wrap64 (x6_1 + 1)), (si_), (si_), H', ⟨by have := HK1.out; omega⟩, by repeat (first | exact Drawn0.refl _ | apply Drawn0.step)⟩
    ·rw [if_neg c4] at H
     exact absurd H (by simp)
   ·rw [if_neg c3] at H
    have c3b0 : decide (x6_1 < (l0.length : Int)) = false := decide_eq_false c3
    clear c3
    obtain rfl := Option.some.inj H
    go_wp2
    go_ret
    exact ⟨si_, by repeat (first | exact Drawn0.refl _ | apply Drawn0.step)⟩

end Go.Proofs.YtnclcbjagleoeaaDoor.P
namespace Go.Proofs.YtnclcbjagleoeaaDoor.P
open Go.RowKit Go.Proofs.YtnclcbjagleoeaaDoorW.PrintWords Go.Proofs.YtnclcbjagleoeaaDoorW.PrintLast
set_option linter.unusedVariables false
set_option linter.unusedSimpArgs false
def spec_LogOk.l0 : Nat → List (S56) → Int → Option (Bool)
 | 0, _, _ => none
 | k + 1, x0, x3 => if x3 < (x0.length : Int) then (if 0 ≤ x3 then ((spec_EntryOk.f k ((rd_T56 x0 x3).f0) ((rd_T56 x0 x3).f1) ((rd_T56 x0 x3).f2.f0) ((rd_T56 x0 x3).f2.f1) ((rd_T56 x0 x3).f2.f2) ((rd_T56 x0 x3).f2.f3) ((rd_T56 x0 x3).f2.f4)).bind fun t127 => (if t127 = true then (if x3 ≤ (x0.length : Int) then ((spec_l12Seq.f k (x0.take (x3 : Int).toNat) ((rd_T56 x0 x3).f0)).bind fun t134 => (if ((rd_T56 x0 x3).f1) = (wrap64 (t134 + 1)) then (spec_LogOk.l0 k x0 (wrap64 (x3 + 1))) else (some false))) else (none)) else (some false))) else (none)) else (some (decide ((x0.length : Int) ≤ 40)))
def spec_LogOk.f (k : Nat) (l0 : List (S56)) : Option (Bool) := spec_LogOk.l0 k l0 0
theorem spec_LogOk.mono_l : ∀ k, (∀ y0 y1, LeO (spec_LogOk.l0 k y0 y1) (spec_LogOk.l0 (k + 1) y0 y1))
 | 0 => fun _ _ r h => by simp [spec_LogOk.l0] at h
 | k + 1 => by
  have ih0 := spec_LogOk.mono_l k
  ·intro y0 y1
   unfold spec_LogOk.l0
   repeat' first
   | (with_reducible exact ih0 _ _)
   | (with_reducible exact spec_EntryOk.mono _ _ _ _ _ _ _ _)
   | (with_reducible exact spec_l12Seq.mono _ _ _)
   | (with_reducible exact LeO.refl _)
   | (with_reducible exact LeO.none _)
   | (with_reducible refine LeO.ite ?_ ?_)
   | (with_reducible refine LeO.bind ?_ (fun _ => ?_))
   | exact ih0 _ _
   | exact spec_EntryOk.mono _ _ _ _ _ _ _ _
   | exact spec_l12Seq.mono _ _ _
   | exact LeO.none _
   | refine LeO.ite ?_ ?_
   | refine LeO.bind ?_ (fun _ => ?_)
theorem spec_LogOk.mono : ∀ a0 k, LeO (spec_LogOk.f k a0) (spec_LogOk.f (k + 1) a0) := by
 intro a0 k
 have ih0 := spec_LogOk.mono_l k
 unfold spec_LogOk.f
 repeat' first
   | (with_reducible exact ih0 _ _)
   | (with_reducible exact spec_EntryOk.mono _ _ _ _ _ _ _ _)
   | (with_reducible exact spec_l12Seq.mono _ _ _)
   | (with_reducible exact LeO.refl _)
   | (with_reducible exact LeO.none _)
   | (with_reducible refine LeO.ite ?_ ?_)
   | (with_reducible refine LeO.bind ?_ (fun _ => ?_))
   | exact ih0 _ _
   | exact spec_EntryOk.mono _ _ _ _ _ _ _ _
   | exact spec_l12Seq.mono _ _ _
   | exact LeO.none _
   | refine LeO.ite ?_ ?_
   | refine LeO.bind ?_ (fun _ => ?_)
def spec_LogOk.T4 : Bool × List (List Nat × List Nat) := (true, [([], []), ([], []), ([0, 1], [0, 1]), ([2], [2]), ([3], [3]), ([4], [4]), ([5, 4], [5]), ([6], [6]), ([6], [6]), ([7, 8, 6], [6, 7, 8]), ([9, 6], [6, 9]), ([10, 6], [6, 10]), ([6], [6]), ([6], [6]), ([12, 13, 6], [6, 12, 13]), ([6], [6]), ([6], [6]), ([15, 16, 6], [6, 15, 16]), ([17, 6], [6, 17]), ([18, 6], [6, 18]), ([14, 19, 6, 6], [6, 14, 19]), ([20, 6], [6, 20]), ([11, 21, 6], [6, 11, 21]), ([6, 22], [6, 22])])
def spec_LogOk.B4 : List Nat := [0, 0, 3, 7, 15, 31, 63, 127, 127, 511, 1023, 2047, 127, 127, 12415, 127, 127, 98431, 229503, 491647, 1044607, 2093183, 4194303, 8388607]
theorem spec_LogOk.tab4 : rtab .any (opsOf Tryd.f58 4) = spec_LogOk.T4 := by kernel_rfl
theorem spec_LogOk.bits4 : waitsOk spec_LogOk.T4.2 spec_LogOk.B4 = true := by kernel_rfl
set_option maxHeartbeats 8000000 in
set_option maxRecDepth 100000 in
theorem spec_LogOk.calls (k : Nat) (A0 : Option Addr) (c0 : Nat) (l0 : List (S56)) (r : Bool) (w : World) (hr0 : Kd.C k56 w A0 l0.length l0) (hc0 : l0.length ≤ c0) (h : spec_LogOk.f k l0 = some r) :
  Calls Tryd.prog 58 #[.slice A0 l0.length c0] w fun e w' => e = .returned (.bool r) ∧ Below w.heap.size w w' := by
 have hu56 := Tryd.underlying56
 have HR0 := Aside0.mk hr0
 have HC0 := Aside0.mk hc0
 clear hr0 hc0
 have HB := Aside0.mk (Below.refl w.heap.size w)
 have H : (spec_LogOk.l0 k l0 0) = some r := h
 clear h
 have H' := Aside0.mk H
 clear H
 go_enter Tryd.func58, Tryd.ntmps58
 go_wp2
 go_loopg [3] k (fun kq v3 w' => ∃ (x3_1 : Int), v3 = .int .i64 x3_1 ∧ Aside0 (spec_LogOk.l0 kq l0 x3_1 = some r) ∧ Aside0 (kq ≤ k) ∧ Aside0 (Below w.heap.size w w'))
 case atStart => exact ⟨(0), (si_), H', ⟨Nat.le_refl _⟩, ⟨bel_⟩⟩
 case round =>
  clear H'
  obtain ⟨x3_1, rfl, HA, HK1, HB⟩ := hrel
  cases gk with
  | zero => exact absurd HA.out (by simp [spec_LogOk.l0])
  | succ k1 =>
   have H := HA.out
   clear HA
   simp only [spec_LogOk.l0] at H
   by_cases c2 : x3_1 < (l0.length : Int)
   ·rw [if_pos c2] at H
    have c2b0 : decide (x3_1 < (l0.length : Int)) = true := decide_eq_true c2
    clear c2
    by_cases c3 : 0 ≤ x3_1
    ·rw [if_pos c3] at H
     have c3b0 : decide (0 ≤ x3_1) = true := decide_eq_true c3
     clear c3
     replace H := Option.bind_eq_some_iff.mp H
     obtain ⟨t127, A40, H⟩ := H
     replace H : (if t127 = true then (if x3_1 ≤ (l0.length : Int) then ((spec_l12Seq.f k1 (l0.take (x3_1 : Int).toNat) ((rd_T56 l0 x3_1).f0)).bind fun t134 => (if ((rd_T56 l0 x3_1).f1) = (wrap64 (t134 + 1)) then (spec_LogOk.l0 k1 l0 (wrap64 (x3_1 + 1))) else (some false))) else (none)) else (some false)) = some r := H
     have A4 := Aside0.mk A40
     clear A40
     by_cases c5 : t127 = true
     ·subst c5
      have H1 : (if x3_1 ≤ (l0.length : Int) then ((spec_l12Seq.f k1 (l0.take (x3_1 : Int).toNat) ((rd_T56 l0 x3_1).f0)).bind fun t134 => (if ((rd_T56 l0 x3_1).f1) = (wrap64 (t134 + 1)) then (spec_LogOk.l0 k1 l0 (wrap64 (x3_1 + 1))) else (some false))) else (none)) = some r := by rw [if_pos rfl] at H; exact H
      clear H
      have H := H1
      clear H1
      have c6b0 := eq_true (od_ : 0 ≤ x3_1)
      by_cases c7 : x3_1 ≤ (l0.length : Int)
      ·rw [if_pos c7] at H
       have c7b0 := eq_true c7
       have c7b1 : decide (x3_1 ≤ (l0.length : Int)) = true := decide_eq_true c7
       clear c7
       obtain ⟨y129, hy129⟩ : ∃ y_ : List (S56), y_ = (l0.take (x3_1 : Int).toNat) := ⟨_, rfl⟩
       replace H : ((spec_l12Seq.f k1 y129 ((rd_T56 l0 x3_1).f0)).bind fun t134 => (if ((rd_T56 l0 x3_1).f1) = (wrap64 (t134 + 1)) then (spec_LogOk.l0 k1 l0 (wrap64 (x3_1 + 1))) else (some false))) = some r := by first | (rw [hy129]; with_reducible exact H) | (have H2_ := (Option.bind_some _ _).symm.trans H; rw [hy129]; with_reducible exact H2_) | (have H2_ := (Option.bind_some _ _).symm.trans H; with_reducible exact H2_) | with_reducible exact H | (rw [hy129]; exact H) | exact H
       have Ny129 := Aside0.mk hy129
       clear hy129
       replace H := Option.bind_eq_some_iff.mp H
       obtain ⟨t134, A80, H⟩ := H
       replace H : (if ((rd_T56 l0 x3_1).f1) = (wrap64 (t134 + 1)) then (spec_LogOk.l0 k1 l0 (wrap64 (x3_1 + 1))) else (some false)) = some r := H
       have A8 := Aside0.mk A80
       clear A80
       by_cases c9 : ((rd_T56 l0 x3_1).f1) = (wrap64 (t134 + 1))
       ·rw [if_pos c9] at H
        have c9b0 : (((rd_T56 l0 x3_1).f1) == (wrap64 (t134 + 1))) = true := beq_iff_eq.mpr c9
        have c9b1 : (((rd_T56 l0 x3_1).f1) != (wrap64 (t134 + 1))) = false := bne_eq_false_iff_eq.mpr c9
        clear c9
        have H' := Aside0.mk H
        clear H
        try go_wp2
        have n0_ := Aside0.mk (below_drew1 HB.out)
        clear HB
        have HB := n0_
        clear n0_
        have p126 : 0 ≤ (x3_1 : Int) := od_
        have q126 : x3_1 < (l0.length : Int) := od_
        obtain ⟨ad126, e126, hx126_0, hx126_1, hx126_2, hx126_3, hx126_4, hx126_5, hx126_6⟩ := at_T56 HR0.out x3_1 p126 q126
        have hw126_6 := hx126_6
        have hw126_5 := hx126_5
        have hw126_4 := hx126_4
        have hw126_3 := hx126_3
        have hw126_2 := hx126_2
        have hw126_1 := hx126_1
        have hw126_0 := hx126_0
        cases e126
        replace hx126_0 := (cb_ HB.out hx126_0 :)
        replace hx126_1 := (cb_ HB.out hx126_1 :)
        replace hx126_2 := (cb_ HB.out hx126_2 :)
        replace hx126_3 := (cb_ HB.out hx126_3 :)
        replace hx126_4 := (cb_ HB.out hx126_4 :)
        replace hx126_5 := (cb_ HB.out hx126_5 :)
        replace hx126_6 := (cb_ HB.out hx126_6 :)
        replace p126 := eq_true p126
        replace q126 := eq_true q126
        have p128 : 0 ≤ (x3_1 : Int) := od_
        have q128 : x3_1 < (l0.length : Int) := od_
        obtain ⟨ad128, e128, hx128_0, hx128_1, hx128_2, hx128_3, hx128_4, hx128_5, hx128_6⟩ := at_T56 HR0.out x3_1 p128 q128
        have hw128_6 := hx128_6
        have hw128_5 := hx128_5
        have hw128_4 := hx128_4
        have hw128_3 := hx128_3
        have hw128_2 := hx128_2
        have hw128_1 := hx128_1
        have hw128_0 := hx128_0
        obtain rfl : ad126 = ad128 := (by injection e128)
        replace hx128_0 := (cb_ HB.out hx128_0 :)
        replace hx128_1 := (cb_ HB.out hx128_1 :)
        replace hx128_2 := (cb_ HB.out hx128_2 :)
        replace hx128_3 := (cb_ HB.out hx128_3 :)
        replace hx128_4 := (cb_ HB.out hx128_4 :)
        replace hx128_5 := (cb_ HB.out hx128_5 :)
        replace hx128_6 := (cb_ HB.out hx128_6 :)
        replace p128 := eq_true p128
        replace q128 := eq_true q128
        have p133 : 0 ≤ (x3_1 : Int) := od_
        have q133 : x3_1 < (l0.length : Int) := od_
        obtain ⟨ad133, e133, hx133_0, hx133_1, hx133_2, hx133_3, hx133_4, hx133_5, hx133_6⟩ := at_T56 HR0.out x3_1 p133 q133
        have hw133_6 := hx133_6
        have hw133_5 := hx133_5
        have hw133_4 := hx133_4
        have hw133_3 := hx133_3
        have hw133_2 := hx133_2
        have hw133_1 := hx133_1
        have hw133_0 := hx133_0
        obtain rfl : ad126 = ad133 := (by injection e133)
        replace hx133_0 := (cb_ HB.out hx133_0 :)
        replace hx133_1 := (cb_ HB.out hx133_1 :)
        replace hx133_2 := (cb_ HB.out hx133_2 :)
        replace hx133_3 := (cb_ HB.out hx133_3 :)
        replace hx133_4 := (cb_ HB.out hx133_4 :)
        replace hx133_5 := (cb_ HB.out hx133_5 :)
        replace hx133_6 := (cb_ HB.out hx133_6 :)
        replace p133 := eq_true p133
        replace q133 := eq_true q133
        refine start_ (n := 24) (S := fun w' => w'.cell? (ad126.add ((x3_1).toNat * 7)) = some (.int .i64 ((rd_T56 l0 x3_1).f0)) ∧ w'.cell? ⟨(ad126.add ((x3_1).toNat * 7)).block, (ad126.add ((x3_1).toNat * 7)).off + 1, none⟩ = some (.int .i64 ((rd_T56 l0 x3_1).f1)) ∧ w'.cell? ⟨(ad126.add ((x3_1).toNat * 7)).block, (ad126.add ((x3_1).toNat * 7)).off + 2, none⟩ = some (.int .i64 ((rd_T56 l0 x3_1).f2.f0)) ∧ w'.cell? ⟨(ad126.add ((x3_1).toNat * 7)).block, (ad126.add ((x3_1).toNat * 7)).off + 3, none⟩ = some (.int .i64 ((rd_T56 l0 x3_1).f2.f1)) ∧ w'.cell? ⟨(ad126.add ((x3_1).toNat * 7)).block, (ad126.add ((x3_1).toNat * 7)).off + 4, none⟩ = some (.int .i64 ((rd_T56 l0 x3_1).f2.f2)) ∧ w'.cell? ⟨(ad126.add ((x3_1).toNat * 7)).block, (ad126.add ((x3_1).toNat * 7)).off + 5, none⟩ = some (.int .i64 ((rd_T56 l0 x3_1).f2.f3)) ∧ w'.cell? ⟨(ad126.add ((x3_1).toNat * 7)).block, (ad126.add ((x3_1).toNat * 7)).off + 6, none⟩ = some (.string ((rd_T56 l0 x3_1).f2.f4)) ∧ w'.cell? (ad126.add ((x3_1).toNat * 7)) = some (.int .i64 ((rd_T56 l0 x3_1).f0)) ∧ w'.cell? ⟨(ad126.add ((x3_1).toNat * 7)).block, (ad126.add ((x3_1).toNat * 7)).off + 1, none⟩ = some (.int .i64 ((rd_T56 l0 x3_1).f1)) ∧ w'.cell? ⟨(ad126.add ((x3_1).toNat * 7)).block, (ad126.add ((x3_1).toNat * 7)).off + 2, none⟩ = some (.int .i64 ((rd_T56 l0 x3_1).f2.f0)) ∧ w'.cell? ⟨(ad126.add ((x3_1).toNat * 7)).block, (ad126.add ((x3_1).toNat * 7)).off + 3, none⟩ = some (.int .i64 ((rd_T56 l0 x3_1).f2.f1)) ∧ w'.cell? ⟨(ad126.add ((x3_1).toNat * 7)).block, (ad126.add ((x3_1).toNat * 7)).off + 4, none⟩ = some (.int .i64 ((rd_T56 l0 x3_1).f2.f2)) ∧ w'.cell? ⟨(ad126.add ((x3_1).toNat * 7)).block, (ad126.add ((x3_1).toNat * 7)).off + 5, none⟩ = some (.int .i64 ((rd_T56 l0 x3_1).f2.f3)) ∧ w'.cell? ⟨(ad126.add ((x3_1).toNat * 7)).block, (ad126.add ((x3_1).toNat * 7)).off + 6, none⟩ = some (.string ((rd_T56 l0 x3_1).f2.f4)) ∧ w'.cell? (ad126.add ((x3_1).toNat * 7)) = some (.int .i64 ((rd_T56 l0 x3_1).f0)) ∧ w'.cell? ⟨(ad126.add ((x3_1).toNat * 7)).block, (ad126.add ((x3_1).toNat * 7)).off + 1, none⟩ = some (.int .i64 ((rd_T56 l0 x3_1).f1)) ∧ w'.cell? ⟨(ad126.add ((x3_1).toNat * 7)).block, (ad126.add ((x3_1).toNat * 7)).off + 2, none⟩ = some (.int .i64 ((rd_T56 l0 x3_1).f2.f0)) ∧ w'.cell? ⟨(ad126.add ((x3_1).toNat * 7)).block, (ad126.add ((x3_1).toNat * 7)).off + 3, none⟩ = some (.int .i64 ((rd_T56 l0 x3_1).f2.f1)) ∧ w'.cell? ⟨(ad126.add ((x3_1).toNat * 7)).block, (ad126.add ((x3_1).toNat * 7)).off + 4, none⟩ = some (.int .i64 ((rd_T56 l0 x3_1).f2.f2)) ∧ w'.cell? ⟨(ad126.add ((x3_1).toNat * 7)).block, (ad126.add ((x3_1).toNat * 7)).off + 5, none⟩ = some (.int .i64 ((rd_T56 l0 x3_1).f2.f3)) ∧ w'.cell? ⟨(ad126.add ((x3_1).toNat * 7)).block, (ad126.add ((x3_1).toNat * 7)).off + 6, none⟩ = some (.string ((rd_T56 l0 x3_1).f2.f4))) (ds := []) #[false, false, false, false, false, false, false, false, false, false, false, false, false, false, false, false, false, false, false, false, false, false, false, false] (by kernel_rfl) rfl rfl ⟨((cb_ HB.out hw126_0 :)), ((cb_ HB.out hw126_1 :)), ((cb_ HB.out hw126_2 :)), ((cb_ HB.out hw126_3 :)), ((cb_ HB.out hw126_4 :)), ((cb_ HB.out hw126_5 :)), ((cb_ HB.out hw126_6 :)), ((cb_ HB.out hw128_0 :)), ((cb_ HB.out hw128_1 :)), ((cb_ HB.out hw128_2 :)), ((cb_ HB.out hw128_3 :)), ((cb_ HB.out hw128_4 :)), ((cb_ HB.out hw128_5 :)), ((cb_ HB.out hw128_6 :)), ((cb_ HB.out hw133_0 :)), ((cb_ HB.out hw133_1 :)), ((cb_ HB.out hw133_2 :)), ((cb_ HB.out hw133_3 :)), ((cb_ HB.out hw133_4 :)), ((cb_ HB.out hw133_5 :)), ((cb_ HB.out hw133_6 :))⟩ (fun hHeld => ?_); refine with_tabW spec_LogOk.tab4 spec_LogOk.bits4 (fun HT_ HW_ => ?_)
        generalize wr.drew = w10 at HB hx126_0 hx126_1 hx126_2 hx126_3 hx126_4 hx126_5 hx126_6 hx128_0 hx128_1 hx128_2 hx128_3 hx128_4 hx128_5 hx128_6 hx133_0 hx133_1 hx133_2 hx133_3 hx133_4 hx133_5 hx133_6 hHeld ⊢
        refine pa_ 0 10 ?_
        refine pa_ 1 11 ?_
        refine pa_ 2 12 ?_
        refine ta21_ 3 13 hHeld ?_
        refine on_ 4 14 (fun K hK => ?_)
        refine goes_ Tryd.func45 (by kernel_rfl) rfl #[.agg #[.int .i64 ((rd_T56 l0 x3_1).f0), .int .i64 ((rd_T56 l0 x3_1).f1), .int .i64 ((rd_T56 l0 x3_1).f2.f0), .int .i64 ((rd_T56 l0 x3_1).f2.f1), .int .i64 ((rd_T56 l0 x3_1).f2.f2), .int .i64 ((rd_T56 l0 x3_1).f2.f3), .string ((rd_T56 l0 x3_1).f2.f4)]] (by rfl) rfl rfl ar_ ?_
        with_reducible refine (spec_EntryOk.calls k1 ((rd_T56 l0 x3_1).f0) ((rd_T56 l0 x3_1).f1) ((rd_T56 l0 x3_1).f2.f0) ((rd_T56 l0 x3_1).f2.f1) ((rd_T56 l0 x3_1).f2.f2) ((rd_T56 l0 x3_1).f2.f3) ((rd_T56 l0 x3_1).f2.f4) true _ A4.out).mono ?_
        rintro e w11 ⟨rfl, hb⟩
        refine ⟨_, rfl, ?_⟩
        have n0_ := Aside0.mk (below_step (bel_) hb)
        clear HB
        have HB := n0_
        clear n0_
        (try clear hb)
        (try clear hb2)
        (try clear hk)
        (try clear hi)
        have q12 : (x3_1 : Int) ≤ ((l0.length : Int) : Int) := od_
        obtain ⟨i012, hi012, _, hsz12, _⟩ := info_parts info56
        have hroom12 : l0.length ≤ c0 := HC0.out
        have hC12 : Kd.C k56 _ (some ad126) l0.length l0 := HR0.out
        have hcut12 := cut_to (P := Tryd.prog) 26 56 .i64 Tryd.underlying26 hi012 (some ad126) l0.length c0 x3_1 (od_) q12 hroom12
        have hr12 := Kd.C_take (m := (x3_1 : Int).toNat) hC12 (by omega)
        have hy12 : y129.length = (x3_1 : Int).toNat := (by rw [Ny129.out, List.length_take]; omega)
        rw [← Ny129.out] at hr12
        rw [← hy12] at hcut12
        have HR132 := Aside0.mk hr12
        have HC132 := Aside0.mk (show y129.length ≤ c0 from by omega)
        clear hr12 hC12 hroom12 hi012 hsz12
        have KY12 := Aside0.mk hy12
        clear hy12
        replace q12 := eq_true q12
        refine hK.out _ _ ⟨((cb_ HB.out hw126_0 :)), ((cb_ HB.out hw126_1 :)), ((cb_ HB.out hw126_2 :)), ((cb_ HB.out hw126_3 :)), ((cb_ HB.out hw126_4 :)), ((cb_ HB.out hw126_5 :)), ((cb_ HB.out hw126_6 :)), ((cb_ HB.out hw128_0 :)), ((cb_ HB.out hw128_1 :)), ((cb_ HB.out hw128_2 :)), ((cb_ HB.out hw128_3 :)), ((cb_ HB.out hw128_4 :)), ((cb_ HB.out hw128_5 :)), ((cb_ HB.out hw128_6 :)), ((cb_ HB.out hw133_0 :)), ((cb_ HB.out hw133_1 :)), ((cb_ HB.out hw133_2 :)), ((cb_ HB.out hw133_3 :)), ((cb_ HB.out hw133_4 :)), ((cb_ HB.out hw133_5 :)), ((cb_ HB.out hw133_6 :))⟩ (fun hHeld => ?_)
        clear hK K
        refine no_ ?_
        refine pa_ 5 15 ?_
        refine pa_ 6 16 ?_
        refine pa_ 7 17 ?_
        refine pa_ 8 18 ?_
        refine pa_ 9 19 ?_
        refine pa_ 10 20 ?_
        refine pa_ 12 22 ?_
        refine pa_ 13 23 ?_
        refine pa_ 14 24 ?_
        refine pa_ 15 25 ?_
        refine pa_ 16 26 ?_
        refine pa_ 17 27 ?_
        refine pa_ 18 28 ?_
        refine ta21_ 11 21 hHeld ?_
        refine ta21_ 19 29 hHeld ?_
        refine on_ 20 30 (fun K hK => ?_)
        refine goes_ Tryd.func75 (by kernel_rfl) rfl #[.slice (some ad126) y129.length c0, .int .i64 ((rd_T56 l0 x3_1).f0)] (by rfl) rfl rfl ar_ ?_
        with_reducible refine (spec_l12Seq.calls k1 _ _ y129 ((rd_T56 l0 x3_1).f0) t134 _ ?side1 ?side2 A8.out).mono ?_
        (case side1 => exact cp_ HR132.out)
        (case side2 => exact HC132.out)
        rintro e w' ⟨rfl, ⟨nd, rfl⟩⟩
        refine ⟨_, rfl, ?_⟩
        refine hK.out _ _ ⟨((cb_ HB.out hw126_0 :)), ((cb_ HB.out hw126_1 :)), ((cb_ HB.out hw126_2 :)), ((cb_ HB.out hw126_3 :)), ((cb_ HB.out hw126_4 :)), ((cb_ HB.out hw126_5 :)), ((cb_ HB.out hw126_6 :)), ((cb_ HB.out hw128_0 :)), ((cb_ HB.out hw128_1 :)), ((cb_ HB.out hw128_2 :)), ((cb_ HB.out hw128_3 :)), ((cb_ HB.out hw128_4 :)), ((cb_ HB.out hw128_5 :)), ((cb_ HB.out hw128_6 :)), ((cb_ HB.out hw133_0 :)), ((cb_ HB.out hw133_1 :)), ((cb_ HB.out hw133_2 :)), ((cb_ HB.out hw133_3 :)), ((cb_ HB.out hw133_4 :)), ((cb_ HB.out hw133_5 :)), ((cb_ HB.out hw133_6 :))⟩ (fun hHeld => ?_)
        clear hK K
        refine no_ ?_
        refine pa_ 21 31 ?_
        refine pa_ 22 32 ?_
        refine pa_ 23 33 ?_
        refine done_ (done_of HT_.out (by kernel_rfl)) ?_
        try go_wp2
        go_roundg k1
        case measure => have := HK1.out; omega
        case rel => exact ⟨(wrap64 (x3_1 + 1)), (si_), H', ⟨by have := HK1.out; omega⟩, ⟨bel_⟩⟩
       ·rw [if_neg c9] at H
        have c9b0 : (((rd_T56 l0 x3_1).f1) == (wrap64 (t134 + 1))) = false := beq_eq_false_iff_ne.mpr c9
        have c9b1 : (((rd_T56 l0 x3_1).f1) != (wrap64 (t134 + 1))) = true := bne_iff_ne.mpr c9
        obtain rfl := Option.some.inj H
        try go_wp2
        have n0_ := Aside0.mk (below_drew1 HB.out)
        clear HB
        have HB := n0_
        clear n0_
        have p126 : 0 ≤ (x3_1 : Int) := od_
        have q126 : x3_1 < (l0.length : Int) := od_
        obtain ⟨ad126, e126, hx126_0, hx126_1, hx126_2, hx126_3, hx126_4, hx126_5, hx126_6⟩ := at_T56 HR0.out x3_1 p126 q126
        have hw126_6 := hx126_6
        have hw126_5 := hx126_5
        have hw126_4 := hx126_4
        have hw126_3 := hx126_3
        have hw126_2 := hx126_2
        have hw126_1 := hx126_1
        have hw126_0 := hx126_0
        cases e126
        replace hx126_0 := (cb_ HB.out hx126_0 :)
        replace hx126_1 := (cb_ HB.out hx126_1 :)
        replace hx126_2 := (cb_ HB.out hx126_2 :)
        replace hx126_3 := (cb_ HB.out hx126_3 :)
        replace hx126_4 := (cb_ HB.out hx126_4 :)
        replace hx126_5 := (cb_ HB.out hx126_5 :)
        replace hx126_6 := (cb_ HB.out hx126_6 :)
        replace p126 := eq_true p126
        replace q126 := eq_true q126
        have p128 : 0 ≤ (x3_1 : Int) := od_
        have q128 : x3_1 < (l0.length : Int) := od_
        obtain ⟨ad128, e128, hx128_0, hx128_1, hx128_2, hx128_3, hx128_4, hx128_5, hx128_6⟩ := at_T56 HR0.out x3_1 p128 q128
        have hw128_6 := hx128_6
        have hw128_5 := hx128_5
        have hw128_4 := hx128_4
        have hw128_3 := hx128_3
        have hw128_2 := hx128_2
        have hw128_1 := hx128_1
        have hw128_0 := hx128_0
        obtain rfl : ad126 = ad128 := (by injection e128)
        replace hx128_0 := (cb_ HB.out hx128_0 :)
        replace hx128_1 := (cb_ HB.out hx128_1 :)
        replace hx128_2 := (cb_ HB.out hx128_2 :)
        replace hx128_3 := (cb_ HB.out hx128_3 :)
        replace hx128_4 := (cb_ HB.out hx128_4 :)
        replace hx128_5 := (cb_ HB.out hx128_5 :)
        replace hx128_6 := (cb_ HB.out hx128_6 :)
        replace p128 := eq_true p128
        replace q128 := eq_true q128
        have p133 : 0 ≤ (x3_1 : Int) := od_
        have q133 : x3_1 < (l0.length : Int) := od_
        obtain ⟨ad133, e133, hx133_0, hx133_1, hx133_2, hx133_3, hx133_4, hx133_5, hx133_6⟩ := at_T56 HR0.out x3_1 p133 q133
        have hw133_6 := hx133_6
        have hw133_5 := hx133_5
        have hw133_4 := hx133_4
        have hw133_3 := hx133_3
        have hw133_2 := hx133_2
        have hw133_1 := hx133_1
        have hw133_0 := hx133_0
        obtain rfl : ad126 = ad133 := (by injection e133)
        replace hx133_0 := (cb_ HB.out hx133_0 :)
        replace hx133_1 := (cb_ HB.out hx133_1 :)
        replace hx133_2 := (cb_ HB.out hx133_2 :)
        replace hx133_3 := (cb_ HB.out hx133_3 :)
        replace hx133_4 := (cb_ HB.out hx133_4 :)
        replace hx133_5 := (cb_ HB.out hx133_5 :)
        replace hx133_6 := (cb_ HB.out hx133_6 :)
        replace p133 := eq_true p133
        replace q133 := eq_true q133
        refine start_ (n := 24) (S := fun w' => w'.cell? (ad126.add ((x3_1).toNat * 7)) = some (.int .i64 ((rd_T56 l0 x3_1).f0)) ∧ w'.cell? ⟨(ad126.add ((x3_1).toNat * 7)).block, (ad126.add ((x3_1).toNat * 7)).off + 1, none⟩ = some (.int .i64 ((rd_T56 l0 x3_1).f1)) ∧ w'.cell? ⟨(ad126.add ((x3_1).toNat * 7)).block, (ad126.add ((x3_1).toNat * 7)).off + 2, none⟩ = some (.int .i64 ((rd_T56 l0 x3_1).f2.f0)) ∧ w'.cell? ⟨(ad126.add ((x3_1).toNat * 7)).block, (ad126.add ((x3_1).toNat * 7)).off + 3, none⟩ = some (.int .i64 ((rd_T56 l0 x3_1).f2.f1)) ∧ w'.cell? ⟨(ad126.add ((x3_1).toNat * 7)).block, (ad126.add ((x3_1).toNat * 7)).off + 4, none⟩ = some (.int .i64 ((rd_T56 l0 x3_1).f2.f2)) ∧ w'.cell? ⟨(ad126.add ((x3_1).toNat * 7)).block, (ad126.add ((x3_1).toNat * 7)).off + 5, none⟩ = some (.int .i64 ((rd_T56 l0 x3_1).f2.f3)) ∧ w'.cell? ⟨(ad126.add ((x3_1).toNat * 7)).block, (ad126.add ((x3_1).toNat * 7)).off + 6, none⟩ = some (.string ((rd_T56 l0 x3_1).f2.f4)) ∧ w'.cell? (ad126.add ((x3_1).toNat * 7)) = some (.int .i64 ((rd_T56 l0 x3_1).f0)) ∧ w'.cell? ⟨(ad126.add ((x3_1).toNat * 7)).block, (ad126.add ((x3_1).toNat * 7)).off + 1, none⟩ = some (.int .i64 ((rd_T56 l0 x3_1).f1)) ∧ w'.cell? ⟨(ad126.add ((x3_1).toNat * 7)).block, (ad126.add ((x3_1).toNat * 7)).off + 2, none⟩ = some (.int .i64 ((rd_T56 l0 x3_1).f2.f0)) ∧ w'.cell? ⟨(ad126.add ((x3_1).toNat * 7)).block, (ad126.add ((x3_1).toNat * 7)).off + 3, none⟩ = some (.int .i64 ((rd_T56 l0 x3_1).f2.f1)) ∧ w'.cell? ⟨(ad126.add ((x3_1).toNat * 7)).block, (ad126.add ((x3_1).toNat * 7)).off + 4, none⟩ = some (.int .i64 ((rd_T56 l0 x3_1).f2.f2)) ∧ w'.cell? ⟨(ad126.add ((x3_1).toNat * 7)).block, (ad126.add ((x3_1).toNat * 7)).off + 5, none⟩ = some (.int .i64 ((rd_T56 l0 x3_1).f2.f3)) ∧ w'.cell? ⟨(ad126.add ((x3_1).toNat * 7)).block, (ad126.add ((x3_1).toNat * 7)).off + 6, none⟩ = some (.string ((rd_T56 l0 x3_1).f2.f4)) ∧ w'.cell? (ad126.add ((x3_1).toNat * 7)) = some (.int .i64 ((rd_T56 l0 x3_1).f0)) ∧ w'.cell? ⟨(ad126.add ((x3_1).toNat * 7)).block, (ad126.add ((x3_1).toNat * 7)).off + 1, none⟩ = some (.int .i64 ((rd_T56 l0 x3_1).f1)) ∧ w'.cell? ⟨(ad126.add ((x3_1).toNat * 7)).block, (ad126.add ((x3_1).toNat * 7)).off + 2, none⟩ = some (.int .i64 ((rd_T56 l0 x3_1).f2.f0)) ∧ w'.cell? ⟨(ad126.add ((x3_1).toNat * 7)).block, (ad126.add ((x3_1).toNat * 7)).off + 3, none⟩ = some (.int .i64 ((rd_T56 l0 x3_1).f2.f1)) ∧ w'.cell? ⟨(ad126.add ((x3_1).toNat * 7)).block, (ad126.add ((x3_1).toNat * 7)).off + 4, none⟩ = some (.int .i64 ((rd_T56 l0 x3_1).f2.f2)) ∧ w'.cell? ⟨(ad126.add ((x3_1).toNat * 7)).block, (ad126.add ((x3_1).toNat * 7)).off + 5, none⟩ = some (.int .i64 ((rd_T56 l0 x3_1).f2.f3)) ∧ w'.cell? ⟨(ad126.add ((x3_1).toNat * 7)).block, (ad126.add ((x3_1).toNat * 7)).off + 6, none⟩ = some (.string ((rd_T56 l0 x3_1).f2.f4))) (ds := []) #[false, false, false, false, false, false, false, false, false, false, false, false, false, false, false, false, false, false, false, false, false, false, false, false] (by kernel_rfl) rfl rfl ⟨((cb_ HB.out hw126_0 :)), ((cb_ HB.out hw126_1 :)), ((cb_ HB.out hw126_2 :)), ((cb_ HB.out hw126_3 :)), ((cb_ HB.out hw126_4 :)), ((cb_ HB.out hw126_5 :)), ((cb_ HB.out hw126_6 :)), ((cb_ HB.out hw128_0 :)), ((cb_ HB.out hw128_1 :)), ((cb_ HB.out hw128_2 :)), ((cb_ HB.out hw128_3 :)), ((cb_ HB.out hw128_4 :)), ((cb_ HB.out hw128_5 :)), ((cb_ HB.out hw128_6 :)), ((cb_ HB.out hw133_0 :)), ((cb_ HB.out hw133_1 :)), ((cb_ HB.out hw133_2 :)), ((cb_ HB.out hw133_3 :)), ((cb_ HB.out hw133_4 :)), ((cb_ HB.out hw133_5 :)), ((cb_ HB.out hw133_6 :))⟩ (fun hHeld => ?_); refine with_tabW spec_LogOk.tab4 spec_LogOk.bits4 (fun HT_ HW_ => ?_)
        generalize wr.drew = w13 at HB hx126_0 hx126_1 hx126_2 hx126_3 hx126_4 hx126_5 hx126_6 hx128_0 hx128_1 hx128_2 hx128_3 hx128_4 hx128_5 hx128_6 hx133_0 hx133_1 hx133_2 hx133_3 hx133_4 hx133_5 hx133_6 hHeld ⊢
        refine pa_ 0 10 ?_
        refine pa_ 1 11 ?_
        refine pa_ 2 12 ?_
        refine ta21_ 3 13 hHeld ?_
        refine on_ 4 14 (fun K hK => ?_)
        refine goes_ Tryd.func45 (by kernel_rfl) rfl #[.agg #[.int .i64 ((rd_T56 l0 x3_1).f0), .int .i64 ((rd_T56 l0 x3_1).f1), .int .i64 ((rd_T56 l0 x3_1).f2.f0), .int .i64 ((rd_T56 l0 x3_1).f2.f1), .int .i64 ((rd_T56 l0 x3_1).f2.f2), .int .i64 ((rd_T56 l0 x3_1).f2.f3), .string ((rd_T56 l0 x3_1).f2.f4)]] (by rfl) rfl rfl ar_ ?_
        with_reducible refine (spec_EntryOk.calls k1 ((rd_T56 l0 x3_1).f0) ((rd_T56 l0 x3_1).f1) ((rd_T56 l0 x3_1).f2.f0) ((rd_T56 l0 x3_1).f2.f1) ((rd_T56 l0 x3_1).f2.f2) ((rd_T56 l0 x3_1).f2.f3) ((rd_T56 l0 x3_1).f2.f4) true _ A4.out).mono ?_
        rintro e w14 ⟨rfl, hb⟩
        refine ⟨_, rfl, ?_⟩
        have n0_ := Aside0.mk (below_step (bel_) hb)
        clear HB
        have HB := n0_
        clear n0_
        (try clear hb)
        (try clear hb2)
        (try clear hk)
        (try clear hi)
        have q15 : (x3_1 : Int) ≤ ((l0.length : Int) : Int) := od_
        obtain ⟨i015, hi015, _, hsz15, _⟩ := info_parts info56
        have hroom15 : l0.length ≤ c0 := HC0.out
        have hC15 : Kd.C k56 _ (some ad126) l0.length l0 := HR0.out
        have hcut15 := cut_to (P := Tryd.prog) 26 56 .i64 Tryd.underlying26 hi015 (some ad126) l0.length c0 x3_1 (od_) q15 hroom15
        have hr15 := Kd.C_take (m := (x3_1 : Int).toNat) hC15 (by omega)
        have hy15 : y129.length = (x3_1 : Int).toNat := (by rw [Ny129.out, List.length_take]; omega)
        rw [← Ny129.out] at hr15
        rw [← hy15] at hcut15
        have HR132 := Aside0.mk hr15
        have HC132 := Aside0.mk (show y129.length ≤ c0 from by omega)
        clear hr15 hC15 hroom15 hi015 hsz15
        have KY15 := Aside0.mk hy15
        clear hy15
        replace q15 := eq_true q15
        refine hK.out _ _ ⟨((cb_ HB.out hw126_0 :)), ((cb_ HB.out hw126_1 :)), ((cb_ HB.out hw126_2 :)), ((cb_ HB.out hw126_3 :)), ((cb_ HB.out hw126_4 :)), ((cb_ HB.out hw126_5 :)), ((cb_ HB.out hw126_6 :)), ((cb_ HB.out hw128_0 :)), ((cb_ HB.out hw128_1 :)), ((cb_ HB.out hw128_2 :)), ((cb_ HB.out hw128_3 :)), ((cb_ HB.out hw128_4 :)), ((cb_ HB.out hw128_5 :)), ((cb_ HB.out hw128_6 :)), ((cb_ HB.out hw133_0 :)), ((cb_ HB.out hw133_1 :)), ((cb_ HB.out hw133_2 :)), ((cb_ HB.out hw133_3 :)), ((cb_ HB.out hw133_4 :)), ((cb_ HB.out hw133_5 :)), ((cb_ HB.out hw133_6 :))⟩ (fun hHeld => ?_)
        clear hK K
        refine no_ ?_
        refine pa_ 5 15 ?_
        refine pa_ 6 16 ?_
        refine pa_ 7 17 ?_
        refine pa_ 8 18 ?_
        refine pa_ 9 19 ?_
        refine pa_ 10 20 ?_
        refine pa_ 12 22 ?_
        refine pa_ 13 23 ?_
        refine pa_ 14 24 ?_
        refine pa_ 15 25 ?_
        refine pa_ 16 26 ?_
        refine pa_ 17 27 ?_
        refine pa_ 18 28 ?_
        refine ta21_ 11 21 hHeld ?_
        refine ta21_ 19 29 hHeld ?_
        refine on_ 20 30 (fun K hK => ?_)
        refine goes_ Tryd.func75 (by kernel_rfl) rfl #[.slice (some ad126) y129.length c0, .int .i64 ((rd_T56 l0 x3_1).f0)] (by rfl) rfl rfl ar_ ?_
        with_reducible refine (spec_l12Seq.calls k1 _ _ y129 ((rd_T56 l0 x3_1).f0) t134 _ ?side1 ?side2 A8.out).mono ?_
        (case side1 => exact cp_ HR132.out)
        (case side2 => exact HC132.out)
        rintro e w' ⟨rfl, ⟨nd, rfl⟩⟩
        refine ⟨_, rfl, ?_⟩
        refine hK.out _ _ ⟨((cb_ HB.out hw126_0 :)), ((cb_ HB.out hw126_1 :)), ((cb_ HB.out hw126_2 :)), ((cb_ HB.out hw126_3 :)), ((cb_ HB.out hw126_4 :)), ((cb_ HB.out hw126_5 :)), ((cb_ HB.out hw126_6 :)), ((cb_ HB.out hw128_0 :)), ((cb_ HB.out hw128_1 :)), ((cb_ HB.out hw128_2 :)), ((cb_ HB.out hw128_3 :)), ((cb_ HB.out hw128_4 :)), ((cb_ HB.out hw128_5 :)), ((cb_ HB.out hw128_6 :)), ((cb_ HB.out hw133_0 :)), ((cb_ HB.out hw133_1 :)), ((cb_ HB.out hw133_2 :)), ((cb_ HB.out hw133_3 :)), ((cb_ HB.out hw133_4 :)), ((cb_ HB.out hw133_5 :)), ((cb_ HB.out hw133_6 :))⟩ (fun hHeld => ?_)
        clear hK K
        refine no_ ?_
        refine pa_ 21 31 ?_
        refine pa_ 22 32 ?_
        refine pa_ 23 33 ?_
        refine done_ (done_of HT_.out (by kernel_rfl)) ?_
        try go_wp2
        go_ret
        exact ⟨fi_, bel_⟩
      ·rw [if_neg c7] at H
       exact absurd H (by simp)
     ·replace c5 := Bool.eq_false_iff.mpr c5
      subst c5
      have H1 : (some false) = some r := by rw [if_neg (show ¬ (false = true) by decide)] at H; exact H
      clear H
      have H := H1
      clear H1
      obtain rfl := Option.some.inj H
      try go_wp2
      have n0_ := Aside0.mk (below_drew1 HB.out)
      clear HB
      have HB := n0_
      clear n0_
      have p126 : 0 ≤ (x3_1 : Int) := od_
      have q126 : x3_1 < (l0.length : Int) := od_
      obtain ⟨ad126, e126, hx126_0, hx126_1, hx126_2, hx126_3, hx126_4, hx126_5, hx126_6⟩ := at_T56 HR0.out x3_1 p126 q126
      have hw126_6 := hx126_6
      have hw126_5 := hx126_5
      have hw126_4 := hx126_4
      have hw126_3 := hx126_3
      have hw126_2 := hx126_2
      have hw126_1 := hx126_1
      have hw126_0 := hx126_0
      cases e126
      replace hx126_0 := (cb_ HB.out hx126_0 :)
      replace hx126_1 := (cb_ HB.out hx126_1 :)
      replace hx126_2 := (cb_ HB.out hx126_2 :)
      replace hx126_3 := (cb_ HB.out hx126_3 :)
      replace hx126_4 := (cb_ HB.out hx126_4 :)
      replace hx126_5 := (cb_ HB.out hx126_5 :)
      replace hx126_6 := (cb_ HB.out hx126_6 :)
      replace p126 := eq_true p126
      replace q126 := eq_true q126
      refine start_ (n := 24) (S := fun w' => w'.cell? (ad126.add ((x3_1).toNat * 7)) = some (.int .i64 ((rd_T56 l0 x3_1).f0)) ∧ w'.cell? ⟨(ad126.add ((x3_1).toNat * 7)).block, (ad126.add ((x3_1).toNat * 7)).off + 1, none⟩ = some (.int .i64 ((rd_T56 l0 x3_1).f1)) ∧ w'.cell? ⟨(ad126.add ((x3_1).toNat * 7)).block, (ad126.add ((x3_1).toNat * 7)).off + 2, none⟩ = some (.int .i64 ((rd_T56 l0 x3_1).f2.f0)) ∧ w'.cell? ⟨(ad126.add ((x3_1).toNat * 7)).block, (ad126.add ((x3_1).toNat * 7)).off + 3, none⟩ = some (.int .i64 ((rd_T56 l0 x3_1).f2.f1)) ∧ w'.cell? ⟨(ad126.add ((x3_1).toNat * 7)).block, (ad126.add ((x3_1).toNat * 7)).off + 4, none⟩ = some (.int .i64 ((rd_T56 l0 x3_1).f2.f2)) ∧ w'.cell? ⟨(ad126.add ((x3_1).toNat * 7)).block, (ad126.add ((x3_1).toNat * 7)).off + 5, none⟩ = some (.int .i64 ((rd_T56 l0 x3_1).f2.f3)) ∧ w'.cell? ⟨(ad126.add ((x3_1).toNat * 7)).block, (ad126.add ((x3_1).toNat * 7)).off + 6, none⟩ = some (.string ((rd_T56 l0 x3_1).f2.f4))) (ds := []) #[false, false, false, false, false, false, false, false, false, false, false, false, false, false, false, false, false, false, false, false, false, false, false, false] (by kernel_rfl) rfl rfl ⟨((cb_ HB.out hw126_0 :)), ((cb_ HB.out hw126_1 :)), ((cb_ HB.out hw126_2 :)), ((cb_ HB.out hw126_3 :)), ((cb_ HB.out hw126_4 :)), ((cb_ HB.out hw126_5 :)), ((cb_ HB.out hw126_6 :))⟩ (fun hHeld => ?_); refine with_tabW spec_LogOk.tab4 spec_LogOk.bits4 (fun HT_ HW_ => ?_)
      generalize wr.drew = w16 at HB hx126_0 hx126_1 hx126_2 hx126_3 hx126_4 hx126_5 hx126_6 hHeld ⊢
      refine pa_ 0 10 ?_
      refine pa_ 1 11 ?_
      refine pa_ 2 12 ?_
      refine ta7_ 3 13 hHeld ?_
      refine on_ 4 14 (fun K hK => ?_)
      refine goes_ Tryd.func45 (by kernel_rfl) rfl #[.agg #[.int .i64 ((rd_T56 l0 x3_1).f0), .int .i64 ((rd_T56 l0 x3_1).f1), .int .i64 ((rd_T56 l0 x3_1).f2.f0), .int .i64 ((rd_T56 l0 x3_1).f2.f1), .int .i64 ((rd_T56 l0 x3_1).f2.f2), .int .i64 ((rd_T56 l0 x3_1).f2.f3), .string ((rd_T56 l0 x3_1).f2.f4)]] (by rfl) rfl rfl ar_ ?_
      with_reducible refine (spec_EntryOk.calls k1 ((rd_T56 l0 x3_1).f0) ((rd_T56 l0 x3_1).f1) ((rd_T56 l0 x3_1).f2.f0) ((rd_T56 l0 x3_1).f2.f1) ((rd_T56 l0 x3_1).f2.f2) ((rd_T56 l0 x3_1).f2.f3) ((rd_T56 l0 x3_1).f2.f4) false _ A4.out).mono ?_
      rintro e w17 ⟨rfl, hb⟩
      refine ⟨_, rfl, ?_⟩
      have n0_ := Aside0.mk (below_step (bel_) hb)
      clear HB
      have HB := n0_
      clear n0_
      (try clear hb)
      (try clear hb2)
      (try clear hk)
      (try clear hi)
      refine hK.out _ _ ⟨((cb_ HB.out hw126_0 :)), ((cb_ HB.out hw126_1 :)), ((cb_ HB.out hw126_2 :)), ((cb_ HB.out hw126_3 :)), ((cb_ HB.out hw126_4 :)), ((cb_ HB.out hw126_5 :)), ((cb_ HB.out hw126_6 :))⟩ (fun hHeld => ?_)
      clear hK K
      refine no_ ?_
      refine pa_ 5 15 ?_
      refine pa_ 6 16 ?_
      refine po_ 7 17 ?_
      refine po_ 8 18 ?_
      refine po_ 9 19 ?_
      refine po_ 10 20 ?_
      refine po_ 11 21 ?_
      refine po_ 12 22 ?_
      refine po_ 13 23 ?_
      refine po_ 14 24 ?_
      refine po_ 15 25 ?_
      refine po_ 16 26 ?_
      refine po_ 17 27 ?_
      refine po_ 18 28 ?_
      refine po_ 19 29 ?_
      refine po_ 20 30 ?_
      refine po_ 21 31 ?_
      refine po_ 22 32 ?_
      refine pa_ 23 33 ?_
      refine done_ (done_of HT_.out (by kernel_rfl)) ?_
      try go_wp2
      go_ret
      exact ⟨fi_, bel_⟩
    ·rw [if_neg c3] at H
     exact absurd H (by simp)
   ·rw [if_neg c2] at H
    have c2b0 : decide (x3_1 < (l0.length : Int)) = false := decide_eq_false c2
    clear c2
    obtain rfl := Option.some.inj H
    go_wp2
    go_ret
    exact ⟨fi_, bel_⟩

end Go.Proofs.YtnclcbjagleoeaaDoor.P
namespace Go.Proofs.YtnclcbjagleoeaaDoor.P
open Go.RowKit Go.Proofs.YtnclcbjagleoeaaDoorW.PrintWords Go.Proofs.YtnclcbjagleoeaaDoorW.PrintLast
set_option linter.unusedVariables false
set_option linter.unusedSimpArgs false
def spec_ServerOk.f (k : Nat) (l0_0 : List (S56)) (a0_1 : Int) (a0_2 : Bool) : Option (Bool) := (spec_LogOk.f k l0_0).bind fun t136 => (if t136 = true then ((spec_l6In.f a0_1 0 (l0_0.length : Int)).bind fun t137 => (some t137)) else (some false))
theorem spec_ServerOk.mono : ∀ a0 a1 a2 k, LeO (spec_ServerOk.f k a0 a1 a2) (spec_ServerOk.f (k + 1) a0 a1 a2) := by
 intro a0 a1 a2 k
 unfold spec_ServerOk.f
 repeat' first
   | (with_reducible exact spec_LogOk.mono _ _)
   | (with_reducible exact LeO.refl _)
   | (with_reducible exact LeO.none _)
   | (with_reducible refine LeO.ite ?_ ?_)
   | (with_reducible refine LeO.bind ?_ (fun _ => ?_))
   | exact spec_LogOk.mono _ _
   | exact LeO.none _
   | refine LeO.ite ?_ ?_
   | refine LeO.bind ?_ (fun _ => ?_)
set_option maxHeartbeats 8000000 in
set_option maxRecDepth 100000 in
theorem spec_ServerOk.calls (k : Nat) (A0_0 : Option Addr) (c0_0 : Nat) (l0_0 : List (S56)) (a0_1 : Int) (a0_2 : Bool) (r : Bool) (w : World) (hr0_0 : Kd.C k56 w A0_0 l0_0.length l0_0) (hc0_0 : l0_0.length ≤ c0_0) (h : spec_ServerOk.f k l0_0 a0_1 a0_2 = some r) :
  Calls Tryd.prog 27 #[.agg #[.slice A0_0 l0_0.length c0_0, .int .i64 a0_1, .bool a0_2]] w fun e w' => e = .returned (.bool r) ∧ Below w.heap.size w w' := by
 have hu29 := Tryd.underlying29
 have HR0_0 := Aside0.mk hr0_0
 have HC0_0 := Aside0.mk hc0_0
 clear hr0_0 hc0_0
 have HB := Aside0.mk (Below.refl w.heap.size w)
 have H : ((spec_LogOk.f k l0_0).bind fun t136 => (if t136 = true then ((spec_l6In.f a0_1 0 (l0_0.length : Int)).bind fun t137 => (some t137)) else (some false))) = some r := h
 clear h
 replace H := Option.bind_eq_some_iff.mp H
 obtain ⟨t136, A20, H⟩ := H
 replace H : (if t136 = true then ((spec_l6In.f a0_1 0 (l0_0.length : Int)).bind fun t137 => (some t137)) else (some false)) = some r := H
 have A2 := Aside0.mk A20
 clear A20
 by_cases c3 : t136 = true
 ·subst c3
  have H1 : ((spec_l6In.f a0_1 0 (l0_0.length : Int)).bind fun t137 => (some t137)) = some r := by rw [if_pos rfl] at H; exact H
  clear H
  have H := H1
  clear H1
  replace H := Option.bind_eq_some_iff.mp H
  obtain ⟨t137, A40, H⟩ := H
  replace H : (some t137) = some r := H
  have A4 := Aside0.mk A40
  clear A40
  obtain rfl := Option.some.inj H
  go_enter Tryd.func27, Tryd.ntmps27
  go_wp2_with (first | ((with_reducible refine gate_dst (N := 1) rfl ?_); refine box_event ?hg (N := 1) ?hd (cs := #[.slice A0_0 l0_0.length c0_0, .int .i64 a0_1, .bool a0_2]) (t := 29) ?hr ?_; (case hd => rfl); (case hg => rfl); (case hr => first | (go_simp; done) | (go_simp; rfl)); intro gb135 hg w5 hbox hb; have n0_ := Aside0.mk (below_step (bel_) hb); have n1_ := Aside0.mk (hbox); have n2_ := Aside0.mk ((by rw [hg]; exact (below_size (bel_)) : w.heap.size ≤ gb135)); have n3_ := Aside0.mk ((by rw [hg]; exact (below_size (bel_)) : w.heap.size ≤ gb135)); clear HB; have HB := n0_; have BK135 := n1_; have GW135 := n2_; have GE135 := n3_; clear n0_ n1_ n2_ n3_; clear hb hbox hg; have hcz6_0 : w5.cell? ⟨gb135, 0, none⟩ = some (.slice A0_0 l0_0.length c0_0) := (blk_cell BK135.out 0).trans rfl; have hcz6_1 : w5.cell? ⟨gb135, 1, none⟩ = some (.int .i64 a0_1) := (blk_cell BK135.out 1).trans rfl; have hcz6_2 : w5.cell? ⟨gb135, 2, none⟩ = some (.bool a0_2) := (blk_cell BK135.out 2).trans rfl; have hfz6_0 := blk_frozen BK135.out 0; have hfz6_1 := blk_frozen BK135.out 1; have hfz6_2 := blk_frozen BK135.out 2) | ((with_reducible refine gate_callee (f := 58) rfl ?_); refine gl_ 5 Tryd.func58 #[.slice A0_0 l0_0.length c0_0] ?_; (with_reducible refine (spec_LogOk.calls k _ _ l0_0 true _ ?side1 ?side2 A2.out).mono ?_); (case side1 => exact cp_ HR0_0.out); (case side2 => exact HC0_0.out); rintro e w7 ⟨rfl, hb⟩; refine ⟨_, rfl, ?_⟩; replace HB := Aside0.mk (below_step (bel_) hb); replace BK135 := Aside0.mk (blk_below (g := gb135) (o := .cells #[.slice A0_0 l0_0.length c0_0, .int .i64 a0_1, .bool a0_2] 29 (0, 0)) (bp_ BK135.out) hb); (try clear hb); (try clear hb2); (try clear hk); (try clear hi); have hcz8_0 : w7.cell? ⟨gb135, 0, none⟩ = some (.slice A0_0 l0_0.length c0_0) := (blk_cell BK135.out 0).trans rfl; have hcz8_1 : w7.cell? ⟨gb135, 1, none⟩ = some (.int .i64 a0_1) := (blk_cell BK135.out 1).trans rfl; have hcz8_2 : w7.cell? ⟨gb135, 2, none⟩ = some (.bool a0_2) := (blk_cell BK135.out 2).trans rfl; have hfz8_0 := blk_frozen BK135.out 0; have hfz8_1 := blk_frozen BK135.out 1; have hfz8_2 := blk_frozen BK135.out 2) | (go_at_call 49; (with_reducible refine (spec_l6In.calls a0_1 0 (l0_0.length : Int) t137 _ A4.out).mono ?_); rintro e w' ⟨rfl, ⟨nd, rfl⟩⟩))
  go_ret
  exact ⟨fi_, bel_⟩
 ·replace c3 := Bool.eq_false_iff.mpr c3
  subst c3
  have H1 : (some false) = some r := by rw [if_neg (show ¬ (false = true) by decide)] at H; exact H
  clear H
  have H := H1
  clear H1
  obtain rfl := Option.some.inj H
  go_enter Tryd.func27, Tryd.ntmps27
  go_wp2_with (first | ((with_reducible refine gate_dst (N := 1) rfl ?_); refine box_event ?hg (N := 1) ?hd (cs := #[.slice A0_0 l0_0.length c0_0, .int .i64 a0_1, .bool a0_2]) (t := 29) ?hr ?_; (case hd => rfl); (case hg => rfl); (case hr => first | (go_simp; done) | (go_simp; rfl)); intro gb135 hg w9 hbox hb; have n0_ := Aside0.mk (below_step (bel_) hb); have n1_ := Aside0.mk (hbox); have n2_ := Aside0.mk ((by rw [hg]; exact (below_size (bel_)) : w.heap.size ≤ gb135)); have n3_ := Aside0.mk ((by rw [hg]; exact (below_size (bel_)) : w.heap.size ≤ gb135)); clear HB; have HB := n0_; have BK135 := n1_; have GW135 := n2_; have GE135 := n3_; clear n0_ n1_ n2_ n3_; clear hb hbox hg; have hcz10_0 : w9.cell? ⟨gb135, 0, none⟩ = some (.slice A0_0 l0_0.length c0_0) := (blk_cell BK135.out 0).trans rfl; have hcz10_1 : w9.cell? ⟨gb135, 1, none⟩ = some (.int .i64 a0_1) := (blk_cell BK135.out 1).trans rfl; have hcz10_2 : w9.cell? ⟨gb135, 2, none⟩ = some (.bool a0_2) := (blk_cell BK135.out 2).trans rfl; have hfz10_0 := blk_frozen BK135.out 0; have hfz10_1 := blk_frozen BK135.out 1; have hfz10_2 := blk_frozen BK135.out 2) | ((with_reducible refine gate_callee (f := 58) rfl ?_); refine gl_ 5 Tryd.func58 #[.slice A0_0 l0_0.length c0_0] ?_; (with_reducible refine (spec_LogOk.calls k _ _ l0_0 false _ ?side1 ?side2 A2.out).mono ?_); (case side1 => exact cp_ HR0_0.out); (case side2 => exact HC0_0.out); rintro e w11 ⟨rfl, hb⟩; refine ⟨_, rfl, ?_⟩; replace HB := Aside0.mk (below_step (bel_) hb); replace BK135 := Aside0.mk (blk_below (g := gb135) (o := .cells #[.slice A0_0 l0_0.length c0_0, .int .i64 a0_1, .bool a0_2] 29 (0, 0)) (bp_ BK135.out) hb); (try clear hb); (try clear hb2); (try clear hk); (try clear hi)))
  go_ret
  exact ⟨fi_, bel_⟩

def impl_whoOk.f (a0 : Int) : Option (Bool) := if a0 ≥ 1 then (some (decide (a0 ≤ 3))) else (some false)
set_option maxHeartbeats 8000000 in
set_option maxRecDepth 100000 in
theorem impl_whoOk.calls (a0 : Int) (r : Bool) (w : World) (h : impl_whoOk.f a0 = some r) :
  Calls Tryd.prog 77 #[.int .i64 a0] w fun e w' => e = .returned (.bool r) ∧ Drawn0 w w' := by
 have H : (if a0 ≥ 1 then (some (decide (a0 ≤ 3))) else (some false)) = some r := h
 clear h
 by_cases c2 : a0 ≥ 1
 ·rw [if_pos c2] at H
  have c2b0 : decide (1 ≤ a0) = true := decide_eq_true c2
  clear c2
  obtain rfl := Option.some.inj H
  go_enter Tryd.func77, Tryd.ntmps77
  go_wp2
  go_ret
  exact ⟨si_, by repeat (first | exact Drawn0.refl _ | apply Drawn0.step)⟩
 ·rw [if_neg c2] at H
  have c2b0 : decide (1 ≤ a0) = false := decide_eq_false c2
  clear c2
  obtain rfl := Option.some.inj H
  go_enter Tryd.func77, Tryd.ntmps77
  go_wp2
  go_ret
  exact ⟨si_, by repeat (first | exact Drawn0.refl _ | apply Drawn0.step)⟩

end Go.Proofs.YtnclcbjagleoeaaDoor.P
namespace Go.Proofs.YtnclcbjagleoeaaDoor.P
open Go.RowKit
def owners : List Int := [0, 1, 1, 1, 0, 0, 0, 0, 0, 0, 0, 2, 2, 2, 2, 2, 2, 0, 0, 0, 0, 3, 3, 3, 3, 3, 3, 0, 0, 0, 0, 4, 4, 4, 4, 4, 4]
/-- The table reads as the program's text lays it. -/
def Glob (w : World) : Prop := Lib.TabIs Tryd.prog w "loop.example/plashet/impl.rowOwners" .i64 owners
theorem gOwners : Tryd.prog.globalNamed "loop.example/plashet/impl.rowOwners" = some 0 := by kernel_rfl
theorem Glob.var {w : World} (h : Glob w) : w.var? Tryd.prog "loop.example/plashet/impl.rowOwners" = some (owners.map fun z => Value.int .i64 z).toArray := h
theorem Glob.lt {w : World} (h : Glob w) : 0 < w.heap.size := by
  have h := h.var
  unfold World.var? at h
  simp only [gOwners, Option.bind_some] at h
  rcases Nat.lt_or_ge 0 w.heap.size with hl | hl
  · exact hl
  · rw [Array.getElem?_eq_none hl] at h
    cases h
theorem Glob.below {w w' : World} (h : Glob w) (hb : Below w.heap.size w w') : Glob w' := by
  have hl := h.lt
  have h := h.var
  unfold Glob Lib.TabIs World.var? at *
  simp only [gOwners, Option.bind_some] at h ⊢
  rw [hb.block _ hl]
  exact h
theorem Glob.drew {w : World} (h : Glob w) : Glob w.drew := by
  have h := h.var
  unfold Glob Lib.TabIs World.var? at *
  exact h
theorem Glob.drewN {w : World} (h : Glob w) (n : Nat) : Glob (w.drewN n) := by
  induction n generalizing w with
  | zero => exact h
  | succ n ih => rw [← World.drew_drewN]; exact ih h.drew
theorem Glob.cell {w : World} (h : Glob w) (i : Nat) (hi : i < 37) : w.cell? ⟨0, i, none⟩ = some (.int .i64 (owners.getD i 0)) := by
  have hc := World.var?_cell gOwners h.var i
  rw [hc]
  have hl : i < owners.length := hi
  simp [List.getD_eq_getElem?_getD, List.getElem?_eq_getElem hl]
/-- Who makes row 'id', plus one; 0: there is no such row. -/
def ownI (id : Int) : Int := if 0 ≤ id ∧ id < 37 then owners.getD id.toNat 0 else 0
theorem Glob.at_ {w : World} (h : Glob w) (i : Int) (h0 : 0 ≤ i) (h1 : i < 37) : w.cell? ⟨0, i.toNat, none⟩ = some (.int .i64 (ownI i)) := by
  have := h.cell i.toNat (by omega)
  rw [ownI, if_pos ⟨h0, h1⟩]
  exact this
theorem owners_range : ∀ z ∈ owners, 0 ≤ z ∧ z ≤ 4 := by decide
theorem ownI_range (i : Int) : 0 ≤ ownI i ∧ ownI i ≤ 4 := by
  unfold ownI
  split
  · rename_i h
    have hl : i.toNat < owners.length := by have : owners.length = 37 := rfl; omega
    rw [List.getD_eq_getElem?_getD, List.getElem?_eq_getElem hl]
    exact owners_range _ (List.getElem_mem hl)
  · omega
end Go.Proofs.YtnclcbjagleoeaaDoor.P
namespace Go.Proofs.YtnclcbjagleoeaaDoor.P
open Go.RowKit Go.Proofs.YtnclcbjagleoeaaDoorW.PrintWords
def impl_RowWho.f (a0 : Int) : Option (Int × Bool) := some (if ownI a0 = 0 then (0, false) else (ownI a0 - 1, true))
set_option maxHeartbeats 800000 in
theorem impl_RowWho.calls (a0 : Int) (r1 : Int) (r2 : Bool) (w : World) (h : impl_RowWho.f a0 = some (r1, r2)) (hG : Glob w) :
    Calls Tryd.prog 79 #[.int .i64 a0] w fun e w' => e = .returned (.tuple #[.int .i64 r1, .bool r2]) ∧ Drawn0 w w' := by
  unfold impl_RowWho.f at h
  by_cases h0 : 0 ≤ a0
  · by_cases h1 : a0 < 37
    · have hc := hG.at_ a0 h0 h1
      have hr := ownI_range a0
      generalize ownI a0 = z at hc hr h
      by_cases hz : z = 0
      · subst hz
        simp only [if_true, Option.some.injEq, Prod.mk.injEq] at h
        obtain ⟨rfl, rfl⟩ := h
        clear hr hG
        go_enter Tryd.func79, Tryd.ntmps79
        go_wp2
        go_ret2
        exact ⟨rfl, Drawn0.refl _⟩
      · rw [if_neg hz] at h
        simp only [Option.some.injEq, Prod.mk.injEq] at h
        obtain ⟨rfl, rfl⟩ := h
        have hz1 : (z == 0) = false := beq_eq_false_iff_ne.2 hz
        have hr1 : 0 ≤ z := hr.1
        have hr2 : z ≤ 4 := hr.2
        clear hr hG
        go_enter Tryd.func79, Tryd.ntmps79
        go_wp2
        go_ret2
        exact ⟨rfl, Drawn0.refl _⟩
    · have e : ownI a0 = 0 := by rw [ownI, if_neg (by omega)]
      rw [if_pos e] at h
      simp only [Option.some.injEq, Prod.mk.injEq] at h
      obtain ⟨rfl, rfl⟩ := h
      clear e hG
      go_enter Tryd.func79, Tryd.ntmps79
      go_wp2
      go_ret2
      exact ⟨rfl, Drawn0.refl _⟩
  · have e : ownI a0 = 0 := by rw [ownI, if_neg (by omega)]
    rw [if_pos e] at h
    simp only [Option.some.injEq, Prod.mk.injEq] at h
    obtain ⟨rfl, rfl⟩ := h
    clear e hG
    have hlt : a0 < 0 := by omega
    go_enter Tryd.func79, Tryd.ntmps79
    go_wp2
    go_ret2
    exact ⟨rfl, Drawn0.refl _⟩
end Go.Proofs.YtnclcbjagleoeaaDoor.P
namespace Go.Proofs.YtnclcbjagleoeaaDoor.P
open Go.RowKit Go.Proofs.YtnclcbjagleoeaaDoorW.PrintWords Go.Proofs.YtnclcbjagleoeaaDoorW.PrintLast
set_option linter.unusedVariables false
set_option linter.unusedSimpArgs false
def impl_isMade.f (a0 : Int) : Option (Bool) := (impl_RowWho.f a0).bind fun bt189 => (if bt189.2 = true then (some (bt189.1 != 0)) else (some false))
set_option maxHeartbeats 8000000 in
set_option maxRecDepth 100000 in
theorem impl_isMade.calls (a0 : Int) (r : Bool) (w : World) (h : impl_isMade.f a0 = some r) (hG : Glob w) :
  Calls Tryd.prog 102 #[.int .i64 a0] w fun e w' => e = .returned (.bool r) ∧ Drawn0 w w' := by
 have HG := Aside0.mk hG
 clear hG
 have H : ((impl_RowWho.f a0).bind fun bt189 => (if bt189.2 = true then (some (bt189.1 != 0)) else (some false))) = some r := h
 clear h
 replace H := Option.bind_eq_some_iff.mp H
 obtain ⟨⟨t189, t190⟩, A20, H⟩ := H
 replace H : (if t190 = true then (some (t189 != 0)) else (some false)) = some r := H
 have A2 := Aside0.mk A20
 clear A20
 by_cases c3 : t190 = true
 ·subst c3
  have H1 : (some (t189 != 0)) = some r := by rw [if_pos rfl] at H; exact H
  clear H
  have H := H1
  clear H1
  obtain rfl := Option.some.inj H
  go_enter Tryd.func102, Tryd.ntmps102
  go_wp2_with (first | ((with_reducible refine gate_callee (f := 79) rfl ?_); refine gl_ 7 Tryd.func79 #[.int .i64 a0] ?_; (with_reducible refine (impl_RowWho.calls a0 t189 true _ A2.out ?side1).mono ?_); (case side1 => repeat (first | (with_reducible first | exact HG.out | apply Glob.drewN | apply Glob.drew) | exact HG.out)); rintro e w' ⟨rfl, ⟨nd, rfl⟩⟩; refine ⟨_, rfl, ?_⟩))
  go_ret
  exact ⟨si_, by repeat (first | exact Drawn0.refl _ | apply Drawn0.step)⟩
 ·replace c3 := Bool.eq_false_iff.mpr c3
  subst c3
  have H1 : (some false) = some r := by rw [if_neg (show ¬ (false = true) by decide)] at H; exact H
  clear H
  have H := H1
  clear H1
  obtain rfl := Option.some.inj H
  go_enter Tryd.func102, Tryd.ntmps102
  go_wp2_with (first | ((with_reducible refine gate_callee (f := 79) rfl ?_); refine gl_ 7 Tryd.func79 #[.int .i64 a0] ?_; (with_reducible refine (impl_RowWho.calls a0 t189 false _ A2.out ?side1).mono ?_); (case side1 => repeat (first | (with_reducible first | exact HG.out | apply Glob.drewN | apply Glob.drew) | exact HG.out)); rintro e w' ⟨rfl, ⟨nd, rfl⟩⟩; refine ⟨_, rfl, ?_⟩))
  go_ret
  exact ⟨si_, by repeat (first | exact Drawn0.refl _ | apply Drawn0.step)⟩

def impl_isRoot.f (a0 : Int) : Option (Bool) := (impl_RowWho.f a0).bind fun bt191 => (if bt191.2 = true then (some (bt191.1 == 0)) else (some false))
set_option maxHeartbeats 8000000 in
set_option maxRecDepth 100000 in
theorem impl_isRoot.calls (a0 : Int) (r : Bool) (w : World) (h : impl_isRoot.f a0 = some r) (hG : Glob w) :
  Calls Tryd.prog 107 #[.int .i64 a0] w fun e w' => e = .returned (.bool r) ∧ Drawn0 w w' := by
 have HG := Aside0.mk hG
 clear hG
 have H : ((impl_RowWho.f a0).bind fun bt191 => (if bt191.2 = true then (some (bt191.1 == 0)) else (some false))) = some r := h
 clear h
 replace H := Option.bind_eq_some_iff.mp H
 obtain ⟨⟨t191, t192⟩, A20, H⟩ := H
 replace H : (if t192 = true then (some (t191 == 0)) else (some false)) = some r := H
 have A2 := Aside0.mk A20
 clear A20
 by_cases c3 : t192 = true
 ·subst c3
  have H1 : (some (t191 == 0)) = some r := by rw [if_pos rfl] at H; exact H
  clear H
  have H := H1
  clear H1
  obtain rfl := Option.some.inj H
  go_enter Tryd.func107, Tryd.ntmps107
  go_wp2_with (first | ((with_reducible refine gate_callee (f := 79) rfl ?_); refine gl_ 7 Tryd.func79 #[.int .i64 a0] ?_; (with_reducible refine (impl_RowWho.calls a0 t191 true _ A2.out ?side1).mono ?_); (case side1 => repeat (first | (with_reducible first | exact HG.out | apply Glob.drewN | apply Glob.drew) | exact HG.out)); rintro e w' ⟨rfl, ⟨nd, rfl⟩⟩; refine ⟨_, rfl, ?_⟩))
  go_ret
  exact ⟨si_, by repeat (first | exact Drawn0.refl _ | apply Drawn0.step)⟩
 ·replace c3 := Bool.eq_false_iff.mpr c3
  subst c3
  have H1 : (some false) = some r := by rw [if_neg (show ¬ (false = true) by decide)] at H; exact H
  clear H
  have H := H1
  clear H1
  obtain rfl := Option.some.inj H
  go_enter Tryd.func107, Tryd.ntmps107
  go_wp2_with (first | ((with_reducible refine gate_callee (f := 79) rfl ?_); refine gl_ 7 Tryd.func79 #[.int .i64 a0] ?_; (with_reducible refine (impl_RowWho.calls a0 t191 false _ A2.out ?side1).mono ?_); (case side1 => repeat (first | (with_reducible first | exact HG.out | apply Glob.drewN | apply Glob.drew) | exact HG.out)); rintro e w' ⟨rfl, ⟨nd, rfl⟩⟩; refine ⟨_, rfl, ?_⟩))
  go_ret
  exact ⟨si_, by repeat (first | exact Drawn0.refl _ | apply Drawn0.step)⟩

def impl_placeOk.f (a0 : Int) (a1 : Int) : Option (Bool) := (impl_isMade.f a0).bind fun t193 => (if t193 = true then (if a1 = 0 then (some true) else ((impl_isMade.f a1).bind fun t194 => (some t194))) else ((impl_isRoot.f a0).bind fun t195 => (if t195 = true then (if a1 = 0 then (some true) else ((impl_isMade.f a1).bind fun t196 => (some t196))) else (some false))))
set_option maxHeartbeats 8000000 in
set_option maxRecDepth 100000 in
theorem impl_placeOk.calls (a0 : Int) (a1 : Int) (r : Bool) (w : World) (h : impl_placeOk.f a0 a1 = some r) (hG : Glob w) :
  Calls Tryd.prog 103 #[.int .i64 a0, .int .i64 a1] w fun e w' => e = .returned (.bool r) ∧ Drawn0 w w' := by
 have HG := Aside0.mk hG
 clear hG
 have H : ((impl_isMade.f a0).bind fun t193 => (if t193 = true then (if a1 = 0 then (some true) else ((impl_isMade.f a1).bind fun t194 => (some t194))) else ((impl_isRoot.f a0).bind fun t195 => (if t195 = true then (if a1 = 0 then (some true) else ((impl_isMade.f a1).bind fun t196 => (some t196))) else (some false))))) = some r := h
 clear h
 replace H := Option.bind_eq_some_iff.mp H
 obtain ⟨t193, A30, H⟩ := H
 replace H : (if t193 = true then (if a1 = 0 then (some true) else ((impl_isMade.f a1).bind fun t194 => (some t194))) else ((impl_isRoot.f a0).bind fun t195 => (if t195 = true then (if a1 = 0 then (some true) else ((impl_isMade.f a1).bind fun t196 => (some t196))) else (some false)))) = some r := H
 have A3 := Aside0.mk A30
 clear A30
 by_cases c4 : t193 = true
 ·subst c4
  have H1 : (if a1 = 0 then (some true) else ((impl_isMade.f a1).bind fun t194 => (some t194))) = some r := by rw [if_pos rfl] at H; exact H
  clear H
  have H := H1
  clear H1
  by_cases c5 : a1 = 0
  ·rw [if_pos c5] at H
   have c5b0 : (a1 == 0) = true := beq_iff_eq.mpr c5
   have c5b1 : (a1 != 0) = false := bne_eq_false_iff_eq.mpr c5
   clear c5
   obtain rfl := Option.some.inj H
   go_enter Tryd.func103, Tryd.ntmps103
   go_wp2_with (first | ((with_reducible refine gate_callee (f := 102) rfl ?_); refine gl_ 6 Tryd.func102 #[.int .i64 a0] ?_; (with_reducible refine (impl_isMade.calls a0 true _ A3.out ?side1).mono ?_); (case side1 => repeat (first | (with_reducible first | exact HG.out | apply Glob.drewN | apply Glob.drew) | exact HG.out)); rintro e w' ⟨rfl, ⟨nd, rfl⟩⟩; refine ⟨_, rfl, ?_⟩))
   go_ret
   exact ⟨si_, by repeat (first | exact Drawn0.refl _ | apply Drawn0.step)⟩
  ·rw [if_neg c5] at H
   have c5b0 : (a1 == 0) = false := beq_eq_false_iff_ne.mpr c5
   have c5b1 : (a1 != 0) = true := bne_iff_ne.mpr c5
   replace H := Option.bind_eq_some_iff.mp H
   obtain ⟨t194, A60, H⟩ := H
   replace H : (some t194) = some r := H
   have A6 := Aside0.mk A60
   clear A60
   obtain rfl := Option.some.inj H
   go_enter Tryd.func103, Tryd.ntmps103
   go_wp2_with (first | ((with_reducible refine gate_callee (f := 102) rfl ?_); refine gl_ 6 Tryd.func102 #[.int .i64 a0] ?_; (with_reducible refine (impl_isMade.calls a0 true _ A3.out ?side1).mono ?_); (case side1 => repeat (first | (with_reducible first | exact HG.out | apply Glob.drewN | apply Glob.drew) | exact HG.out)); rintro e w' ⟨rfl, ⟨nd, rfl⟩⟩; refine ⟨_, rfl, ?_⟩) | (go_at_call 102; (with_reducible refine (impl_isMade.calls a1 t194 _ A6.out ?side1).mono ?_); (case side1 => repeat (first | (with_reducible first | exact HG.out | apply Glob.drewN | apply Glob.drew) | exact HG.out)); rintro e w' ⟨rfl, ⟨nd, rfl⟩⟩))
   go_ret
   exact ⟨si_, by repeat (first | exact Drawn0.refl _ | apply Drawn0.step)⟩
 ·replace c4 := Bool.eq_false_iff.mpr c4
  subst c4
  have H1 : ((impl_isRoot.f a0).bind fun t195 => (if t195 = true then (if a1 = 0 then (some true) else ((impl_isMade.f a1).bind fun t196 => (some t196))) else (some false))) = some r := by rw [if_neg (show ¬ (false = true) by decide)] at H; exact H
  clear H
  have H := H1
  clear H1
  replace H := Option.bind_eq_some_iff.mp H
  obtain ⟨t195, A70, H⟩ := H
  replace H : (if t195 = true then (if a1 = 0 then (some true) else ((impl_isMade.f a1).bind fun t196 => (some t196))) else (some false)) = some r := H
  have A7 := Aside0.mk A70
  clear A70
  by_cases c8 : t195 = true
  ·subst c8
   have H1 : (if a1 = 0 then (some true) else ((impl_isMade.f a1).bind fun t196 => (some t196))) = some r := by rw [if_pos rfl] at H; exact H
   clear H
   have H := H1
   clear H1
   by_cases c9 : a1 = 0
   ·rw [if_pos c9] at H
    have c9b0 : (a1 == 0) = true := beq_iff_eq.mpr c9
    have c9b1 : (a1 != 0) = false := bne_eq_false_iff_eq.mpr c9
    clear c9
    obtain rfl := Option.some.inj H
    go_enter Tryd.func103, Tryd.ntmps103
    go_wp2_with (first | ((with_reducible refine gate_callee (f := 102) rfl ?_); refine gl_ 6 Tryd.func102 #[.int .i64 a0] ?_; (with_reducible refine (impl_isMade.calls a0 false _ A3.out ?side1).mono ?_); (case side1 => repeat (first | (with_reducible first | exact HG.out | apply Glob.drewN | apply Glob.drew) | exact HG.out)); rintro e w' ⟨rfl, ⟨nd, rfl⟩⟩; refine ⟨_, rfl, ?_⟩) | (go_at_call 107; (with_reducible refine (impl_isRoot.calls a0 true _ A7.out ?side1).mono ?_); (case side1 => repeat (first | (with_reducible first | exact HG.out | apply Glob.drewN | apply Glob.drew) | exact HG.out)); rintro e w' ⟨rfl, ⟨nd, rfl⟩⟩))
    go_ret
    exact ⟨si_, by repeat (first | exact Drawn0.refl _ | apply Drawn0.step)⟩
   ·rw [if_neg c9] at H
    have c9b0 : (a1 == 0) = false := beq_eq_false_iff_ne.mpr c9
    have c9b1 : (a1 != 0) = true := bne_iff_ne.mpr c9
    replace H := Option.bind_eq_some_iff.mp H
    obtain ⟨t196, A100, H⟩ := H
    replace H : (some t196) = some r := H
    have A10 := Aside0.mk A100
    clear A100
    obtain rfl := Option.some.inj H
    go_enter Tryd.func103, Tryd.ntmps103
    go_wp2_with (first | ((with_reducible refine gate_callee (f := 102) rfl ?_); refine gl_ 6 Tryd.func102 #[.int .i64 a0] ?_; (with_reducible refine (impl_isMade.calls a0 false _ A3.out ?side1).mono ?_); (case side1 => repeat (first | (with_reducible first | exact HG.out | apply Glob.drewN | apply Glob.drew) | exact HG.out)); rintro e w' ⟨rfl, ⟨nd, rfl⟩⟩; refine ⟨_, rfl, ?_⟩) | (go_at_call 107; (with_reducible refine (impl_isRoot.calls a0 true _ A7.out ?side1).mono ?_); (case side1 => repeat (first | (with_reducible first | exact HG.out | apply Glob.drewN | apply Glob.drew) | exact HG.out)); rintro e w' ⟨rfl, ⟨nd, rfl⟩⟩) | (go_at_call 102; (with_reducible refine (impl_isMade.calls a1 t196 _ A10.out ?side1).mono ?_); (case side1 => repeat (first | (with_reducible first | exact HG.out | apply Glob.drewN | apply Glob.drew) | exact HG.out)); rintro e w' ⟨rfl, ⟨nd, rfl⟩⟩))
    go_ret
    exact ⟨si_, by repeat (first | exact Drawn0.refl _ | apply Drawn0.step)⟩
  ·replace c8 := Bool.eq_false_iff.mpr c8
   subst c8
   have H1 : (some false) = some r := by rw [if_neg (show ¬ (false = true) by decide)] at H; exact H
   clear H
   have H := H1
   clear H1
   obtain rfl := Option.some.inj H
   go_enter Tryd.func103, Tryd.ntmps103
   go_wp2_with (first | ((with_reducible refine gate_callee (f := 102) rfl ?_); refine gl_ 6 Tryd.func102 #[.int .i64 a0] ?_; (with_reducible refine (impl_isMade.calls a0 false _ A3.out ?side1).mono ?_); (case side1 => repeat (first | (with_reducible first | exact HG.out | apply Glob.drewN | apply Glob.drew) | exact HG.out)); rintro e w' ⟨rfl, ⟨nd, rfl⟩⟩; refine ⟨_, rfl, ?_⟩) | (go_at_call 107; (with_reducible refine (impl_isRoot.calls a0 false _ A7.out ?side1).mono ?_); (case side1 => repeat (first | (with_reducible first | exact HG.out | apply Glob.drewN | apply Glob.drew) | exact HG.out)); rintro e w' ⟨rfl, ⟨nd, rfl⟩⟩))
   go_ret
   exact ⟨si_, by repeat (first | exact Drawn0.refl _ | apply Drawn0.step)⟩

def impl_textOk.l0 : Nat → ByteArray → Int → Option (Bool)
 | 0, _, _ => none
 | k + 1, x0, x3 => if x3 < (x0.size : Int) then (if 0 ≤ x3 then (if (bt x0 x3) < 97 then (some false) else (if (bt x0 x3) > 100 then (some false) else (impl_textOk.l0 k x0 (wrap64 (x3 + 1))))) else (none)) else (some true)
def impl_textOk.f (k : Nat) (a0 : ByteArray) : Option (Bool) := if (a0.size : Int) > 4 then (some false) else (impl_textOk.l0 k a0 0)
theorem impl_textOk.mono_l : ∀ k, (∀ y0 y1, LeO (impl_textOk.l0 k y0 y1) (impl_textOk.l0 (k + 1) y0 y1))
 | 0 => fun _ _ r h => by simp [impl_textOk.l0] at h
 | k + 1 => by
  have ih0 := impl_textOk.mono_l k
  ·intro y0 y1
   unfold impl_textOk.l0
   repeat' first
   | (with_reducible exact ih0 _ _)
   | (with_reducible exact LeO.refl _)
   | (with_reducible exact LeO.none _)
   | (with_reducible refine LeO.ite ?_ ?_)
   | (with_reducible refine LeO.bind ?_ (fun _ => ?_))
   | exact ih0 _ _
   | exact LeO.none _
   | refine LeO.ite ?_ ?_
   | refine LeO.bind ?_ (fun _ => ?_)
theorem impl_textOk.mono : ∀ a0 k, LeO (impl_textOk.f k a0) (impl_textOk.f (k + 1) a0) := by
 intro a0 k
 have ih0 := impl_textOk.mono_l k
 unfold impl_textOk.f
 repeat' first
   | (with_reducible exact ih0 _ _)
   | (with_reducible exact LeO.refl _)
   | (with_reducible exact LeO.none _)
   | (with_reducible refine LeO.ite ?_ ?_)
   | (with_reducible refine LeO.bind ?_ (fun _ => ?_))
   | exact ih0 _ _
   | exact LeO.none _
   | refine LeO.ite ?_ ?_
   | refine LeO.bind ?_ (fun _ => ?_)
set_option maxHeartbeats 8000000 in
set_option maxRecDepth 100000 in
theorem impl_textOk.calls (k : Nat) (a0 : ByteArray) (r : Bool) (w : World) (h : impl_textOk.f k a0 = some r) :
  Calls Tryd.prog 104 #[.string a0] w fun e w' => e = .returned (.bool r) ∧ Drawn0 w w' := by
 have H : (if (a0.size : Int) > 4 then (some false) else (impl_textOk.l0 k a0 0)) = some r := h
 clear h
 by_cases c2 : (a0.size : Int) > 4
 ·rw [if_pos c2] at H
  have c2b0 : decide (4 < (a0.size : Int)) = true := decide_eq_true c2
  have c2b1 : decide (4 < a0.size) = true := decide_eq_true (by omega)
  clear c2
  obtain rfl := Option.some.inj H
  go_enter Tryd.func104, Tryd.ntmps104
  go_wp2
  go_ret
  exact ⟨si_, by repeat (first | exact Drawn0.refl _ | apply Drawn0.step)⟩
 ·rw [if_neg c2] at H
  have c2b0 : decide (4 < (a0.size : Int)) = false := decide_eq_false c2
  have c2b1 : decide (4 < a0.size) = false := decide_eq_false (by omega)
  clear c2
  have H' := Aside0.mk H
  clear H
  go_enter Tryd.func104, Tryd.ntmps104
  go_wp2
  go_loopg [3] k (fun kq v3 w' => ∃ (x3_1 : Int), v3 = .int .i64 x3_1 ∧ Aside0 (impl_textOk.l0 kq a0 x3_1 = some r) ∧ Aside0 (kq ≤ k) ∧ Drawn0 w w')
  case atStart => exact ⟨(0), (si_), H', ⟨Nat.le_refl _⟩, by repeat (first | exact Drawn0.refl _ | apply Drawn0.step)⟩
  case round =>
   clear H'
   try clear c1
   try clear c2
   try clear c2b0
   try clear c2b1
   try clear p2
   obtain ⟨x3_1, rfl, HA, HK1, ⟨m1, rfl⟩⟩ := hrel
   cases gk with
   | zero => exact absurd HA.out (by simp [impl_textOk.l0])
   | succ k1 =>
    have H := HA.out
    clear HA
    simp only [impl_textOk.l0] at H
    by_cases c3 : x3_1 < (a0.size : Int)
    ·rw [if_pos c3] at H
     have c3b0 : decide (x3_1 < (a0.size : Int)) = true := decide_eq_true c3
     clear c3
     by_cases c4 : 0 ≤ x3_1
     ·rw [if_pos c4] at H
      have c4b0 : decide (0 ≤ x3_1) = true := decide_eq_true c4
      clear c4
      by_cases c6 : (bt a0 x3_1) < 97
      ·rw [if_pos c6] at H
       have c6b0 : decide ((bt a0 x3_1) < 97) = true := decide_eq_true c6
       clear c6
       obtain rfl := Option.some.inj H
       have p5 : 0 ≤ (x3_1 : Int) := od_
       have q5 : x3_1 < (a0.size : Int) := od_
       have hx5 := bt_at a0 x3_1
       replace p5 := eq_true p5
       replace q5 := eq_true q5
       go_wp2
       go_ret
       exact ⟨si_, by repeat (first | exact Drawn0.refl _ | apply Drawn0.step)⟩
      ·rw [if_neg c6] at H
       have c6b0 : decide ((bt a0 x3_1) < 97) = false := decide_eq_false c6
       clear c6
       by_cases c8 : (bt a0 x3_1) > 100
       ·rw [if_pos c8] at H
        have c8b0 : decide (100 < (bt a0 x3_1)) = true := decide_eq_true c8
        clear c8
        obtain rfl := Option.some.inj H
        have p5 : 0 ≤ (x3_1 : Int) := od_
        have q5 : x3_1 < (a0.size : Int) := od_
        have hx5 := bt_at a0 x3_1
        replace p5 := eq_true p5
        replace q5 := eq_true q5
        have p7 : 0 ≤ (x3_1 : Int) := od_
        have q7 : x3_1 < (a0.size : Int) := od_
        have hx7 := bt_at a0 x3_1
        replace p7 := eq_true p7
        replace q7 := eq_true q7
        go_wp2
        go_ret
        exact ⟨si_, by repeat (first | exact Drawn0.refl _ | apply Drawn0.step)⟩
       ·rw [if_neg c8] at H
        have c8b0 : decide (100 < (bt a0 x3_1)) = false := decide_eq_false c8
        clear c8
        have H' := Aside0.mk H
        clear H
        have p5 : 0 ≤ (x3_1 : Int) := od_
        have q5 : x3_1 < (a0.size : Int) := od_
        have hx5 := bt_at a0 x3_1
        replace p5 := eq_true p5
        replace q5 := eq_true q5
        have p7 : 0 ≤ (x3_1 : Int) := od_
        have q7 : x3_1 < (a0.size : Int) := od_
        have hx7 := bt_at a0 x3_1
        replace p7 := eq_true p7
        replace q7 := eq_true q7
        go_wp2
        go_roundg k1
        case measure => have := HK1.out; omega
        case rel => exact ⟨(wrap64 (x3_1 + 1)), (si_), H', ⟨by have := HK1.out; omega⟩, by repeat (first | exact Drawn0.refl _ | apply Drawn0.step)⟩
     ·rw [if_neg c4] at H
      exact absurd H (by simp)
    ·rw [if_neg c3] at H
     have c3b0 : decide (x3_1 < (a0.size : Int)) = false := decide_eq_false c3
     clear c3
     obtain rfl := Option.some.inj H
     go_wp2
     go_ret
     exact ⟨si_, by repeat (first | exact Drawn0.refl _ | apply Drawn0.step)⟩


end Go.Proofs.YtnclcbjagleoeaaDoor.P
namespace Go.Proofs.YtnclcbjagleoeaaDoor.P
open Go.RowKit Go.Proofs.YtnclcbjagleoeaaDoorW.PrintWords Go.Proofs.YtnclcbjagleoeaaDoorW.PrintLast Go.Proofs.YtnclcbjagleoeaaDoorW.PrintMore
theorem quiet_d {P : Program} {f : FuncId} {args : Array Value} {w : World} {d n : Nat} {v : Value} (h : Calls P f args (w.drewN (d + n)) fun e w' => e = .returned v ∧ Drawn0 (w.drewN (d + n)) w') :
    Calls P f args (w.drewN (d + n)) fun e w'' => e = .returned v ∧ ∃ m, w'' = w.drewN (d + m) :=
  h.mono fun _ _ ⟨he, ⟨m, hm⟩⟩ => ⟨he, n + m, by rw [hm, World.drewN_drewN, Nat.add_assoc]⟩
def impl_changeOf.f (k : Nat) (a0 a1 a2 a3 : Int) (a4 : ByteArray) : Option Bool :=
  (impl_isMade.f a1).bind fun m => if m = true then
    (if a0 = 1 then ((impl_placeOk.f a2 a3).bind fun p => if p = true then impl_textOk.f k a4 else some false)
    else if a0 = 2 then (if a2 = 0 then (if a3 = 0 then impl_textOk.f k a4 else some false) else some false)
    else if a0 = 3 then ((impl_placeOk.f a2 a3).bind fun p => if p = true then some (a4.toList.isEmpty) else some false)
    else some false) else some false
theorem impl_changeOf.mono (a0 a1 a2 a3 : Int) (a4 : ByteArray) (k : Nat) : LeO (impl_changeOf.f k a0 a1 a2 a3 a4) (impl_changeOf.f (k + 1) a0 a1 a2 a3 a4) := by
  unfold impl_changeOf.f
  repeat' first
      | (with_reducible exact impl_textOk.mono _ _)
      | (with_reducible exact LeO.refl _)
      | (with_reducible refine LeO.ite ?_ ?_)
      | (with_reducible refine LeO.bind ?_ (fun _ => ?_))
/-- The change that an Op tells of, as an interface value. -/
def ChV (a0 a1 a2 a3 : Int) (a4 : ByteArray) : Value :=
  if a0 = 1 then .iface 130 (.agg #[.int .i64 a1, .int .i64 a2, .int .i64 a3, .string a4])
  else if a0 = 2 then .iface 133 (.agg #[.int .i64 a1, .string a4])
  else .iface 135 (.agg #[.int .i64 a1, .int .i64 a2, .int .i64 a3])
def ChPost (w : World) (a0 a1 a2 a3 : Int) (a4 : ByteArray) (r : Bool) (e : Ending) (w' : World) : Prop :=
  ∃ v : Value, e = .returned (.tuple #[v, .bool r]) ∧ (r = true → v = ChV a0 a1 a2 a3 a4) ∧ Below w.heap.size w w'
theorem below_box0 (w : World) (o : Obj) : Below w.heap.size w (w.alloc o) := (Below.refl _ _).alloc (Nat.le_refl _) _
set_option maxHeartbeats 4000000 in
set_option maxRecDepth 100000 in
theorem changeOf_unmade (a0 a1 a2 a3 : Int) (a4 : ByteArray) (w : World) (hm : impl_isMade.f a1 = some false) (hG : Glob w) :
    Calls Tryd.prog 92 #[.agg #[.int .i64 a0, .int .i64 a1, .int .i64 a2, .int .i64 a3, .string a4]] w (ChPost w a0 a1 a2 a3 a4 false) := by
  have hGa : Glob (w.alloc (.cells #[.int .i64 a0, .int .i64 a1, .int .i64 a2, .int .i64 a3, .string a4] 54)) := hG.below (below_box0 w _)
  have HG := Aside0.mk hGa
  clear hGa hG
  have Hm := Aside0.mk hm
  clear hm
  go_enter Tryd.func92, Tryd.ntmps92
  go_wp2_with (go_at_call 102; refine (impl_isMade.calls a1 _ _ Hm.out HG.out).mono ?_; rintro e w' ⟨rfl, ⟨nd, rfl⟩⟩)
  go_ret2
  exact ⟨_, rfl, (fun h => by cases h), by (with_reducible repeat (first | exact below_box0 w _ | apply pw_below_drewN))⟩
set_option maxHeartbeats 4000000 in
set_option maxRecDepth 100000 in
theorem changeOf_make (k : Nat) (a0 a1 a2 a3 : Int) (a4 : ByteArray) (r : Bool) (w : World) (hm : impl_isMade.f a1 = some true) (hp : impl_placeOk.f a2 a3 = some true) (ht : impl_textOk.f k a4 = some r) (h0 : a0 = 1) (hG : Glob w) :
    Calls Tryd.prog 92 #[.agg #[.int .i64 a0, .int .i64 a1, .int .i64 a2, .int .i64 a3, .string a4]] w (ChPost w a0 a1 a2 a3 a4 r) := by
  have hGa : Glob (w.alloc (.cells #[.int .i64 a0, .int .i64 a1, .int .i64 a2, .int .i64 a3, .string a4] 54)) := hG.below (below_box0 w _)
  have HG := Aside0.mk hGa
  clear hGa hG
  subst h0
  have Hm := Aside0.mk hm
  have Hp := Aside0.mk hp
  have Ht := Aside0.mk ht
  clear hm hp ht
  go_enter Tryd.func92, Tryd.ntmps92
  go_wp2_with (go_at_call 102; refine (impl_isMade.calls a1 _ _ Hm.out HG.out).mono ?_; rintro e w' ⟨rfl, ⟨nd, rfl⟩⟩)
  go_quiet ((first | (go_at_call 103; refine quiet_d (impl_placeOk.calls a2 a3 true _ Hp.out (by (with_reducible repeat (first | exact HG.out | apply Glob.drewN | apply Glob.drew))))) | (go_at_call 104; refine quiet_d (impl_textOk.calls k a4 r _ Ht.out))))
  go_wp2
  go_ret2
  exact ⟨_, rfl, fun _ => rfl, by (with_reducible repeat (first | exact below_box0 w _ | apply pw_below_drewN))⟩
set_option maxHeartbeats 4000000 in
set_option maxRecDepth 100000 in
theorem changeOf_make_no (a0 a1 a2 a3 : Int) (a4 : ByteArray) (w : World) (hm : impl_isMade.f a1 = some true) (hp : impl_placeOk.f a2 a3 = some false) (h0 : a0 = 1) (hG : Glob w) :
    Calls Tryd.prog 92 #[.agg #[.int .i64 a0, .int .i64 a1, .int .i64 a2, .int .i64 a3, .string a4]] w (ChPost w a0 a1 a2 a3 a4 false) := by
  have hGa : Glob (w.alloc (.cells #[.int .i64 a0, .int .i64 a1, .int .i64 a2, .int .i64 a3, .string a4] 54)) := hG.below (below_box0 w _)
  have HG := Aside0.mk hGa
  clear hGa hG
  subst h0
  have Hm := Aside0.mk hm
  have Hp := Aside0.mk hp
  clear hm hp
  go_enter Tryd.func92, Tryd.ntmps92
  go_wp2_with (go_at_call 102; refine (impl_isMade.calls a1 _ _ Hm.out HG.out).mono ?_; rintro e w' ⟨rfl, ⟨nd, rfl⟩⟩)
  go_quiet ((go_at_call 103; refine quiet_d (impl_placeOk.calls a2 a3 false _ Hp.out (by (with_reducible repeat (first | exact HG.out | apply Glob.drewN | apply Glob.drew))))))
  go_wp2
  go_ret2
  exact ⟨_, rfl, (fun h => by cases h), by (with_reducible repeat (first | exact below_box0 w _ | apply pw_below_drewN))⟩
set_option maxHeartbeats 4000000 in
set_option maxRecDepth 100000 in
theorem changeOf_text (k : Nat) (a0 a1 a2 a3 : Int) (a4 : ByteArray) (r : Bool) (w : World) (hm : impl_isMade.f a1 = some true) (h2 : a2 = 0) (h3 : a3 = 0) (ht : impl_textOk.f k a4 = some r) (h0 : a0 = 2) (hG : Glob w) :
    Calls Tryd.prog 92 #[.agg #[.int .i64 a0, .int .i64 a1, .int .i64 a2, .int .i64 a3, .string a4]] w (ChPost w a0 a1 a2 a3 a4 r) := by
  have hGa : Glob (w.alloc (.cells #[.int .i64 a0, .int .i64 a1, .int .i64 a2, .int .i64 a3, .string a4] 54)) := hG.below (below_box0 w _)
  have HG := Aside0.mk hGa
  clear hGa hG
  subst h0 h2 h3
  have Hm := Aside0.mk hm
  have Ht := Aside0.mk ht
  clear hm ht
  go_enter Tryd.func92, Tryd.ntmps92
  go_wp2_with (go_at_call 102; refine (impl_isMade.calls a1 _ _ Hm.out HG.out).mono ?_; rintro e w' ⟨rfl, ⟨nd, rfl⟩⟩)
  go_quiet ((go_at_call 104; refine quiet_d (impl_textOk.calls k a4 r _ Ht.out)))
  go_wp2
  go_ret2
  exact ⟨_, rfl, fun _ => rfl, by (with_reducible repeat (first | exact below_box0 w _ | apply pw_below_drewN))⟩
set_option maxHeartbeats 4000000 in
set_option maxRecDepth 100000 in
theorem changeOf_text_no2 (a0 a1 a2 a3 : Int) (a4 : ByteArray) (w : World) (hm : impl_isMade.f a1 = some true) (h2 : a2 ≠ 0) (h0 : a0 = 2) (hG : Glob w) :
    Calls Tryd.prog 92 #[.agg #[.int .i64 a0, .int .i64 a1, .int .i64 a2, .int .i64 a3, .string a4]] w (ChPost w a0 a1 a2 a3 a4 false) := by
  have hGa : Glob (w.alloc (.cells #[.int .i64 a0, .int .i64 a1, .int .i64 a2, .int .i64 a3, .string a4] 54)) := hG.below (below_box0 w _)
  have HG := Aside0.mk hGa
  clear hGa hG
  subst h0
  have e2 : (a2 == 0) = false := beq_eq_false_iff_ne.2 h2
  clear h2
  have Hm := Aside0.mk hm
  clear hm
  go_enter Tryd.func92, Tryd.ntmps92
  go_wp2_with (go_at_call 102; refine (impl_isMade.calls a1 _ _ Hm.out HG.out).mono ?_; rintro e w' ⟨rfl, ⟨nd, rfl⟩⟩)
  go_quiet (fail)
  go_wp2
  go_ret2
  exact ⟨_, rfl, (fun h => by cases h), by (with_reducible repeat (first | exact below_box0 w _ | apply pw_below_drewN))⟩
set_option maxHeartbeats 4000000 in
set_option maxRecDepth 100000 in
theorem changeOf_text_no3 (a0 a1 a2 a3 : Int) (a4 : ByteArray) (w : World) (hm : impl_isMade.f a1 = some true) (h2 : a2 = 0) (h3 : a3 ≠ 0) (h0 : a0 = 2) (hG : Glob w) :
    Calls Tryd.prog 92 #[.agg #[.int .i64 a0, .int .i64 a1, .int .i64 a2, .int .i64 a3, .string a4]] w (ChPost w a0 a1 a2 a3 a4 false) := by
  have hGa : Glob (w.alloc (.cells #[.int .i64 a0, .int .i64 a1, .int .i64 a2, .int .i64 a3, .string a4] 54)) := hG.below (below_box0 w _)
  have HG := Aside0.mk hGa
  clear hGa hG
  subst h0 h2
  have e3 : (a3 == 0) = false := beq_eq_false_iff_ne.2 h3
  clear h3
  have Hm := Aside0.mk hm
  clear hm
  go_enter Tryd.func92, Tryd.ntmps92
  go_wp2_with (go_at_call 102; refine (impl_isMade.calls a1 _ _ Hm.out HG.out).mono ?_; rintro e w' ⟨rfl, ⟨nd, rfl⟩⟩)
  go_quiet (fail)
  go_wp2
  go_ret2
  exact ⟨_, rfl, (fun h => by cases h), by (with_reducible repeat (first | exact below_box0 w _ | apply pw_below_drewN))⟩
set_option maxHeartbeats 4000000 in
set_option maxRecDepth 100000 in
theorem changeOf_move (a0 a1 a2 a3 : Int) (a4 : ByteArray) (w : World) (hm : impl_isMade.f a1 = some true) (hp : impl_placeOk.f a2 a3 = some true) (h0 : a0 = 3) (hG : Glob w) :
    Calls Tryd.prog 92 #[.agg #[.int .i64 a0, .int .i64 a1, .int .i64 a2, .int .i64 a3, .string a4]] w (ChPost w a0 a1 a2 a3 a4 a4.toList.isEmpty) := by
  have hGa : Glob (w.alloc (.cells #[.int .i64 a0, .int .i64 a1, .int .i64 a2, .int .i64 a3, .string a4] 54)) := hG.below (below_box0 w _)
  have HG := Aside0.mk hGa
  clear hGa hG
  subst h0
  have Hm := Aside0.mk hm
  have Hp := Aside0.mk hp
  clear hm hp
  go_enter Tryd.func92, Tryd.ntmps92
  go_wp2_with (go_at_call 102; refine (impl_isMade.calls a1 _ _ Hm.out HG.out).mono ?_; rintro e w' ⟨rfl, ⟨nd, rfl⟩⟩)
  go_quiet ((go_at_call 103; refine quiet_d (impl_placeOk.calls a2 a3 true _ Hp.out (by (with_reducible repeat (first | exact HG.out | apply Glob.drewN | apply Glob.drew))))))
  go_wp2
  go_ret2
  exact ⟨_, rfl, fun _ => rfl, by (with_reducible repeat (first | exact below_box0 w _ | apply pw_below_drewN))⟩
set_option maxHeartbeats 4000000 in
set_option maxRecDepth 100000 in
theorem changeOf_move_no (a0 a1 a2 a3 : Int) (a4 : ByteArray) (w : World) (hm : impl_isMade.f a1 = some true) (hp : impl_placeOk.f a2 a3 = some false) (h0 : a0 = 3) (hG : Glob w) :
    Calls Tryd.prog 92 #[.agg #[.int .i64 a0, .int .i64 a1, .int .i64 a2, .int .i64 a3, .string a4]] w (ChPost w a0 a1 a2 a3 a4 false) := by
  have hGa : Glob (w.alloc (.cells #[.int .i64 a0, .int .i64 a1, .int .i64 a2, .int .i64 a3, .string a4] 54)) := hG.below (below_box0 w _)
  have HG := Aside0.mk hGa
  clear hGa hG
  subst h0
  have Hm := Aside0.mk hm
  have Hp := Aside0.mk hp
  clear hm hp
  go_enter Tryd.func92, Tryd.ntmps92
  go_wp2_with (go_at_call 102; refine (impl_isMade.calls a1 _ _ Hm.out HG.out).mono ?_; rintro e w' ⟨rfl, ⟨nd, rfl⟩⟩)
  go_quiet ((go_at_call 103; refine quiet_d (impl_placeOk.calls a2 a3 false _ Hp.out (by (with_reducible repeat (first | exact HG.out | apply Glob.drewN | apply Glob.drew))))))
  go_wp2
  go_ret2
  exact ⟨_, rfl, (fun h => by cases h), by (with_reducible repeat (first | exact below_box0 w _ | apply pw_below_drewN))⟩
set_option maxHeartbeats 4000000 in
set_option maxRecDepth 100000 in
theorem changeOf_kind (a0 a1 a2 a3 : Int) (a4 : ByteArray) (w : World) (hm : impl_isMade.f a1 = some true) (h1 : a0 ≠ 1) (h2 : a0 ≠ 2) (h3 : a0 ≠ 3) (hG : Glob w) :
    Calls Tryd.prog 92 #[.agg #[.int .i64 a0, .int .i64 a1, .int .i64 a2, .int .i64 a3, .string a4]] w (ChPost w a0 a1 a2 a3 a4 false) := by
  have hGa : Glob (w.alloc (.cells #[.int .i64 a0, .int .i64 a1, .int .i64 a2, .int .i64 a3, .string a4] 54)) := hG.below (below_box0 w _)
  have HG := Aside0.mk hGa
  clear hGa hG
  have e1 : (a0 == 1) = false := beq_eq_false_iff_ne.2 h1
  have e2 : (a0 == 2) = false := beq_eq_false_iff_ne.2 h2
  have e3 : (a0 == 3) = false := beq_eq_false_iff_ne.2 h3
  clear h1 h2 h3
  have Hm := Aside0.mk hm
  clear hm
  go_enter Tryd.func92, Tryd.ntmps92
  go_wp2_with (go_at_call 102; refine (impl_isMade.calls a1 _ _ Hm.out HG.out).mono ?_; rintro e w' ⟨rfl, ⟨nd, rfl⟩⟩)
  go_ret2
  exact ⟨_, rfl, (fun h => by cases h), by (with_reducible repeat (first | exact below_box0 w _ | apply pw_below_drewN))⟩
theorem impl_changeOf.calls (k : Nat) (a0 a1 a2 a3 : Int) (a4 : ByteArray) (r : Bool) (w : World) (h : impl_changeOf.f k a0 a1 a2 a3 a4 = some r) (hG : Glob w) :
    Calls Tryd.prog 92 #[.agg #[.int .i64 a0, .int .i64 a1, .int .i64 a2, .int .i64 a3, .string a4]] w (ChPost w a0 a1 a2 a3 a4 r) := by
  unfold impl_changeOf.f at h
  obtain ⟨m, hm, h⟩ := Option.bind_eq_some_iff.1 h
  cases m with
  | false =>
    simp only [Bool.false_eq_true, if_false, Option.some.injEq] at h
    subst h
    exact changeOf_unmade a0 a1 a2 a3 a4 w hm hG
  | true =>
    simp only [if_true] at h
    by_cases h1 : a0 = 1
    · rw [if_pos h1] at h
      obtain ⟨p, hp, h⟩ := Option.bind_eq_some_iff.1 h
      cases p with
      | false =>
        simp only [Bool.false_eq_true, if_false, Option.some.injEq] at h
        subst h
        exact changeOf_make_no a0 a1 a2 a3 a4 w hm hp h1 hG
      | true =>
        simp only [if_true] at h
        exact changeOf_make k a0 a1 a2 a3 a4 r w hm hp h h1 hG
    · rw [if_neg h1] at h
      by_cases h2 : a0 = 2
      · rw [if_pos h2] at h
        by_cases g2 : a2 = 0
        · rw [if_pos g2] at h
          by_cases g3 : a3 = 0
          · rw [if_pos g3] at h
            exact changeOf_text k a0 a1 a2 a3 a4 r w hm g2 g3 h h2 hG
          · rw [if_neg g3] at h
            simp only [Option.some.injEq] at h
            subst h
            exact changeOf_text_no3 a0 a1 a2 a3 a4 w hm g2 g3 h2 hG
        · rw [if_neg g2] at h
          simp only [Option.some.injEq] at h
          subst h
          exact changeOf_text_no2 a0 a1 a2 a3 a4 w hm g2 h2 hG
      · rw [if_neg h2] at h
        by_cases h3 : a0 = 3
        · rw [if_pos h3] at h
          obtain ⟨p, hp, h⟩ := Option.bind_eq_some_iff.1 h
          cases p with
          | false =>
            simp only [Bool.false_eq_true, if_false, Option.some.injEq] at h
            subst h
            exact changeOf_move_no a0 a1 a2 a3 a4 w hm hp h3 hG
          | true =>
            simp only [if_true, Option.some.injEq] at h
            subst h
            exact changeOf_move a0 a1 a2 a3 a4 w hm hp h3 hG
        · rw [if_neg h3] at h
          simp only [Option.some.injEq] at h
          subst h
          exact changeOf_kind a0 a1 a2 a3 a4 w hm h1 h2 h3 hG
def impl_OpOk.f (k : Nat) (a0 a1 a2 a3 : Int) (a4 : ByteArray) : Option Bool := impl_changeOf.f k a0 a1 a2 a3 a4
theorem impl_OpOk.mono (a0 a1 a2 a3 : Int) (a4 : ByteArray) (k : Nat) : LeO (impl_OpOk.f k a0 a1 a2 a3 a4) (impl_OpOk.f (k + 1) a0 a1 a2 a3 a4) := impl_changeOf.mono a0 a1 a2 a3 a4 k
set_option maxHeartbeats 4000000 in
theorem impl_OpOk.calls (k : Nat) (a0_0 a0_1 a0_2 a0_3 : Int) (a0_4 : ByteArray) (r : Bool) (w : World) (h : impl_OpOk.f k a0_0 a0_1 a0_2 a0_3 a0_4 = some r) (hG : Glob w) :
    Calls Tryd.prog 78 #[.agg #[.int .i64 a0_0, .int .i64 a0_1, .int .i64 a0_2, .int .i64 a0_3, .string a0_4]] w fun e w' => e = .returned (.bool r) ∧ Below w.heap.size w w' := by
  have hGa : Glob (w.alloc (.cells #[.int .i64 a0_0, .int .i64 a0_1, .int .i64 a0_2, .int .i64 a0_3, .string a0_4] 54)) := hG.below (below_box0 w _)
  have HG := Aside0.mk hGa
  have HH := Aside0.mk h
  clear hGa hG h
  have hu := Tryd.underlying54
  go_enter Tryd.func78, Tryd.ntmps78
  go_wp2_with (go_at_call 92; refine (impl_changeOf.calls k a0_0 a0_1 a0_2 a0_3 a0_4 r _ HH.out HG.out).mono ?_; rintro e w1 ⟨v, rfl, _, hb⟩; have HB := Aside0.mk hb; clear hb)
  go_ret
  exact ⟨rfl, (below_box0 w _).trans (HB.out.mono (by simp))⟩
end Go.Proofs.YtnclcbjagleoeaaDoor.P
namespace Go.Proofs.YtnclcbjagleoeaaDoor.P
open Go.RowKit Go.Proofs.YtnclcbjagleoeaaDoorW.PrintWords Go.Proofs.YtnclcbjagleoeaaDoorW.PrintLast
set_option linter.unusedVariables false
set_option linter.unusedSimpArgs false
def impl_EntryOk.f (k : Nat) (a0_0 : Int) (a0_1 : Int) (a0_2 : Int) (a0_3 : Int) (a0_4 : Int) (a0_5 : Int) (a0_6 : ByteArray) : Option (Bool) := (impl_whoOk.f a0_0).bind fun t198 => (if t198 = true then (if a0_1 < 1 then (some false) else (if a0_1 > 40 then (some false) else ((impl_OpOk.f k a0_2 a0_3 a0_4 a0_5 a0_6).bind fun t199 => (if t199 = true then ((impl_RowWho.f a0_3).bind fun bt200 => (if a0_2 = 1 then (some (bt200.1 == a0_0)) else (some true))) else (some false))))) else (some false))
theorem impl_EntryOk.mono : ∀ a0 a1 a2 a3 a4 a5 a6 k, LeO (impl_EntryOk.f k a0 a1 a2 a3 a4 a5 a6) (impl_EntryOk.f (k + 1) a0 a1 a2 a3 a4 a5 a6) := by
 intro a0 a1 a2 a3 a4 a5 a6 k
 unfold impl_EntryOk.f
 repeat' first
   | (with_reducible exact impl_OpOk.mono _ _ _ _ _ _)
   | (with_reducible exact LeO.refl _)
   | (with_reducible exact LeO.none _)
   | (with_reducible refine LeO.ite ?_ ?_)
   | (with_reducible refine LeO.bind ?_ (fun _ => ?_))
   | exact impl_OpOk.mono _ _ _ _ _ _
   | exact LeO.none _
   | refine LeO.ite ?_ ?_
   | refine LeO.bind ?_ (fun _ => ?_)
set_option maxHeartbeats 8000000 in
set_option maxRecDepth 100000 in
theorem impl_EntryOk.calls (k : Nat) (a0_0 : Int) (a0_1 : Int) (a0_2 : Int) (a0_3 : Int) (a0_4 : Int) (a0_5 : Int) (a0_6 : ByteArray) (r : Bool) (w : World) (h : impl_EntryOk.f k a0_0 a0_1 a0_2 a0_3 a0_4 a0_5 a0_6 = some r) (hG : Glob w) :
  Calls Tryd.prog 66 #[.agg #[.int .i64 a0_0, .int .i64 a0_1, .int .i64 a0_2, .int .i64 a0_3, .int .i64 a0_4, .int .i64 a0_5, .string a0_6]] w fun e w' => e = .returned (.bool r) ∧ Below w.heap.size w w' := by
 have hu56 := Tryd.underlying56
 have hu54 := Tryd.underlying54
 have HB := Aside0.mk (Below.refl w.heap.size w)
 have HG := Aside0.mk hG
 clear hG
 have H : ((impl_whoOk.f a0_0).bind fun t198 => (if t198 = true then (if a0_1 < 1 then (some false) else (if a0_1 > 40 then (some false) else ((impl_OpOk.f k a0_2 a0_3 a0_4 a0_5 a0_6).bind fun t199 => (if t199 = true then ((impl_RowWho.f a0_3).bind fun bt200 => (if a0_2 = 1 then (some (bt200.1 == a0_0)) else (some true))) else (some false))))) else (some false))) = some r := h
 clear h
 replace H := Option.bind_eq_some_iff.mp H
 obtain ⟨t198, A20, H⟩ := H
 replace H : (if t198 = true then (if a0_1 < 1 then (some false) else (if a0_1 > 40 then (some false) else ((impl_OpOk.f k a0_2 a0_3 a0_4 a0_5 a0_6).bind fun t199 => (if t199 = true then ((impl_RowWho.f a0_3).bind fun bt200 => (if a0_2 = 1 then (some (bt200.1 == a0_0)) else (some true))) else (some false))))) else (some false)) = some r := H
 have A2 := Aside0.mk A20
 clear A20
 by_cases c3 : t198 = true
 ·subst c3
  have H1 : (if a0_1 < 1 then (some false) else (if a0_1 > 40 then (some false) else ((impl_OpOk.f k a0_2 a0_3 a0_4 a0_5 a0_6).bind fun t199 => (if t199 = true then ((impl_RowWho.f a0_3).bind fun bt200 => (if a0_2 = 1 then (some (bt200.1 == a0_0)) else (some true))) else (some false))))) = some r := by rw [if_pos rfl] at H; exact H
  clear H
  have H := H1
  clear H1
  by_cases c4 : a0_1 < 1
  ·rw [if_pos c4] at H
   have c4b0 : decide (a0_1 < 1) = true := decide_eq_true c4
   clear c4
   obtain rfl := Option.some.inj H
   go_enter Tryd.func66, Tryd.ntmps66
   go_wp2_with (first | ((with_reducible refine gate_dst (N := 1) rfl ?_); refine box_event ?hg (N := 1) ?hd (cs := #[.int .i64 a0_0, .int .i64 a0_1, .int .i64 a0_2, .int .i64 a0_3, .int .i64 a0_4, .int .i64 a0_5, .string a0_6]) (t := 56) ?hr ?_; (case hd => rfl); (case hg => rfl); (case hr => first | (go_simp; done) | (go_simp; rfl)); intro gb197 hg w5 hbox hb; have n0_ := Aside0.mk (below_step (bel_) hb); have n1_ := Aside0.mk (hbox); have n2_ := Aside0.mk ((by rw [hg]; exact (below_size (bel_)) : w.heap.size ≤ gb197)); have n3_ := Aside0.mk ((by rw [hg]; exact (below_size (bel_)) : w.heap.size ≤ gb197)); clear HB; have HB := n0_; have BK197 := n1_; have GW197 := n2_; have GE197 := n3_; clear n0_ n1_ n2_ n3_; clear hb hbox hg; have hcz6_0 : w5.cell? ⟨gb197, 0, none⟩ = some (.int .i64 a0_0) := (blk_cell BK197.out 0).trans rfl; have hcz6_1 : w5.cell? ⟨gb197, 1, none⟩ = some (.int .i64 a0_1) := (blk_cell BK197.out 1).trans rfl; have hcz6_2 : w5.cell? ⟨gb197, 2, none⟩ = some (.int .i64 a0_2) := (blk_cell BK197.out 2).trans rfl; have hcz6_3 : w5.cell? ⟨gb197, 3, none⟩ = some (.int .i64 a0_3) := (blk_cell BK197.out 3).trans rfl; have hcz6_4 : w5.cell? ⟨gb197, 4, none⟩ = some (.int .i64 a0_4) := (blk_cell BK197.out 4).trans rfl; have hcz6_5 : w5.cell? ⟨gb197, 5, none⟩ = some (.int .i64 a0_5) := (blk_cell BK197.out 5).trans rfl; have hcz6_6 : w5.cell? ⟨gb197, 6, none⟩ = some (.string a0_6) := (blk_cell BK197.out 6).trans rfl; have hfz6_0 := blk_frozen BK197.out 0; have hfz6_1 := blk_frozen BK197.out 1; have hfz6_2 := blk_frozen BK197.out 2; have hfz6_3 := blk_frozen BK197.out 3; have hfz6_4 := blk_frozen BK197.out 4; have hfz6_5 := blk_frozen BK197.out 5; have hfz6_6 := blk_frozen BK197.out 6) | ((with_reducible refine gate_callee (f := 77) rfl ?_); refine gl_ 7 Tryd.func77 #[.int .i64 a0_0] ?_; (with_reducible refine (impl_whoOk.calls a0_0 true _ A2.out).mono ?_); rintro e w' ⟨rfl, ⟨nd, rfl⟩⟩; refine ⟨_, rfl, ?_⟩))
   go_ret
   exact ⟨fi_, bel_⟩
  ·rw [if_neg c4] at H
   have c4b0 : decide (a0_1 < 1) = false := decide_eq_false c4
   clear c4
   by_cases c7 : a0_1 > 40
   ·rw [if_pos c7] at H
    have c7b0 : decide (40 < a0_1) = true := decide_eq_true c7
    clear c7
    obtain rfl := Option.some.inj H
    go_enter Tryd.func66, Tryd.ntmps66
    go_wp2_with (first | ((with_reducible refine gate_dst (N := 1) rfl ?_); refine box_event ?hg (N := 1) ?hd (cs := #[.int .i64 a0_0, .int .i64 a0_1, .int .i64 a0_2, .int .i64 a0_3, .int .i64 a0_4, .int .i64 a0_5, .string a0_6]) (t := 56) ?hr ?_; (case hd => rfl); (case hg => rfl); (case hr => first | (go_simp; done) | (go_simp; rfl)); intro gb197 hg w8 hbox hb; have n0_ := Aside0.mk (below_step (bel_) hb); have n1_ := Aside0.mk (hbox); have n2_ := Aside0.mk ((by rw [hg]; exact (below_size (bel_)) : w.heap.size ≤ gb197)); have n3_ := Aside0.mk ((by rw [hg]; exact (below_size (bel_)) : w.heap.size ≤ gb197)); clear HB; have HB := n0_; have BK197 := n1_; have GW197 := n2_; have GE197 := n3_; clear n0_ n1_ n2_ n3_; clear hb hbox hg; have hcz9_0 : w8.cell? ⟨gb197, 0, none⟩ = some (.int .i64 a0_0) := (blk_cell BK197.out 0).trans rfl; have hcz9_1 : w8.cell? ⟨gb197, 1, none⟩ = some (.int .i64 a0_1) := (blk_cell BK197.out 1).trans rfl; have hcz9_2 : w8.cell? ⟨gb197, 2, none⟩ = some (.int .i64 a0_2) := (blk_cell BK197.out 2).trans rfl; have hcz9_3 : w8.cell? ⟨gb197, 3, none⟩ = some (.int .i64 a0_3) := (blk_cell BK197.out 3).trans rfl; have hcz9_4 : w8.cell? ⟨gb197, 4, none⟩ = some (.int .i64 a0_4) := (blk_cell BK197.out 4).trans rfl; have hcz9_5 : w8.cell? ⟨gb197, 5, none⟩ = some (.int .i64 a0_5) := (blk_cell BK197.out 5).trans rfl; have hcz9_6 : w8.cell? ⟨gb197, 6, none⟩ = some (.string a0_6) := (blk_cell BK197.out 6).trans rfl; have hfz9_0 := blk_frozen BK197.out 0; have hfz9_1 := blk_frozen BK197.out 1; have hfz9_2 := blk_frozen BK197.out 2; have hfz9_3 := blk_frozen BK197.out 3; have hfz9_4 := blk_frozen BK197.out 4; have hfz9_5 := blk_frozen BK197.out 5; have hfz9_6 := blk_frozen BK197.out 6) | ((with_reducible refine gate_callee (f := 77) rfl ?_); refine gl_ 7 Tryd.func77 #[.int .i64 a0_0] ?_; (with_reducible refine (impl_whoOk.calls a0_0 true _ A2.out).mono ?_); rintro e w' ⟨rfl, ⟨nd, rfl⟩⟩; refine ⟨_, rfl, ?_⟩))
    go_ret
    exact ⟨fi_, bel_⟩
   ·rw [if_neg c7] at H
    have c7b0 : decide (40 < a0_1) = false := decide_eq_false c7
    clear c7
    replace H := Option.bind_eq_some_iff.mp H
    obtain ⟨t199, A100, H⟩ := H
    replace H : (if t199 = true then ((impl_RowWho.f a0_3).bind fun bt200 => (if a0_2 = 1 then (some (bt200.1 == a0_0)) else (some true))) else (some false)) = some r := H
    have A10 := Aside0.mk A100
    clear A100
    by_cases c11 : t199 = true
    ·subst c11
     have H1 : ((impl_RowWho.f a0_3).bind fun bt200 => (if a0_2 = 1 then (some (bt200.1 == a0_0)) else (some true))) = some r := by rw [if_pos rfl] at H; exact H
     clear H
     have H := H1
     clear H1
     replace H := Option.bind_eq_some_iff.mp H
     obtain ⟨⟨t200, t201⟩, A120, H⟩ := H
     replace H : (if a0_2 = 1 then (some (t200 == a0_0)) else (some true)) = some r := H
     have A12 := Aside0.mk A120
     clear A120
     by_cases c13 : a0_2 = 1
     ·rw [if_pos c13] at H
      have c13b0 : (a0_2 == 1) = true := beq_iff_eq.mpr c13
      have c13b1 : (a0_2 != 1) = false := bne_eq_false_iff_eq.mpr c13
      clear c13
      obtain rfl := Option.some.inj H
      go_enter Tryd.func66, Tryd.ntmps66
      go_wp2_with (first | ((with_reducible refine gate_dst (N := 1) rfl ?_); refine box_event ?hg (N := 1) ?hd (cs := #[.int .i64 a0_0, .int .i64 a0_1, .int .i64 a0_2, .int .i64 a0_3, .int .i64 a0_4, .int .i64 a0_5, .string a0_6]) (t := 56) ?hr ?_; (case hd => rfl); (case hg => rfl); (case hr => first | (go_simp; done) | (go_simp; rfl)); intro gb197 hg w14 hbox hb; have n0_ := Aside0.mk (below_step (bel_) hb); have n1_ := Aside0.mk (hbox); have n2_ := Aside0.mk ((by rw [hg]; exact (below_size (bel_)) : w.heap.size ≤ gb197)); have n3_ := Aside0.mk ((by rw [hg]; exact (below_size (bel_)) : w.heap.size ≤ gb197)); clear HB; have HB := n0_; have BK197 := n1_; have GW197 := n2_; have GE197 := n3_; clear n0_ n1_ n2_ n3_; clear hb hbox hg; have hcz15_0 : w14.cell? ⟨gb197, 0, none⟩ = some (.int .i64 a0_0) := (blk_cell BK197.out 0).trans rfl; have hcz15_1 : w14.cell? ⟨gb197, 1, none⟩ = some (.int .i64 a0_1) := (blk_cell BK197.out 1).trans rfl; have hcz15_2 : w14.cell? ⟨gb197, 2, none⟩ = some (.int .i64 a0_2) := (blk_cell BK197.out 2).trans rfl; have hcz15_3 : w14.cell? ⟨gb197, 3, none⟩ = some (.int .i64 a0_3) := (blk_cell BK197.out 3).trans rfl; have hcz15_4 : w14.cell? ⟨gb197, 4, none⟩ = some (.int .i64 a0_4) := (blk_cell BK197.out 4).trans rfl; have hcz15_5 : w14.cell? ⟨gb197, 5, none⟩ = some (.int .i64 a0_5) := (blk_cell BK197.out 5).trans rfl; have hcz15_6 : w14.cell? ⟨gb197, 6, none⟩ = some (.string a0_6) := (blk_cell BK197.out 6).trans rfl; have hfz15_0 := blk_frozen BK197.out 0; have hfz15_1 := blk_frozen BK197.out 1; have hfz15_2 := blk_frozen BK197.out 2; have hfz15_3 := blk_frozen BK197.out 3; have hfz15_4 := blk_frozen BK197.out 4; have hfz15_5 := blk_frozen BK197.out 5; have hfz15_6 := blk_frozen BK197.out 6) | ((with_reducible refine gate_callee (f := 77) rfl ?_); refine gl_ 7 Tryd.func77 #[.int .i64 a0_0] ?_; (with_reducible refine (impl_whoOk.calls a0_0 true _ A2.out).mono ?_); rintro e w' ⟨rfl, ⟨nd, rfl⟩⟩; refine ⟨_, rfl, ?_⟩) | (go_at_call 78; (with_reducible refine (impl_OpOk.calls k a0_2 a0_3 a0_4 a0_5 a0_6 true _ A10.out ?side1).mono ?_); (case side1 => exact Glob.below HG.out (bel_)); rintro e w16 ⟨rfl, hb⟩; replace HB := Aside0.mk (below_step (bel_) hb); replace BK197 := Aside0.mk (blk_below (g := gb197) (o := .cells #[.int .i64 a0_0, .int .i64 a0_1, .int .i64 a0_2, .int .i64 a0_3, .int .i64 a0_4, .int .i64 a0_5, .string a0_6] 56 (0, 0)) (bp_ BK197.out) hb); (try clear hb); (try clear hb2); (try clear hk); (try clear hi); have hcz17_0 : w16.cell? ⟨gb197, 0, none⟩ = some (.int .i64 a0_0) := (blk_cell BK197.out 0).trans rfl; have hcz17_1 : w16.cell? ⟨gb197, 1, none⟩ = some (.int .i64 a0_1) := (blk_cell BK197.out 1).trans rfl; have hcz17_2 : w16.cell? ⟨gb197, 2, none⟩ = some (.int .i64 a0_2) := (blk_cell BK197.out 2).trans rfl; have hcz17_3 : w16.cell? ⟨gb197, 3, none⟩ = some (.int .i64 a0_3) := (blk_cell BK197.out 3).trans rfl; have hcz17_4 : w16.cell? ⟨gb197, 4, none⟩ = some (.int .i64 a0_4) := (blk_cell BK197.out 4).trans rfl; have hcz17_5 : w16.cell? ⟨gb197, 5, none⟩ = some (.int .i64 a0_5) := (blk_cell BK197.out 5).trans rfl; have hcz17_6 : w16.cell? ⟨gb197, 6, none⟩ = some (.string a0_6) := (blk_cell BK197.out 6).trans rfl; have hfz17_0 := blk_frozen BK197.out 0; have hfz17_1 := blk_frozen BK197.out 1; have hfz17_2 := blk_frozen BK197.out 2; have hfz17_3 := blk_frozen BK197.out 3; have hfz17_4 := blk_frozen BK197.out 4; have hfz17_5 := blk_frozen BK197.out 5; have hfz17_6 := blk_frozen BK197.out 6) | ((with_reducible refine gate_callee (f := 79) rfl ?_); refine gl_ 29 Tryd.func79 #[.int .i64 a0_3] ?_; (with_reducible refine (impl_RowWho.calls a0_3 t200 t201 _ A12.out ?side1).mono ?_); (case side1 => exact Glob.below HG.out (bel_)); rintro e w' ⟨rfl, ⟨nd, rfl⟩⟩; refine ⟨_, rfl, ?_⟩))
      go_ret
      exact ⟨fi_, bel_⟩
     ·rw [if_neg c13] at H
      have c13b0 : (a0_2 == 1) = false := beq_eq_false_iff_ne.mpr c13
      have c13b1 : (a0_2 != 1) = true := bne_iff_ne.mpr c13
      obtain rfl := Option.some.inj H
      go_enter Tryd.func66, Tryd.ntmps66
      go_wp2_with (first | ((with_reducible refine gate_dst (N := 1) rfl ?_); refine box_event ?hg (N := 1) ?hd (cs := #[.int .i64 a0_0, .int .i64 a0_1, .int .i64 a0_2, .int .i64 a0_3, .int .i64 a0_4, .int .i64 a0_5, .string a0_6]) (t := 56) ?hr ?_; (case hd => rfl); (case hg => rfl); (case hr => first | (go_simp; done) | (go_simp; rfl)); intro gb197 hg w18 hbox hb; have n0_ := Aside0.mk (below_step (bel_) hb); have n1_ := Aside0.mk (hbox); have n2_ := Aside0.mk ((by rw [hg]; exact (below_size (bel_)) : w.heap.size ≤ gb197)); have n3_ := Aside0.mk ((by rw [hg]; exact (below_size (bel_)) : w.heap.size ≤ gb197)); clear HB; have HB := n0_; have BK197 := n1_; have GW197 := n2_; have GE197 := n3_; clear n0_ n1_ n2_ n3_; clear hb hbox hg; have hcz19_0 : w18.cell? ⟨gb197, 0, none⟩ = some (.int .i64 a0_0) := (blk_cell BK197.out 0).trans rfl; have hcz19_1 : w18.cell? ⟨gb197, 1, none⟩ = some (.int .i64 a0_1) := (blk_cell BK197.out 1).trans rfl; have hcz19_2 : w18.cell? ⟨gb197, 2, none⟩ = some (.int .i64 a0_2) := (blk_cell BK197.out 2).trans rfl; have hcz19_3 : w18.cell? ⟨gb197, 3, none⟩ = some (.int .i64 a0_3) := (blk_cell BK197.out 3).trans rfl; have hcz19_4 : w18.cell? ⟨gb197, 4, none⟩ = some (.int .i64 a0_4) := (blk_cell BK197.out 4).trans rfl; have hcz19_5 : w18.cell? ⟨gb197, 5, none⟩ = some (.int .i64 a0_5) := (blk_cell BK197.out 5).trans rfl; have hcz19_6 : w18.cell? ⟨gb197, 6, none⟩ = some (.string a0_6) := (blk_cell BK197.out 6).trans rfl; have hfz19_0 := blk_frozen BK197.out 0; have hfz19_1 := blk_frozen BK197.out 1; have hfz19_2 := blk_frozen BK197.out 2; have hfz19_3 := blk_frozen BK197.out 3; have hfz19_4 := blk_frozen BK197.out 4; have hfz19_5 := blk_frozen BK197.out 5; have hfz19_6 := blk_frozen BK197.out 6) | ((with_reducible refine gate_callee (f := 77) rfl ?_); refine gl_ 7 Tryd.func77 #[.int .i64 a0_0] ?_; (with_reducible refine (impl_whoOk.calls a0_0 true _ A2.out).mono ?_); rintro e w' ⟨rfl, ⟨nd, rfl⟩⟩; refine ⟨_, rfl, ?_⟩) | (go_at_call 78; (with_reducible refine (impl_OpOk.calls k a0_2 a0_3 a0_4 a0_5 a0_6 true _ A10.out ?side1).mono ?_); (case side1 => exact Glob.below HG.out (bel_)); rintro e w20 ⟨rfl, hb⟩; replace HB := Aside0.mk (below_step (bel_) hb); replace BK197 := Aside0.mk (blk_below (g := gb197) (o := .cells #[.int .i64 a0_0, .int .i64 a0_1, .int .i64 a0_2, .int .i64 a0_3, .int .i64 a0_4, .int .i64 a0_5, .string a0_6] 56 (0, 0)) (bp_ BK197.out) hb); (try clear hb); (try clear hb2); (try clear hk); (try clear hi); have hcz21_0 : w20.cell? ⟨gb197, 0, none⟩ = some (.int .i64 a0_0) := (blk_cell BK197.out 0).trans rfl; have hcz21_1 : w20.cell? ⟨gb197, 1, none⟩ = some (.int .i64 a0_1) := (blk_cell BK197.out 1).trans rfl; have hcz21_2 : w20.cell? ⟨gb197, 2, none⟩ = some (.int .i64 a0_2) := (blk_cell BK197.out 2).trans rfl; have hcz21_3 : w20.cell? ⟨gb197, 3, none⟩ = some (.int .i64 a0_3) := (blk_cell BK197.out 3).trans rfl; have hcz21_4 : w20.cell? ⟨gb197, 4, none⟩ = some (.int .i64 a0_4) := (blk_cell BK197.out 4).trans rfl; have hcz21_5 : w20.cell? ⟨gb197, 5, none⟩ = some (.int .i64 a0_5) := (blk_cell BK197.out 5).trans rfl; have hcz21_6 : w20.cell? ⟨gb197, 6, none⟩ = some (.string a0_6) := (blk_cell BK197.out 6).trans rfl; have hfz21_0 := blk_frozen BK197.out 0; have hfz21_1 := blk_frozen BK197.out 1; have hfz21_2 := blk_frozen BK197.out 2; have hfz21_3 := blk_frozen BK197.out 3; have hfz21_4 := blk_frozen BK197.out 4; have hfz21_5 := blk_frozen BK197.out 5; have hfz21_6 := blk_frozen BK197.out 6) | ((with_reducible refine gate_callee (f := 79) rfl ?_); refine gl_ 29 Tryd.func79 #[.int .i64 a0_3] ?_; (with_reducible refine (impl_RowWho.calls a0_3 t200 t201 _ A12.out ?side1).mono ?_); (case side1 => exact Glob.below HG.out (bel_)); rintro e w' ⟨rfl, ⟨nd, rfl⟩⟩; refine ⟨_, rfl, ?_⟩))
      go_ret
      exact ⟨fi_, bel_⟩
    ·replace c11 := Bool.eq_false_iff.mpr c11
     subst c11
     have H1 : (some false) = some r := by rw [if_neg (show ¬ (false = true) by decide)] at H; exact H
     clear H
     have H := H1
     clear H1
     obtain rfl := Option.some.inj H
     go_enter Tryd.func66, Tryd.ntmps66
     go_wp2_with (first | ((with_reducible refine gate_dst (N := 1) rfl ?_); refine box_event ?hg (N := 1) ?hd (cs := #[.int .i64 a0_0, .int .i64 a0_1, .int .i64 a0_2, .int .i64 a0_3, .int .i64 a0_4, .int .i64 a0_5, .string a0_6]) (t := 56) ?hr ?_; (case hd => rfl); (case hg => rfl); (case hr => first | (go_simp; done) | (go_simp; rfl)); intro gb197 hg w22 hbox hb; have n0_ := Aside0.mk (below_step (bel_) hb); have n1_ := Aside0.mk (hbox); have n2_ := Aside0.mk ((by rw [hg]; exact (below_size (bel_)) : w.heap.size ≤ gb197)); have n3_ := Aside0.mk ((by rw [hg]; exact (below_size (bel_)) : w.heap.size ≤ gb197)); clear HB; have HB := n0_; have BK197 := n1_; have GW197 := n2_; have GE197 := n3_; clear n0_ n1_ n2_ n3_; clear hb hbox hg; have hcz23_0 : w22.cell? ⟨gb197, 0, none⟩ = some (.int .i64 a0_0) := (blk_cell BK197.out 0).trans rfl; have hcz23_1 : w22.cell? ⟨gb197, 1, none⟩ = some (.int .i64 a0_1) := (blk_cell BK197.out 1).trans rfl; have hcz23_2 : w22.cell? ⟨gb197, 2, none⟩ = some (.int .i64 a0_2) := (blk_cell BK197.out 2).trans rfl; have hcz23_3 : w22.cell? ⟨gb197, 3, none⟩ = some (.int .i64 a0_3) := (blk_cell BK197.out 3).trans rfl; have hcz23_4 : w22.cell? ⟨gb197, 4, none⟩ = some (.int .i64 a0_4) := (blk_cell BK197.out 4).trans rfl; have hcz23_5 : w22.cell? ⟨gb197, 5, none⟩ = some (.int .i64 a0_5) := (blk_cell BK197.out 5).trans rfl; have hcz23_6 : w22.cell? ⟨gb197, 6, none⟩ = some (.string a0_6) := (blk_cell BK197.out 6).trans rfl; have hfz23_0 := blk_frozen BK197.out 0; have hfz23_1 := blk_frozen BK197.out 1; have hfz23_2 := blk_frozen BK197.out 2; have hfz23_3 := blk_frozen BK197.out 3; have hfz23_4 := blk_frozen BK197.out 4; have hfz23_5 := blk_frozen BK197.out 5; have hfz23_6 := blk_frozen BK197.out 6) | ((with_reducible refine gate_callee (f := 77) rfl ?_); refine gl_ 7 Tryd.func77 #[.int .i64 a0_0] ?_; (with_reducible refine (impl_whoOk.calls a0_0 true _ A2.out).mono ?_); rintro e w' ⟨rfl, ⟨nd, rfl⟩⟩; refine ⟨_, rfl, ?_⟩) | (go_at_call 78; (with_reducible refine (impl_OpOk.calls k a0_2 a0_3 a0_4 a0_5 a0_6 false _ A10.out ?side1).mono ?_); (case side1 => exact Glob.below HG.out (bel_)); rintro e w24 ⟨rfl, hb⟩; replace HB := Aside0.mk (below_step (bel_) hb); replace BK197 := Aside0.mk (blk_below (g := gb197) (o := .cells #[.int .i64 a0_0, .int .i64 a0_1, .int .i64 a0_2, .int .i64 a0_3, .int .i64 a0_4, .int .i64 a0_5, .string a0_6] 56 (0, 0)) (bp_ BK197.out) hb); (try clear hb); (try clear hb2); (try clear hk); (try clear hi)))
     go_ret
     exact ⟨fi_, bel_⟩
 ·replace c3 := Bool.eq_false_iff.mpr c3
  subst c3
  have H1 : (some false) = some r := by rw [if_neg (show ¬ (false = true) by decide)] at H; exact H
  clear H
  have H := H1
  clear H1
  obtain rfl := Option.some.inj H
  go_enter Tryd.func66, Tryd.ntmps66
  go_wp2_with (first | ((with_reducible refine gate_dst (N := 1) rfl ?_); refine box_event ?hg (N := 1) ?hd (cs := #[.int .i64 a0_0, .int .i64 a0_1, .int .i64 a0_2, .int .i64 a0_3, .int .i64 a0_4, .int .i64 a0_5, .string a0_6]) (t := 56) ?hr ?_; (case hd => rfl); (case hg => rfl); (case hr => first | (go_simp; done) | (go_simp; rfl)); intro gb197 hg w25 hbox hb; have n0_ := Aside0.mk (below_step (bel_) hb); have n1_ := Aside0.mk (hbox); have n2_ := Aside0.mk ((by rw [hg]; exact (below_size (bel_)) : w.heap.size ≤ gb197)); have n3_ := Aside0.mk ((by rw [hg]; exact (below_size (bel_)) : w.heap.size ≤ gb197)); clear HB; have HB := n0_; have BK197 := n1_; have GW197 := n2_; have GE197 := n3_; clear n0_ n1_ n2_ n3_; clear hb hbox hg; have hcz26_0 : w25.cell? ⟨gb197, 0, none⟩ = some (.int .i64 a0_0) := (blk_cell BK197.out 0).trans rfl; have hcz26_1 : w25.cell? ⟨gb197, 1, none⟩ = some (.int .i64 a0_1) := (blk_cell BK197.out 1).trans rfl; have hcz26_2 : w25.cell? ⟨gb197, 2, none⟩ = some (.int .i64 a0_2) := (blk_cell BK197.out 2).trans rfl; have hcz26_3 : w25.cell? ⟨gb197, 3, none⟩ = some (.int .i64 a0_3) := (blk_cell BK197.out 3).trans rfl; have hcz26_4 : w25.cell? ⟨gb197, 4, none⟩ = some (.int .i64 a0_4) := (blk_cell BK197.out 4).trans rfl; have hcz26_5 : w25.cell? ⟨gb197, 5, none⟩ = some (.int .i64 a0_5) := (blk_cell BK197.out 5).trans rfl; have hcz26_6 : w25.cell? ⟨gb197, 6, none⟩ = some (.string a0_6) := (blk_cell BK197.out 6).trans rfl; have hfz26_0 := blk_frozen BK197.out 0; have hfz26_1 := blk_frozen BK197.out 1; have hfz26_2 := blk_frozen BK197.out 2; have hfz26_3 := blk_frozen BK197.out 3; have hfz26_4 := blk_frozen BK197.out 4; have hfz26_5 := blk_frozen BK197.out 5; have hfz26_6 := blk_frozen BK197.out 6) | ((with_reducible refine gate_callee (f := 77) rfl ?_); refine gl_ 7 Tryd.func77 #[.int .i64 a0_0] ?_; (with_reducible refine (impl_whoOk.calls a0_0 false _ A2.out).mono ?_); rintro e w' ⟨rfl, ⟨nd, rfl⟩⟩; refine ⟨_, rfl, ?_⟩))
  go_ret
  exact ⟨fi_, bel_⟩


end Go.Proofs.YtnclcbjagleoeaaDoor.P
set_option linter.unusedVariables false
set_option linter.unusedSimpArgs false
namespace Go.Proofs.YtnclcbjagleoeaaDoor.P
open Go.RowKit Go.Maps Go.Proofs.YtnclcbjagleoeaaDoorW.PrintWords Go.Proofs.YtnclcbjagleoeaaDoorW.PrintLast Go.Proofs.YtnclcbjagleoeaaDoorW.PrintMore
theorem wf_small (x : Int) (h : -1000000 ≤ x ∧ x ≤ 1000000) : (Lit.int .i64 x).wf = true := by
  have e : wrap64 x = x := by unfold wrap64; omega
  rw [← e]
  exact wrap64_wf _
theorem keyI : Keyed Tryd.prog 3 := int_keyed Tryd.underlying3
theorem zeroI (w : World) : (zeroValue 3).run Tryd.prog w = .ok (.int .i64 0) w := by kernel_rfl
/-- Block b is a map that counts as c says; it has at most n entries. -/
def CntMap (w : World) (b : Nat) (c : Int → Int) (n : Nat) : Prop :=
  ∃ D : DataW Unit, w.ownsMap Tryd.prog 3 (plainElem Tryd.prog 3) b n D ∧ ∀ x, D.atKey (.int .i64 x) (.lit (.int .i64 0)) = .lit (.int .i64 (c x))
def upd (c : Int → Int) (x : Int) : Int → Int := fun y => if y = x then c x + 1 else c y
theorem CntMap.alloc {w : World} {b : Nat} {c : Int → Int} {n : Nat} (h : CntMap w b c n) (o : Obj) : CntMap (w.alloc o) b c n := by
  obtain ⟨D, h1, h2⟩ := h
  exact ⟨D, h1.alloc o, h2⟩
theorem CntMap.drew {w : World} {b : Nat} {c : Int → Int} {n : Nat} (h : CntMap w b c n) : CntMap w.drew b c n := by
  obtain ⟨D, h1, h2⟩ := h
  exact ⟨D, h1.drew, h2⟩
theorem CntMap.grown {w w' : World} {b : Nat} {c : Int → Int} {n : Nat} {row : Option Nat} (h : CntMap w b c n) (hg : w.grownBy w' row) (hne : some b ≠ row) : CntMap w' b c n := by
  obtain ⟨D, h1, h2⟩ := h
  exact ⟨D, h1.kept hg hne, h2⟩
theorem CntMap.below {w w' : World} {b : Nat} {c : Int → Int} {n : Nat} (h : CntMap w b c n) (hb : Below w.heap.size w w') : CntMap w' b c n := by
  obtain ⟨D, h1, h2⟩ := h
  refine ⟨D, ?_, h2⟩
  have hl := h1.lt
  obtain ⟨es, clock, e1, e2, e3, e4⟩ := h1
  exact ⟨es, clock, (hb.block b hl).trans e1, e2, e3, e4⟩
def AddPost (w : World) (b : Nat) (c : Int → Int) (x : Int) (n : Nat) (e : Ending) (w' : World) : Prop := e = .returned (.int .i64 (c x + 1)) ∧ CntMap w' b (upd c x) (n + 1) ∧ w.grownBy w' (some b)
set_option maxHeartbeats 1000000 in
set_option maxRecDepth 100000 in
theorem add_any (b : Nat) (c : Int → Int) (x : Int) (n : Nat) (w : World) (hx : 0 ≤ x ∧ x ≤ 4) (hc : 0 ≤ c x ∧ c x ≤ 1000) (hn : n ≤ 1000) (hM : CntMap w b c n) :
    Calls Tryd.prog 72 #[.map (some b), .int .i64 x] w (AddPost w b c x n) := by
  obtain ⟨D, hown, hat⟩ := hM
  have hkey : keyOf Tryd.prog 3 (.int .i64 x) = some (.int .i64 x) := keyOf_int_mk Tryd.underlying3 (wf_small x (by omega))
  have HAT := Aside0.mk (hat x)
  have HATS := Aside0.mk hat
  clear hat
  have hwf : (Lit.int .i64 (c x + 1)).wf = true := wf_small _ (by omega)
  have HC := Aside0.mk hc
  clear hc
  go_enter Tryd.func72, Tryd.ntmps72
  go_wp2_with (first
    | (at_lookup; refine wpList_lookup_own_int _ rfl (.tmp 5) (.tmp 6) 93 rfl 3 3 .i64 keyI Tryd.underlying93 Tryd.underlying3 (zeroI _) b n D rfl hown _ _ rfl hkey ?_; intro z hz hwz; have ez : z = c x := (by have := HAT.out.symm.trans hz; injection this with this; injection this with _ this; exact this.symm); subst ez; clear hz hwz; have hcb := HC.out)
    | (at_mapUpdate; refine wpList_mapUpdate_own _ rfl _ _ _ 93 rfl 3 3 keyI Tryd.underlying93 _ b n D rfl hown (by unfold maxLen; omega) _ _ _ rfl rfl hkey _ [] (plainElem_int Tryd.underlying3 hwf) ?_; intro w1 hown1 hgrow1; have HG1 := Aside0.mk hgrow1; clear hgrow1; have HAT1 := Aside0.mk (atKey_put_same hown.isMap (k := .int .i64 x) trivial (.lit (.int .i64 (c x + 1))) (.lit (.int .i64 0))))
    | (at_lookup; refine wpList_lookup_own_int _ rfl (.tmp 9) (.tmp 10) 93 rfl 3 3 .i64 keyI Tryd.underlying93 Tryd.underlying3 (zeroI _) b (n + 1) _ rfl hown1 _ _ rfl hkey ?_; intro z hz hwz; have ez : z = c x + 1 := (by have := HAT1.out.symm.trans hz; injection this with this; injection this with _ this; exact this.symm); subst ez; clear hz hwz))
  go_ret
  refine ⟨rfl, ⟨_, hown1, fun y => ?_⟩, HG1.out⟩
  unfold upd
  by_cases hy : y = x
  · rw [if_pos hy, hy]
    exact HAT1.out
  · rw [if_neg hy, atKey_put_other (by intro e; injection e with _ e; exact hy e), HATS.out]
/-- How many of the entries are of 'who'. -/
def cntE (l : List S56) (who : Int) : Int := (l.countP fun e => e.f0 == who : Nat)
theorem cntE_snoc (l : List S56) (e : S56) : cntE (l ++ [e]) = upd (cntE l) e.f0 := by
  funext y
  unfold cntE upd
  rw [List.countP_append]
  by_cases h : y = e.f0
  · subst h
    simp
  · have h' : (e.f0 == y) = false := beq_eq_false_iff_ne.2 (fun q => h q.symm)
    rw [if_neg h]
    simp [h']
theorem cntE_le (l : List S56) (who : Int) : 0 ≤ cntE l who ∧ cntE l who ≤ l.length := by
  unfold cntE
  have := List.countP_le_length (p := fun e : S56 => e.f0 == who) (l := l)
  omega
def impl_LogOk.go (k : Nat) : List S56 → List S56 → Option Bool
  | _, [] => some true
  | pre, e :: rest => (impl_EntryOk.f k e.f0 e.f1 e.f2.f0 e.f2.f1 e.f2.f2 e.f2.f3 e.f2.f4).bind fun t =>
      if t = true then (if cntE pre e.f0 + 1 = e.f1 then impl_LogOk.go k (pre ++ [e]) rest else some false) else some false
def impl_LogOk.f (k : Nat) (l0 : List S56) : Option Bool := if (l0.length : Int) > 40 then some false else impl_LogOk.go k [] l0
theorem impl_LogOk.mono_go (k : Nat) : ∀ (rest pre : List S56), LeO (impl_LogOk.go k pre rest) (impl_LogOk.go (k + 1) pre rest)
  | [], _ => LeO.refl _
  | e :: rest, pre => by
    unfold impl_LogOk.go
    exact LeO.bind (impl_EntryOk.mono _ _ _ _ _ _ _ _) (fun _ => LeO.ite (LeO.ite (impl_LogOk.mono_go k rest _) (LeO.refl _)) (LeO.refl _))
theorem impl_LogOk.mono (l0 : List S56) (k : Nat) : LeO (impl_LogOk.f k l0) (impl_LogOk.f (k + 1) l0) := by
  unfold impl_LogOk.f
  exact LeO.ite (LeO.refl _) (impl_LogOk.mono_go k _ _)
theorem entry_who {k : Nat} {a0 a1 a2 a3 a4 a5 : Int} {a6 : ByteArray} (h : impl_EntryOk.f k a0 a1 a2 a3 a4 a5 a6 = some true) : 1 ≤ a0 ∧ a0 ≤ 3 := by
  unfold impl_EntryOk.f at h
  obtain ⟨t, ht, h⟩ := Option.bind_eq_some_iff.1 h
  cases t with
  | false => simp at h
  | true =>
    unfold impl_whoOk.f at ht
    by_cases h1 : a0 ≥ 1
    · rw [if_pos h1] at ht
      exact ⟨h1, of_decide_eq_true (Option.some.inj ht)⟩
    · rw [if_neg h1] at ht
      cases ht
def LogRel (k : Nat) (l0 : List S56) (r : Bool) (w : World) (i : Value) (wr : World) : Prop :=
  ∃ j : Int, 0 ≤ j ∧ j ≤ l0.length ∧ i = .int .i64 j ∧ impl_LogOk.go k (l0.take j.toNat) (l0.drop j.toNat) = some r ∧ CntMap wr w.heap.size (cntE (l0.take j.toNat)) j.toNat ∧ Below w.heap.size w wr
set_option maxHeartbeats 4000000 in
set_option maxRecDepth 100000 in
theorem impl_LogOk.calls (k : Nat) (A0 : Option Addr) (c0 : Nat) (l0 : List S56) (r : Bool) (w : World) (hr0 : Kd.C k56 w A0 l0.length l0) (hc0 : l0.length ≤ c0) (h : impl_LogOk.f k l0 = some r) (hG : Glob w) :
    Calls Tryd.prog 57 #[.slice A0 l0.length c0] w fun e w' => e = .returned (.bool r) ∧ Below w.heap.size w w' := by
  have HR0 := Aside0.mk hr0
  have HG := Aside0.mk hG
  clear hr0 hG
  unfold impl_LogOk.f at h
  have hmm := @run_makeMap Tryd.prog
  by_cases h40 : (l0.length : Int) > 40
  · rw [if_pos h40] at h
    obtain rfl := Option.some.inj h
    clear h hmm
    have hd : decide (40 < l0.length) = true := decide_eq_true (by omega)
    go_enter Tryd.func57, Tryd.ntmps57
    go_wp2
    go_ret
    exact ⟨rfl, Below.refl _ _⟩
  · rw [if_neg h40] at h
    have HH := Aside0.mk h
    clear h
    have hd : decide (40 < l0.length) = false := decide_eq_false (by omega)
    have hlen : l0.length ≤ 40 := by omega
    go_enter Tryd.func57, Tryd.ntmps57
    go_wp2
    have hM0 : CntMap (w.alloc (.map #[] 0)) w.heap.size (cntE []) 0 := ⟨.map [], World.ownsMap_made _ _ _ _, fun x => rfl⟩
    have HM0 := Aside0.mk hM0
    clear hM0
    go_loopw [12] (fun i wr => LogRel k l0 r w i wr) (fun i _ => l0.length - (intOf i).toNat)
    case atStart => exact ⟨0, Int.le_refl _, by omega, rfl, HH.out, HM0.out, below_box0 w _⟩
    case round =>
      obtain ⟨j, hj0, hj, rfl, hgo, hM, hB⟩ := hrel
      have HM := Aside0.mk hM
      have HB := Aside0.mk hB
      have HGO := Aside0.mk hgo
      clear hM hB hgo HH HM0
      by_cases hlt : j < l0.length
      · have hd1 : decide (j < (l0.length : Int)) = true := decide_eq_true hlt
        obtain ⟨ad, e, hx0, hx1, hx2, hx3, hx4, hx5, hx6⟩ := at_T56 HR0.out j hj0 hlt
        cases e
        replace hx0 := (cb_ HB.out hx0 :)
        replace hx1 := (cb_ HB.out hx1 :)
        replace hx2 := (cb_ HB.out hx2 :)
        replace hx3 := (cb_ HB.out hx3 :)
        replace hx4 := (cb_ HB.out hx4 :)
        replace hx5 := (cb_ HB.out hx5 :)
        replace hx6 := (cb_ HB.out hx6 :)
        have hu := Tryd.underlying56
        have hxe : rd_T56 l0 j = l0[j.toNat]'(by omega) := by
          unfold rd_T56
          rw [List.getD_eq_getElem?_getD, List.getElem?_eq_getElem (by omega)]
          rfl
        have htd := List.drop_eq_getElem_cons (l := l0) (i := j.toNat) (by omega)
        have htk := List.take_succ_eq_append_getElem (l := l0) (i := j.toNat) (by omega)
        rw [← hxe] at htd htk
        have hgo := HGO.out
        rw [htd] at hgo
        clear HGO hxe
        generalize rd_T56 l0 j = x at hx0 hx1 hx2 hx3 hx4 hx5 hx6 htd htk hgo
        rw [show j.toNat + 1 = (j + 1).toNat by omega] at htd htk hgo
        unfold impl_LogOk.go at hgo
        have hjb : j ≤ 40 := by omega
        have p1 := eq_true hj0
        have q1 := eq_true hlt
        have hM1 := HM.out.alloc (.cells #[.int .i64 x.f0, .int .i64 x.f1, .int .i64 x.f2.f0, .int .i64 x.f2.f1, .int .i64 x.f2.f2, .int .i64 x.f2.f3, .string x.f2.f4] 56)
        have hcn := cntE_le (l0.take j.toNat) x.f0
        have hcl : (l0.take j.toNat).length ≤ 40 := by rw [List.length_take]; omega
        have hsn := cntE_snoc (l0.take j.toNat) x
        rw [← htk] at hsn
        rw [← htk] at hgo
        have HM1 := Aside0.mk hM1
        have HSN := Aside0.mk hsn
        have HGO := Aside0.mk hgo
        have HTD := Aside0.mk htd
        have HCN := Aside0.mk hcn
        have HCL := Aside0.mk hcl
        have HJN := Aside0.mk (show j.toNat ≤ 1000 ∧ 0 ≤ j ∧ j < l0.length from ⟨by omega, hj0, hlt⟩)
        have HB0 := HB
        have HL := Aside0.mk (show w.heap.size < wr.heap.size from by obtain ⟨D, h1, _⟩ := HM.out; exact h1.lt)
        have HB1 := Aside0.mk (below_alloc HB.out (.cells #[.int .i64 x.f0, .int .i64 x.f1, .int .i64 x.f2.f0, .int .i64 x.f2.f1, .int .i64 x.f2.f2, .int .i64 x.f2.f3, .string x.f2.f4] 56))
        clear hj0 hlt hM1 hcn hcl htd htk hsn hgo HM HB
        go_wp2
        have hwr : w.heap.size ≤ wr.heap.size ∧ w.heap.size < wr.heap.size := by
          obtain ⟨D, h1, _⟩ := HM1.out
          have h2 := HB0.out.size
          exact ⟨h2, HL.out⟩
        have HW := Aside0.mk hwr
        clear hwr
        obtain ⟨W1, hW1⟩ : ∃ W1, W1 = wr.alloc (.cells #[.int .i64 x.f0, .int .i64 x.f1, .int .i64 x.f2.f0, .int .i64 x.f2.f1, .int .i64 x.f2.f2, .int .i64 x.f2.f3, .string x.f2.f4] 56) := ⟨_, rfl⟩
        have hn0 : W1.heap[wr.heap.size]? = some (.cells #[.int .i64 x.f0, .int .i64 x.f1, .int .i64 x.f2.f0, .int .i64 x.f2.f1, .int .i64 x.f2.f2, .int .i64 x.f2.f3, .string x.f2.f4] 56 (0, 0)) := by rw [hW1]; simpa using heap_alloc_new wr _
        have HN0 := Aside0.mk hn0
        rw [← hW1] at HM1 HB1 ⊢
        clear hW1 hx0 hx1 hx2 hx3 hx4 hx5 hx6 hn0
        generalize wr.heap.size = g at HN0 HW ⊢
        have hc0 : W1.cell? ⟨g, 0, none⟩ = some (.int .i64 x.f0) := (blk_cell HN0.out 0).trans rfl
        have hc1 : W1.cell? ⟨g, 1, none⟩ = some (.int .i64 x.f1) := (blk_cell HN0.out 1).trans rfl
        have hc2 : W1.cell? ⟨g, 2, none⟩ = some (.int .i64 x.f2.f0) := (blk_cell HN0.out 2).trans rfl
        have hc3 : W1.cell? ⟨g, 3, none⟩ = some (.int .i64 x.f2.f1) := (blk_cell HN0.out 3).trans rfl
        have hc4 : W1.cell? ⟨g, 4, none⟩ = some (.int .i64 x.f2.f2) := (blk_cell HN0.out 4).trans rfl
        have hc5 : W1.cell? ⟨g, 5, none⟩ = some (.int .i64 x.f2.f3) := (blk_cell HN0.out 5).trans rfl
        have hc6 : W1.cell? ⟨g, 6, none⟩ = some (.string x.f2.f4) := (blk_cell HN0.out 6).trans rfl
        have hgo := HGO.out
        clear HGO
        obtain ⟨t, ht, hgo⟩ := Option.bind_eq_some_iff.1 hgo
        have HT := Aside0.mk ht
        clear ht
        have HBd := Aside0.mk (below_drew1 HB1.out)
        have HGd := Aside0.mk (HG.out.below HBd.out)
        have HMd := Aside0.mk HM1.out.drew
        have HNd := Aside0.mk (blk_drew HN0.out)
        have hwho := fun (e : t = true) => entry_who (k := k) (e ▸ HT.out)
        clear HB1 HM1 HN0
        cases t with
        | false =>
          simp only [Bool.false_eq_true, if_false, Option.some.injEq] at hgo
          subst hgo
          clear hwho
          refine start_ (n := 12) (S := fun w' => w'.cell? ⟨g, 0, none⟩ = some (.int .i64 x.f0) ∧ w'.cell? ⟨g, 1, none⟩ = some (.int .i64 x.f1) ∧ w'.cell? ⟨g, 2, none⟩ = some (.int .i64 x.f2.f0) ∧ w'.cell? ⟨g, 3, none⟩ = some (.int .i64 x.f2.f1) ∧ w'.cell? ⟨g, 4, none⟩ = some (.int .i64 x.f2.f2) ∧ w'.cell? ⟨g, 5, none⟩ = some (.int .i64 x.f2.f3) ∧ w'.cell? ⟨g, 6, none⟩ = some (.string x.f2.f4)) (ds := []) #[false, false, false, false, false, false, false, false, false, false, false, false] (by kernel_rfl) rfl rfl ⟨(blk_cell HNd.out 0).trans rfl, (blk_cell HNd.out 1).trans rfl, (blk_cell HNd.out 2).trans rfl, (blk_cell HNd.out 3).trans rfl, (blk_cell HNd.out 4).trans rfl, (blk_cell HNd.out 5).trans rfl, (blk_cell HNd.out 6).trans rfl⟩ (fun hHeld => ?_)
          refine take_ (i := 0) (N := some 16) (v := ?_) (a' := ?_) #[true, false, false, false, false, false, false, false, false, false, false, false] rfl rfl (by kernel_rfl) (fun _ _ _ h => h) (Or.inl ⟨by rfl, ?_⟩) hHeld ?_ ?_
          rotate_left
          · rintro w' ⟨s0, s1, s2, s3, s4, s5, s6⟩
            go_simp
            with_reducible rfl
          rotate_left
          · simp only [Act.put, List.setIfInBounds_toArray, List.set_cons_zero, List.set_cons_succ, i64_w, i32_w]
            rfl
          refine one_ (i := 1) (N := some 17) #[true, true, false, false, false, false, false, false, false, false, false, false] rfl rfl (by kernel_rfl) (by decide) (fun K hK => ?_)
          refine goes_ Tryd.func66 (by kernel_rfl) rfl #[.agg #[.int .i64 x.f0, .int .i64 x.f1, .int .i64 x.f2.f0, .int .i64 x.f2.f1, .int .i64 x.f2.f2, .int .i64 x.f2.f3, .string x.f2.f4]] (by rfl) rfl rfl (by (try simp only [List.map_toArray, List.map_cons, List.map_nil]); first | done | rfl) ?_
          with_reducible refine (impl_EntryOk.calls k x.f0 x.f1 x.f2.f0 x.f2.f1 x.f2.f2 x.f2.f3 x.f2.f4 false _ HT.out HGd.out).mono ?_
          rintro e w2 ⟨rfl, hb⟩
          refine ⟨_, rfl, ?_⟩
          have HB2 := Aside0.mk (below_step HBd.out hb)
          have HN2 := Aside0.mk (blk_below HNd.out hb)
          clear hb
          refine hK.out _ _ ⟨(blk_cell HN2.out 0).trans rfl, (blk_cell HN2.out 1).trans rfl, (blk_cell HN2.out 2).trans rfl, (blk_cell HN2.out 3).trans rfl, (blk_cell HN2.out 4).trans rfl, (blk_cell HN2.out 5).trans rfl, (blk_cell HN2.out 6).trans rfl⟩ (fun hHeld2 => ?_)
          clear hK K
          refine no_ ?_
          refine pure_ (i := 2) (N := some 18) (v := ?_) (a' := ?_) #[true, true, true, false, false, false, false, false, false, false, false, false] rfl rfl (by kernel_rfl) (fun _ _ _ h => h) (Or.inl ⟨by rfl, ?_⟩) ?_ ?_
          rotate_left
          · intro w'
            go_simp
            with_reducible rfl
          rotate_left
          · simp only [Act.put, List.setIfInBounds_toArray, List.set_cons_zero, List.set_cons_succ, i64_w, i32_w]
            rfl
          refine pure_ (i := 3) (N := some 19) (v := ?_) (a' := ?_) #[true, true, true, true, false, false, false, false, false, false, false, false] rfl rfl (by kernel_rfl) (fun _ _ _ h => h) (Or.inl ⟨by rfl, ?_⟩) ?_ ?_
          rotate_left
          · intro w'
            go_simp
            with_reducible rfl
          rotate_left
          · simp only [Act.put, List.setIfInBounds_toArray, List.set_cons_zero, List.set_cons_succ, i64_w, i32_w]
            rfl
          refine pure_ (i := 4) (N := some 20) (v := undef) (a' := ?_) #[true, true, true, true, true, false, false, false, false, false, false, false] rfl rfl (by kernel_rfl) (fun _ _ _ h => h) (Or.inr ⟨by rfl, rfl⟩) ?_ ?_
          rotate_left
          · simp only [Act.put, List.setIfInBounds_toArray, List.set_cons_zero, List.set_cons_succ, i64_w, i32_w]
            rfl
          refine pure_ (i := 5) (N := some 21) (v := undef) (a' := ?_) #[true, true, true, true, true, true, false, false, false, false, false, false] rfl rfl (by kernel_rfl) (fun _ _ _ h => h) (Or.inr ⟨by rfl, rfl⟩) ?_ ?_
          rotate_left
          · simp only [Act.put, List.setIfInBounds_toArray, List.set_cons_zero, List.set_cons_succ, i64_w, i32_w]
            rfl
          refine pure_ (i := 6) (N := some 22) (v := undef) (a' := ?_) #[true, true, true, true, true, true, true, false, false, false, false, false] rfl rfl (by kernel_rfl) (fun _ _ _ h => h) (Or.inr ⟨by rfl, rfl⟩) ?_ ?_
          rotate_left
          · simp only [Act.put, List.setIfInBounds_toArray, List.set_cons_zero, List.set_cons_succ, i64_w, i32_w]
            rfl
          refine pure_ (i := 7) (N := some 23) (v := undef) (a' := ?_) #[true, true, true, true, true, true, true, true, false, false, false, false] rfl rfl (by kernel_rfl) (fun _ _ _ h => h) (Or.inr ⟨by rfl, rfl⟩) ?_ ?_
          rotate_left
          · simp only [Act.put, List.setIfInBounds_toArray, List.set_cons_zero, List.set_cons_succ, i64_w, i32_w]
            rfl
          refine pure_ (i := 8) (N := some 24) (v := undef) (a' := ?_) #[true, true, true, true, true, true, true, true, true, false, false, false] rfl rfl (by kernel_rfl) (fun _ _ _ h => h) (Or.inr ⟨by rfl, rfl⟩) ?_ ?_
          rotate_left
          · simp only [Act.put, List.setIfInBounds_toArray, List.set_cons_zero, List.set_cons_succ, i64_w, i32_w]
            rfl
          refine pure_ (i := 9) (N := some 25) (v := undef) (a' := ?_) #[true, true, true, true, true, true, true, true, true, true, false, false] rfl rfl (by kernel_rfl) (fun _ _ _ h => h) (Or.inr ⟨by rfl, rfl⟩) ?_ ?_
          rotate_left
          · simp only [Act.put, List.setIfInBounds_toArray, List.set_cons_zero, List.set_cons_succ, i64_w, i32_w]
            rfl
          refine pure_ (i := 10) (N := some 26) (v := undef) (a' := ?_) #[true, true, true, true, true, true, true, true, true, true, true, false] rfl rfl (by kernel_rfl) (fun _ _ _ h => h) (Or.inr ⟨by rfl, rfl⟩) ?_ ?_
          rotate_left
          · simp only [Act.put, List.setIfInBounds_toArray, List.set_cons_zero, List.set_cons_succ, i64_w, i32_w]
            rfl
          refine pure_ (i := 11) (N := some 27) (v := ?_) (a' := ?_) #[true, true, true, true, true, true, true, true, true, true, true, true] rfl rfl (by kernel_rfl) (fun _ _ _ h => h) (Or.inl ⟨by rfl, ?_⟩) ?_ ?_
          rotate_left
          · intro w'
            go_simp
            with_reducible rfl
          rotate_left
          · simp only [Act.put, List.setIfInBounds_toArray, List.set_cons_zero, List.set_cons_succ, i64_w, i32_w]
            rfl
          refine done_ (by kernel_rfl) ?_
          go_wp2
          go_ret
          exact ⟨rfl, HB2.out⟩
        | true =>
          simp only [if_true] at hgo
          have hx13 := hwho rfl
          have HX := Aside0.mk (show 0 ≤ x.f0 ∧ x.f0 ≤ 4 from ⟨by omega, by omega⟩)
          have HC := Aside0.mk (show 0 ≤ cntE (l0.take j.toNat) x.f0 ∧ cntE (l0.take j.toNat) x.f0 ≤ 1000 from ⟨HCN.out.1, by have := HCN.out.2; have := HCL.out; omega⟩)
          clear hwho hx13
          have HGO := Aside0.mk hgo
          clear hgo
          generalize cntE (l0.take j.toNat) = c at HMd HSN HCN HGO HC
          by_cases hq : c x.f0 + 1 = x.f1
          · have hgo := HGO.out
            rw [if_pos hq] at hgo
            clear HGO
            have HGO := Aside0.mk hgo
            clear hgo
            have b1 : (c x.f0 + 1 != x.f1) = false := bne_eq_false_iff_eq.2 hq
            clear hq
            go_region_with (first
              | (go_at_call 66; refine (impl_EntryOk.calls k _ _ _ _ _ _ _ true _ HT.out HGd.out).mono ?_; rintro e w2 ⟨rfl, hb⟩; have HB2 := Aside0.mk (below_step HBd.out hb); have HM2 := Aside0.mk (HMd.out.below hb); have HN2 := Aside0.mk (blk_below HNd.out hb); clear hb; have hd0 := (blk_cell HN2.out 0).trans rfl; have hd1 := (blk_cell HN2.out 1).trans rfl)
              | (go_at_call 72; refine (add_any _ _ _ _ _ HX.out HC.out HJN.out.1 HM2.out).mono ?_; rintro e w3 ⟨rfl, hM3, hg3⟩; have HM3 := Aside0.mk hM3; have HN3 := Aside0.mk ((hg3.block g (blk_lt HN2.out) (by intro e; cases e; have := HW.out; omega)).trans HN2.out); have HB3 := Aside0.mk (HB2.out.grown hg3 HB2.out.size (fun j hj => by cases hj; exact Nat.le_refl _)); clear hM3 hg3; have hf0 := (blk_cell HN3.out 0).trans rfl; have hf1 := (blk_cell HN3.out 1).trans rfl))
            all_goals go_wp2
            all_goals have hjj := HJN.out
            all_goals have hww : wrap64 (j + 1) = j + 1 := by unfold wrap64; omega
            all_goals refine ⟨⟨j + 1, by omega, by omega, by rw [hww], HGO.out, ?_, HB3.out⟩, ?_⟩
            all_goals first
              | (rw [hww]; show l0.length - (j + 1).toNat < l0.length - j.toNat; omega)
              | (rw [HSN.out, show (j + 1).toNat = j.toNat + 1 by omega]; exact HM3.out)
          · have hgo := HGO.out
            rw [if_neg hq] at hgo
            obtain rfl := Option.some.inj hgo
            clear HGO hgo
            have b1 : (c x.f0 + 1 != x.f1) = true := bne_iff_ne.2 hq
            clear hq
            go_region_with (first
              | (go_at_call 66; refine (impl_EntryOk.calls k _ _ _ _ _ _ _ true _ HT.out HGd.out).mono ?_; rintro e w2 ⟨rfl, hb⟩; have HB2 := Aside0.mk (below_step HBd.out hb); have HM2 := Aside0.mk (HMd.out.below hb); have HN2 := Aside0.mk (blk_below HNd.out hb); clear hb; have hd0 := (blk_cell HN2.out 0).trans rfl; have hd1 := (blk_cell HN2.out 1).trans rfl)
              | (go_at_call 72; refine (add_any _ _ _ _ _ HX.out HC.out HJN.out.1 HM2.out).mono ?_; rintro e w3 ⟨rfl, hM3, hg3⟩; have HN3 := Aside0.mk ((hg3.block g (blk_lt HN2.out) (by intro e; cases e; have := HW.out; omega)).trans HN2.out); have HB3 := Aside0.mk (HB2.out.grown hg3 HB2.out.size (fun j hj => by cases hj; exact Nat.le_refl _)); clear hM3 hg3; have hf0 := (blk_cell HN3.out 0).trans rfl; have hf1 := (blk_cell HN3.out 1).trans rfl))
            all_goals go_wp2
            all_goals go_ret
            all_goals exact ⟨rfl, HB3.out⟩
      · have hd1 : decide (j < (l0.length : Int)) = false := decide_eq_false hlt
        have hgo := HGO.out
        rw [List.drop_eq_nil_of_le (by omega)] at hgo
        unfold impl_LogOk.go at hgo
        obtain rfl := Option.some.inj hgo
        clear hgo HGO hlt
        go_wp2
        go_ret
        exact ⟨rfl, HB.out⟩
end Go.Proofs.YtnclcbjagleoeaaDoor.P
