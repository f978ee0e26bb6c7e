/- Joined by a program (wip/shake.py): the declarations that 'YtdpklbomhdpimaaDoorCardFnExactClientDo' reaches. -/
import Derived.Below
import Derived.Deep.Draws
import Derived.Deep.AppendLies
import Derived.Maps.AppendAt
import Derived.OwnWalk
import Derived.Laws.BytesArg
import Derived.Laws.MakeOwn
import Derived.Laws.OwnMore
import Derived.Deep.OwnRows
import Derived.Tactics
import Derived.Lib.ConvBytes
import Derived.Laws.Slices
import Derived.WalkKit
import Derived.KernelRfl
import Derived.RowKit3
import Derived.Deep.LoopGhost
import Derived.Deep.QuietTactic
import Derived.BigQuiet
import Derived.WideLaws
import Derived.Deep.DeepCutAuto
import Derived.Deep.CutBlock
import Derived.Deep.RegionHeld3
import Derived.Laws.Rows
import Derived.Lib.AppendStr
import Derived.ArgAppend
import Derived.Laws.IdiomCopy
import Derived.OrdersHeld
import Derived.Laws.BitsLemmas
import Derived.RowKit
import Derived.Deep.CutRange
import Derived.Lib.LaidTab
import Derived.Lib.Hide
import Derived.Maps.OwnOps
import Derived.Maps.OwnSet
import Derived.Outline
import Derived.RegionTactic
import Derived.LoopTactic
import Derived.LaidEqlPtr
import Derived.RangeFuncFrom
import Derived.RangeFuncNested
import Derived.RangeFuncBound
import Derived.RangeFuncCalls
import Derived.RangeFuncLeaves
import Derived.Shelf.Abstract
import Derived.Shelf.RegionOpen
import Derived.OwnWalkIn
import Derived.TacticsInMore
import Derived.LoopNIn
import Derived.LoopIn
import Derived.RangeFuncWrites
import Derived.LaidMore
import Derived.LaidLaws
import Derived.ProofKit
import Derived.ChangeVars
import Derived.Deep.Slices
import Derived.Lib.SmallJoins
import Derived.ChangeSame
import Derived.OpenShut
import Derived.ShutString
import Derived.ChangeOld
import Derived.SizedLaws
import Derived.SevenTiedAt
import Derived.WalkSpells
import Derived.Test.YtdpklbomhdpimaaDoorCards
import Derived.Test.YtdpklbomhdpimaaDoorRows
import Derived.Test.YtdpklbomhdpimaaDoorTie
import Derived.Test.YtdpklbomhdpimaaDoorZLmV
set_option linter.unusedVariables false
set_option linter.unusedSimpArgs false
set_option linter.unusedSectionVars false
set_option maxHeartbeats 8000000
set_option maxRecDepth 100000
namespace Go.Proofs.YtdpklbomhdpimaaDoor.P
open Go.RowKit Go.Proofs.YtdpklbomhdpimaaDoorW.PrintWords Go.Proofs.YtdpklbomhdpimaaDoorW.PrintLast Go.Proofs.YtdpklbomhdpimaaDoorW.PrintMore
theorem a_ {p:Prop} (h:p):Aside0 p:=⟨h⟩
theorem dt_ {p:Prop} [Decidable p] (h:p):decide p=true:=decide_eq_true h
theorem df_ {p:Prop} [Decidable p] (h:¬ p):decide p=false:=decide_eq_false h
theorem bs_ {α β:Type} {o:Option α} {f:α→Option β} {b:β} (h:o.bind f=some b):∃ a,o=some a∧f a=some b:=Option.bind_eq_some_iff.mp h
theorem sj_ {α:Type} {a b:α} (h:some a=some b):a=b:=Option.some.inj h
theorem bl_ (w:World) (a:Addr) {v:Value} (h:w.cell? a=some v):a.block < w.heap.size:=World.block_lt_of_cell? w a h
theorem bn_ {α:Type} [BEq α] [LawfulBEq α] {a b:α} (h:a≠b):(a==b)=false:=beq_eq_false_iff_ne.mpr h
theorem be_ {α:Type} [BEq α] [LawfulBEq α] {a b:α} (h:a=b):(a != b)=false:=bne_eq_false_iff_eq.mpr h
theorem bel_ {p:Prop} (h:p:=by repeat (first|(with_reducible first|exact HB.out|apply wA_|apply pw_below_drewN|apply below_drew1|refine wS_ ?_ (Aside0.out (by assumption)))|exact HB.out)):p:=h
theorem bp_ {p q:Prop} (h:p) (f:p→q:=by intro h_;(with_reducible repeat (first|refine bN_ ?_ _|refine bD_ ?_|refine bA_ ?_ _));exact h_):q:=f h
theorem rp_ {p q:Prop} (h:p) (f:p→q:=by intro h_;(with_reducible repeat (first|apply Kd.R_alloc|apply Kd.R_drewN|apply Kd.R_drew));exact h_):q:=f h
theorem ar_ {p:Prop} (h:p:=by (try simp only [List.map_toArray,List.map_cons,List.map_nil]);first|done|rfl|(simp only [List.length_drop,List.length_take];rfl)):p:=h
theorem fi_ {p:Prop} (h:p:=by first|rfl|(simp [errW_none,errW_some] <;> rfl)|(simp [*,errW_none,errW_some] <;> rfl)):p:=h
theorem cp_ {p q:Prop} (h:p) (f:p→q:=by intro h_;repeat (first|exact (Kd.C_below h_ HB.out)|(with_reducible refine Kd.C_alloc ?_ _)|(with_reducible refine Kd.C_drewN ?_ _)|(with_reducible refine Kd.C_drew ?_))):q:=f h
theorem cz_ {W:World} {g:Nat} {t:TypeId} {cs:Array Value} (h:W.heap[g]?=some (.cells cs t (0,0))) (i:Nat) (v:Value) (hv:cs[i]?=some v:=by exact rfl):W.cell? ⟨g,i,none⟩=some v:=(bC_ h i).trans hv
theorem bb_ {w w1 W0:World} {g:Nat} {o:Obj} (h0:W0.heap[g]?=some o) (hb:Below w.heap.size w w1) (f:W0.heap[g]?=some o→w.heap[g]?=some o:=by intro h_;(with_reducible repeat (first|refine bN_ ?_ _|refine bD_ ?_|refine bA_ ?_ _));exact h_):w1.heap[g]?=some o:=blk_below (f h0) hb
theorem bx_ {P:Program} {ops:Array Oper} {Q:Exit→Act→World→Prop} {rest:List Oper} {o:Oper} {a:Act} {W:World} (N:Tmp) (cs:Array Value) (t:TypeId)
    (h:∀ g,g=W.heap.size→∀ w1,w1.heap[g]?=some (.cells cs t (0,0))→Below W.heap.size W w1→wpList P ops Q rest (a.put o.dst (.pointer (some ⟨g,0,none⟩))) w1) (hd:o.dst=some N:=by exact rfl) (hg:o.guard=none:=by exact rfl)
    (hr:(execOp a.eval o).run P W=.ok (.value (.pointer (some ⟨W.heap.size,0,none⟩))) (W.alloc (.cells cs t (0,0))):=by first|(go_simp;done)|(go_simp;rfl)):wpList P ops Q (o::rest) a W:=box_event hg hd hr h
theorem cx_ {p q:Prop} (h:p) (f:p→q:=by intro h_;repeat (first|exact h_|(with_reducible refine Kd.C_alloc ?_ _)|(with_reducible refine Kd.C_drewN ?_ _)|(with_reducible refine Kd.C_drew ?_))):q:=f h
theorem hg_ {p:Prop} (h:p:=by repeat (first|(with_reducible first|exact HG.out|apply Glob.drewN|apply Glob.drew)|exact HG.out)):p:=h
theorem od_ {p:Prop} [d:Decidable p] (h:decide p=true:=by first|(with_reducible assumption)|assumption):p:=of_decide_eq_true h
theorem si_ {p:Prop} (h:p:=by first|rfl|(simp;done)|(simp [*];done)):p:=h
theorem cb_ {w w':World} {p:Addr} {v:Value} (hb:Below w.heap.size w w') (h:w.cell? p=some v):w'.cell? p=some v:=(hb.cell (bl_ w _ h)).trans h
theorem gl_ {P:Program} {ops:Array Oper} {Q:Exit→Act→World→Prop} {rest:List Oper} {oi:Oper} {a:Act} {w:World} (n:Tmp) {f:FuncId} {fn:Func} (hf:P.funcs[f]?=some fn) (args:Array Value) {as_:Array Operand} {ts:Array TypeId}
    (h:Calls P f args w fun e w'=>∃ v,e=.returned v∧wpList P ops Q rest (a.put (some n) v) w') (hd:oi.dst=some n:=by exact rfl) (hg:oi.guard=none:=by exact rfl)
    (hname:(fn.name == "runtime.NumGoroutine")=false:=by kernel_rfl) (hb:fn.body.isSome=true:=by exact rfl) (hop:oi.op=.call { callee:=.value (.func f),args:=as_,argTypes:=ts }:=by exact rfl)
    (hargs:as_.map a.eval=args:=by (try simp only [List.map_toArray,List.map_cons,List.map_nil]);first|done|rfl|(simp only [List.length_drop,List.length_take];rfl)):wpList P ops Q (oi::rest) a w:=goesL_ (some n) hd hg hf hname hb args hop hargs h
theorem pa_ {P:Program} {md:Region.Mode} {ops:Array Oper} {Q:Exit→Act→World→Prop} {S:World→Prop} {ds:List Nat} (i:Nat) (n:Tmp) {oi:Oper} {v:Value} {fuel:Nat} {l:Array Bool} {a:Act} {w:World} {a':Act}
    (h:wpAnyLast P md ops Q S ds fuel (l.setIfInBounds i true) a' w) (hi:ops[i]?=some oi:=by exact rfl) (hN:oi.dst=some n:=by exact rfl) (hc:anyB md ops l (l.setIfInBounds i true) i=true:=by exact any_of HT_.out (by kernel_rfl))
    (hQ:∀ c a w,Q (.panic c) (a.put oi.dst v) w→Q (.panic c) a w:=by exact fun _ _ _ h=>h) (hy:Yields P ops oi v a:=by exact Or.inl ⟨by rfl,by intro w';go_simp;with_reducible rfl⟩)
    (ha:a.put (some n) v=a':=by simp only [Act.put,List.setIfInBounds_toArray,List.set_cons_zero,List.set_cons_succ,i64_w,i32_w];rfl):wpAnyLast P md ops Q S ds (fuel+1) l a w:=pure_ _ hi hN hc hQ hy ha h
theorem po_ {P:Program} {md:Region.Mode} {ops:Array Oper} {Q:Exit→Act→World→Prop} {S:World→Prop} {ds:List Nat} (i:Nat) (n:Tmp) {oi:Oper} {fuel:Nat} {l:Array Bool} {a:Act} {w:World} {a':Act}
    (h:wpAnyLast P md ops Q S ds fuel (l.setIfInBounds i true) a' w) (hi:ops[i]?=some oi:=by exact rfl) (hN:oi.dst=some n:=by exact rfl) (hc:anyB md ops l (l.setIfInBounds i true) i=true:=by exact any_of HT_.out (by kernel_rfl))
    (hQ:∀ c a w,Q (.panic c) (a.put oi.dst undef) w→Q (.panic c) a w:=by exact fun _ _ _ h=>h) (hy:Yields P ops oi undef a:=by exact Or.inr ⟨by rfl,rfl⟩)
    (ha:a.put (some n) undef=a':=by simp only [Act.put,List.setIfInBounds_toArray,List.set_cons_zero,List.set_cons_succ,i64_w,i32_w];rfl):wpAnyLast P md ops Q S ds (fuel+1) l a w:=pure_ _ hi hN hc hQ hy ha h
theorem on_ {P:Program} {md:Region.Mode} {ops:Array Oper} {Q:Exit→Act→World→Prop} {S:World→Prop} {ds:List Nat} (i:Nat) (n:Tmp) {oi:Oper} {fuel:Nat} {l:Array Bool} {a:Act} {w:World}
    (h:∀ K:Act→World→Prop,Shut (∀ a' w',S w'→(S w'→wpAnyLast P md ops Q S ds fuel (l.setIfInBounds i true) a' w')→K a' w')→if Region.wanted oi (yielded ops a.tmps)=true then Oper.wp P oi a w K Q else K (a.put (some n) undef) w)
    (hi:ops[i]?=some oi:=by exact rfl) (hN:oi.dst=some n:=by exact rfl) (hc:readyB md ops l (l.setIfInBounds i true) i=true:=by exact one_of HT_.out (by kernel_rfl)) (hd:i∉ds:=by decide):wpAnyLast P md ops Q S ds (fuel+1) l a w:=one_ _ hi hN hc hd h
theorem no_ (n:Tmp) {P:Program} {md:Region.Mode} {ops:Array Oper} {Q:Exit→Act→World→Prop} {S:World→Prop} {ds:List Nat} {fuel:Nat} {l:Array Bool} {a a':Act} {v:Value} {w:World} (h:wpAnyLast P md ops Q S ds fuel l a' w)
    (ha:a.put (some n) v=a':=by simp only [Act.put,List.setIfInBounds_toArray,List.set_cons_zero,List.set_cons_succ,i64_w,i32_w];rfl):wpAnyLast P md ops Q S ds fuel l (a.put (some n) v) w:=norm_ ha h
theorem ta3_ {P:Program} {md:Region.Mode} {ops:Array Oper} {Q:Exit→Act→World→Prop} {S:World→Prop} {ds:List Nat} (i:Nat) (n:Tmp) {oi:Oper} {v:Value} {fuel:Nat} {l:Array Bool} {a:Act} {w:World} {a':Act} (hS:S w)
    (h:wpAnyLast P md ops Q S ds fuel (l.setIfInBounds i true) a' w) (hi:ops[i]?=some oi:=by exact rfl) (hN:oi.dst=some n:=by exact rfl) (hc:takeB md ops ds l (l.setIfInBounds i true) i=true:=by exact take_ofW HT_.out HW_.out (by kernel_rfl))
    (hQ:∀ c a w,Q (.panic c) (a.put oi.dst v) w→Q (.panic c) a w:=by exact fun _ _ _ h=>h) (hy:YieldsIf P ops S oi v a:=by exact Or.inl ⟨by rfl,by rintro w' ⟨s0,s1,s2⟩;go_simp;with_reducible rfl⟩)
    (ha:a.put (some n) v=a':=by simp only [Act.put,List.setIfInBounds_toArray,List.set_cons_zero,List.set_cons_succ,i64_w,i32_w];rfl):wpAnyLast P md ops Q S ds (fuel+1) l a w:=take_ _ hi hN hc hQ hy hS ha h
theorem ta6_ {P:Program} {md:Region.Mode} {ops:Array Oper} {Q:Exit→Act→World→Prop} {S:World→Prop} {ds:List Nat} (i:Nat) (n:Tmp) {oi:Oper} {v:Value} {fuel:Nat} {l:Array Bool} {a:Act} {w:World} {a':Act} (hS:S w)
    (h:wpAnyLast P md ops Q S ds fuel (l.setIfInBounds i true) a' w) (hi:ops[i]?=some oi:=by exact rfl) (hN:oi.dst=some n:=by exact rfl) (hc:takeB md ops ds l (l.setIfInBounds i true) i=true:=by exact take_ofW HT_.out HW_.out (by kernel_rfl))
    (hQ:∀ c a w,Q (.panic c) (a.put oi.dst v) w→Q (.panic c) a w:=by exact fun _ _ _ h=>h) (hy:YieldsIf P ops S oi v a:=by exact Or.inl ⟨by rfl,by rintro w' ⟨s0,s1,s2,s3,s4,s5⟩;go_simp;with_reducible rfl⟩)
    (ha:a.put (some n) v=a':=by simp only [Act.put,List.setIfInBounds_toArray,List.set_cons_zero,List.set_cons_succ,i64_w,i32_w];rfl):wpAnyLast P md ops Q S ds (fuel+1) l a w:=take_ _ hi hN hc hQ hy hS ha h
theorem ta7_ {P:Program} {md:Region.Mode} {ops:Array Oper} {Q:Exit→Act→World→Prop} {S:World→Prop} {ds:List Nat} (i:Nat) (n:Tmp) {oi:Oper} {v:Value} {fuel:Nat} {l:Array Bool} {a:Act} {w:World} {a':Act} (hS:S w)
    (h:wpAnyLast P md ops Q S ds fuel (l.setIfInBounds i true) a' w) (hi:ops[i]?=some oi:=by exact rfl) (hN:oi.dst=some n:=by exact rfl) (hc:takeB md ops ds l (l.setIfInBounds i true) i=true:=by exact take_ofW HT_.out HW_.out (by kernel_rfl))
    (hQ:∀ c a w,Q (.panic c) (a.put oi.dst v) w→Q (.panic c) a w:=by exact fun _ _ _ h=>h) (hy:YieldsIf P ops S oi v a:=by exact Or.inl ⟨by rfl,by rintro w' ⟨s0,s1,s2,s3,s4,s5,s6⟩;go_simp;with_reducible rfl⟩)
    (ha:a.put (some n) v=a':=by simp only [Act.put,List.setIfInBounds_toArray,List.set_cons_zero,List.set_cons_succ,i64_w,i32_w];rfl):wpAnyLast P md ops Q S ds (fuel+1) l a w:=take_ _ hi hN hc hQ hy hS ha h
theorem ta9_ {P:Program} {md:Region.Mode} {ops:Array Oper} {Q:Exit→Act→World→Prop} {S:World→Prop} {ds:List Nat} (i:Nat) (n:Tmp) {oi:Oper} {v:Value} {fuel:Nat} {l:Array Bool} {a:Act} {w:World} {a':Act} (hS:S w)
    (h:wpAnyLast P md ops Q S ds fuel (l.setIfInBounds i true) a' w) (hi:ops[i]?=some oi:=by exact rfl) (hN:oi.dst=some n:=by exact rfl) (hc:takeB md ops ds l (l.setIfInBounds i true) i=true:=by exact take_ofW HT_.out HW_.out (by kernel_rfl))
    (hQ:∀ c a w,Q (.panic c) (a.put oi.dst v) w→Q (.panic c) a w:=by exact fun _ _ _ h=>h) (hy:YieldsIf P ops S oi v a:=by exact Or.inl ⟨by rfl,by rintro w' ⟨s0,s1,s2,s3,s4,s5,s6,s7,s8⟩;go_simp;with_reducible rfl⟩)
    (ha:a.put (some n) v=a':=by simp only [Act.put,List.setIfInBounds_toArray,List.set_cons_zero,List.set_cons_succ,i64_w,i32_w];rfl):wpAnyLast P md ops Q S ds (fuel+1) l a w:=take_ _ hi hN hc hQ hy hS ha h
theorem ta11_ {P:Program} {md:Region.Mode} {ops:Array Oper} {Q:Exit→Act→World→Prop} {S:World→Prop} {ds:List Nat} (i:Nat) (n:Tmp) {oi:Oper} {v:Value} {fuel:Nat} {l:Array Bool} {a:Act} {w:World} {a':Act} (hS:S w)
    (h:wpAnyLast P md ops Q S ds fuel (l.setIfInBounds i true) a' w) (hi:ops[i]?=some oi:=by exact rfl) (hN:oi.dst=some n:=by exact rfl) (hc:takeB md ops ds l (l.setIfInBounds i true) i=true:=by exact take_ofW HT_.out HW_.out (by kernel_rfl))
    (hQ:∀ c a w,Q (.panic c) (a.put oi.dst v) w→Q (.panic c) a w:=by exact fun _ _ _ h=>h) (hy:YieldsIf P ops S oi v a:=by exact Or.inl ⟨by rfl,by rintro w' ⟨s0,s1,s2,s3,s4,s5,s6,s7,s8,s9,s10⟩;go_simp;with_reducible rfl⟩)
    (ha:a.put (some n) v=a':=by simp only [Act.put,List.setIfInBounds_toArray,List.set_cons_zero,List.set_cons_succ,i64_w,i32_w];rfl):wpAnyLast P md ops Q S ds (fuel+1) l a w:=take_ _ hi hN hc hQ hy hS ha h
theorem ta12_ {P:Program} {md:Region.Mode} {ops:Array Oper} {Q:Exit→Act→World→Prop} {S:World→Prop} {ds:List Nat} (i:Nat) (n:Tmp) {oi:Oper} {v:Value} {fuel:Nat} {l:Array Bool} {a:Act} {w:World} {a':Act} (hS:S w)
    (h:wpAnyLast P md ops Q S ds fuel (l.setIfInBounds i true) a' w) (hi:ops[i]?=some oi:=by exact rfl) (hN:oi.dst=some n:=by exact rfl) (hc:takeB md ops ds l (l.setIfInBounds i true) i=true:=by exact take_ofW HT_.out HW_.out (by kernel_rfl))
    (hQ:∀ c a w,Q (.panic c) (a.put oi.dst v) w→Q (.panic c) a w:=by exact fun _ _ _ h=>h) (hy:YieldsIf P ops S oi v a:=by exact Or.inl ⟨by rfl,by rintro w' ⟨s0,s1,s2,s3,s4,s5,s6,s7,s8,s9,s10,s11⟩;go_simp;with_reducible rfl⟩)
    (ha:a.put (some n) v=a':=by simp only [Act.put,List.setIfInBounds_toArray,List.set_cons_zero,List.set_cons_succ,i64_w,i32_w];rfl):wpAnyLast P md ops Q S ds (fuel+1) l a w:=take_ _ hi hN hc hQ hy hS ha h
theorem ta13_ {P:Program} {md:Region.Mode} {ops:Array Oper} {Q:Exit→Act→World→Prop} {S:World→Prop} {ds:List Nat} (i:Nat) (n:Tmp) {oi:Oper} {v:Value} {fuel:Nat} {l:Array Bool} {a:Act} {w:World} {a':Act} (hS:S w)
    (h:wpAnyLast P md ops Q S ds fuel (l.setIfInBounds i true) a' w) (hi:ops[i]?=some oi:=by exact rfl) (hN:oi.dst=some n:=by exact rfl) (hc:takeB md ops ds l (l.setIfInBounds i true) i=true:=by exact take_ofW HT_.out HW_.out (by kernel_rfl))
    (hQ:∀ c a w,Q (.panic c) (a.put oi.dst v) w→Q (.panic c) a w:=by exact fun _ _ _ h=>h) (hy:YieldsIf P ops S oi v a:=by exact Or.inl ⟨by rfl,by rintro w' ⟨s0,s1,s2,s3,s4,s5,s6,s7,s8,s9,s10,s11,s12⟩;go_simp;with_reducible rfl⟩)
    (ha:a.put (some n) v=a':=by simp only [Act.put,List.setIfInBounds_toArray,List.set_cons_zero,List.set_cons_succ,i64_w,i32_w];rfl):wpAnyLast P md ops Q S ds (fuel+1) l a w:=take_ _ hi hN hc hQ hy hS ha h
theorem ta14_ {P:Program} {md:Region.Mode} {ops:Array Oper} {Q:Exit→Act→World→Prop} {S:World→Prop} {ds:List Nat} (i:Nat) (n:Tmp) {oi:Oper} {v:Value} {fuel:Nat} {l:Array Bool} {a:Act} {w:World} {a':Act} (hS:S w)
    (h:wpAnyLast P md ops Q S ds fuel (l.setIfInBounds i true) a' w) (hi:ops[i]?=some oi:=by exact rfl) (hN:oi.dst=some n:=by exact rfl) (hc:takeB md ops ds l (l.setIfInBounds i true) i=true:=by exact take_ofW HT_.out HW_.out (by kernel_rfl))
    (hQ:∀ c a w,Q (.panic c) (a.put oi.dst v) w→Q (.panic c) a w:=by exact fun _ _ _ h=>h) (hy:YieldsIf P ops S oi v a:=by exact Or.inl ⟨by rfl,by rintro w' ⟨s0,s1,s2,s3,s4,s5,s6,s7,s8,s9,s10,s11,s12,s13⟩;go_simp;with_reducible rfl⟩)
    (ha:a.put (some n) v=a':=by simp only [Act.put,List.setIfInBounds_toArray,List.set_cons_zero,List.set_cons_succ,i64_w,i32_w];rfl):wpAnyLast P md ops Q S ds (fuel+1) l a w:=take_ _ hi hN hc hQ hy hS ha h
theorem ta18_ {P:Program} {md:Region.Mode} {ops:Array Oper} {Q:Exit→Act→World→Prop} {S:World→Prop} {ds:List Nat} (i:Nat) (n:Tmp) {oi:Oper} {v:Value} {fuel:Nat} {l:Array Bool} {a:Act} {w:World} {a':Act} (hS:S w)
    (h:wpAnyLast P md ops Q S ds fuel (l.setIfInBounds i true) a' w) (hi:ops[i]?=some oi:=by exact rfl) (hN:oi.dst=some n:=by exact rfl) (hc:takeB md ops ds l (l.setIfInBounds i true) i=true:=by exact take_ofW HT_.out HW_.out (by kernel_rfl))
    (hQ:∀ c a w,Q (.panic c) (a.put oi.dst v) w→Q (.panic c) a w:=by exact fun _ _ _ h=>h) (hy:YieldsIf P ops S oi v a:=by exact Or.inl ⟨by rfl,by rintro w' ⟨s0,s1,s2,s3,s4,s5,s6,s7,s8,s9,s10,s11,s12,s13,s14,s15,s16,s17⟩;go_simp;with_reducible rfl⟩)
    (ha:a.put (some n) v=a':=by simp only [Act.put,List.setIfInBounds_toArray,List.set_cons_zero,List.set_cons_succ,i64_w,i32_w];rfl):wpAnyLast P md ops Q S ds (fuel+1) l a w:=take_ _ hi hN hc hQ hy hS ha h
theorem op3_ {W:World} {g:Nat} {t:TypeId} {v0 v1 v2:Value} (h:W.heap[g]?=some (.cells #[v0,v1,v2] t (0,0))):W.cell? ⟨g,0,none⟩=some v0∧W.cell? ⟨g,1,none⟩=some v1∧W.cell? ⟨g,2,none⟩=some v2∧W.frozen? ⟨g,0,none⟩=false∧W.frozen? ⟨g,1,none⟩=false∧W.frozen? ⟨g,2,none⟩=false:=⟨(bC_ h 0).trans rfl,(bC_ h 1).trans rfl,(bC_ h 2).trans rfl,bF_ h 0,bF_ h 1,bF_ h 2⟩
theorem op5_ {W:World} {g:Nat} {t:TypeId} {v0 v1 v2 v3 v4:Value} (h:W.heap[g]?=some (.cells #[v0,v1,v2,v3,v4] t (0,0))):W.cell? ⟨g,0,none⟩=some v0∧W.cell? ⟨g,1,none⟩=some v1∧W.cell? ⟨g,2,none⟩=some v2∧W.cell? ⟨g,3,none⟩=some v3∧W.cell? ⟨g,4,none⟩=some v4∧W.frozen? ⟨g,0,none⟩=false∧W.frozen? ⟨g,1,none⟩=false∧W.frozen? ⟨g,2,none⟩=false∧W.frozen? ⟨g,3,none⟩=false∧W.frozen? ⟨g,4,none⟩=false:=⟨(bC_ h 0).trans rfl,(bC_ h 1).trans rfl,(bC_ h 2).trans rfl,(bC_ h 3).trans rfl,(bC_ h 4).trans rfl,bF_ h 0,bF_ h 1,bF_ h 2,bF_ h 3,bF_ h 4⟩
theorem op6_ {W:World} {g:Nat} {t:TypeId} {v0 v1 v2 v3 v4 v5:Value} (h:W.heap[g]?=some (.cells #[v0,v1,v2,v3,v4,v5] t (0,0))):W.cell? ⟨g,0,none⟩=some v0∧W.cell? ⟨g,1,none⟩=some v1∧W.cell? ⟨g,2,none⟩=some v2∧W.cell? ⟨g,3,none⟩=some v3∧W.cell? ⟨g,4,none⟩=some v4∧W.cell? ⟨g,5,none⟩=some v5∧W.frozen? ⟨g,0,none⟩=false∧W.frozen? ⟨g,1,none⟩=false∧W.frozen? ⟨g,2,none⟩=false∧W.frozen? ⟨g,3,none⟩=false∧W.frozen? ⟨g,4,none⟩=false∧W.frozen? ⟨g,5,none⟩=false:=⟨(bC_ h 0).trans rfl,(bC_ h 1).trans rfl,(bC_ h 2).trans rfl,(bC_ h 3).trans rfl,(bC_ h 4).trans rfl,(bC_ h 5).trans rfl,bF_ h 0,bF_ h 1,bF_ h 2,bF_ h 3,bF_ h 4,bF_ h 5⟩
theorem op7_ {W:World} {g:Nat} {t:TypeId} {v0 v1 v2 v3 v4 v5 v6:Value} (h:W.heap[g]?=some (.cells #[v0,v1,v2,v3,v4,v5,v6] t (0,0))):W.cell? ⟨g,0,none⟩=some v0∧W.cell? ⟨g,1,none⟩=some v1∧W.cell? ⟨g,2,none⟩=some v2∧W.cell? ⟨g,3,none⟩=some v3∧W.cell? ⟨g,4,none⟩=some v4∧W.cell? ⟨g,5,none⟩=some v5∧W.cell? ⟨g,6,none⟩=some v6∧W.frozen? ⟨g,0,none⟩=false∧W.frozen? ⟨g,1,none⟩=false∧W.frozen? ⟨g,2,none⟩=false∧W.frozen? ⟨g,3,none⟩=false∧W.frozen? ⟨g,4,none⟩=false∧W.frozen? ⟨g,5,none⟩=false∧W.frozen? ⟨g,6,none⟩=false:=⟨(bC_ h 0).trans rfl,(bC_ h 1).trans rfl,(bC_ h 2).trans rfl,(bC_ h 3).trans rfl,(bC_ h 4).trans rfl,(bC_ h 5).trans rfl,(bC_ h 6).trans rfl,bF_ h 0,bF_ h 1,bF_ h 2,bF_ h 3,bF_ h 4,bF_ h 5,bF_ h 6⟩
theorem bk2_ {W:World} {g:Nat} {t:TypeId} {a0 a1 b0 b1:Value} (h:W.heap[g]?=some (.cells #[b0,b1] t (0,0))):((W.setCell ⟨g,0,none⟩ a0).setCell ⟨g,1,none⟩ a1).heap[g]?=some (.cells #[a0,a1] t (0,0)):=blk_put (cs:=#[a0,b1]) (blk_put (cs:=#[b0,b1]) h 0 _ rfl) 1 _ rfl
theorem bk6_ {W:World} {g:Nat} {t:TypeId} {a0 a1 a2 a3 a4 a5 b0 b1 b2 b3 b4 b5:Value} (h:W.heap[g]?=some (.cells #[b0,b1,b2,b3,b4,b5] t (0,0))):((((((W.setCell ⟨g,0,none⟩ a0).setCell ⟨g,1,none⟩ a1).setCell ⟨g,2,none⟩ a2).setCell ⟨g,3,none⟩ a3).setCell ⟨g,4,none⟩ a4).setCell ⟨g,5,none⟩ a5).heap[g]?=some (.cells #[a0,a1,a2,a3,a4,a5] t (0,0)):=blk_put (cs:=#[a0,a1,a2,a3,a4,b5]) (blk_put (cs:=#[a0,a1,a2,a3,b4,b5]) (blk_put (cs:=#[a0,a1,a2,b3,b4,b5]) (blk_put (cs:=#[a0,a1,b2,b3,b4,b5]) (blk_put (cs:=#[a0,b1,b2,b3,b4,b5]) (blk_put (cs:=#[b0,b1,b2,b3,b4,b5]) h 0 _ rfl) 1 _ rfl) 2 _ rfl) 3 _ rfl) 4 _ rfl) 5 _ rfl
theorem bk7_ {W:World} {g:Nat} {t:TypeId} {a0 a1 a2 a3 a4 a5 a6 b0 b1 b2 b3 b4 b5 b6:Value} (h:W.heap[g]?=some (.cells #[b0,b1,b2,b3,b4,b5,b6] t (0,0))):(((((((W.setCell ⟨g,0,none⟩ a0).setCell ⟨g,1,none⟩ a1).setCell ⟨g,2,none⟩ a2).setCell ⟨g,3,none⟩ a3).setCell ⟨g,4,none⟩ a4).setCell ⟨g,5,none⟩ a5).setCell ⟨g,6,none⟩ a6).heap[g]?=some (.cells #[a0,a1,a2,a3,a4,a5,a6] t (0,0)):=blk_put (cs:=#[a0,a1,a2,a3,a4,a5,b6]) (blk_put (cs:=#[a0,a1,a2,a3,a4,b5,b6]) (blk_put (cs:=#[a0,a1,a2,a3,b4,b5,b6]) (blk_put (cs:=#[a0,a1,a2,b3,b4,b5,b6]) (blk_put (cs:=#[a0,a1,b2,b3,b4,b5,b6]) (blk_put (cs:=#[a0,b1,b2,b3,b4,b5,b6]) (blk_put (cs:=#[b0,b1,b2,b3,b4,b5,b6]) h 0 _ rfl) 1 _ rfl) 2 _ rfl) 3 _ rfl) 4 _ rfl) 5 _ rfl) 6 _ rfl
theorem bk3_ {W:World} {g:Nat} {t:TypeId} {a0 a1 a2 b0 b1 b2:Value} (h:W.heap[g]?=some (.cells #[b0,b1,b2] t (0,0))):(((W.setCell ⟨g,0,none⟩ a0).setCell ⟨g,1,none⟩ a1).setCell ⟨g,2,none⟩ a2).heap[g]?=some (.cells #[a0,a1,a2] t (0,0)):=blk_put (cs:=#[a0,a1,b2]) (blk_put (cs:=#[a0,b1,b2]) (blk_put (cs:=#[b0,b1,b2]) h 0 _ rfl) 1 _ rfl) 2 _ rfl
theorem bk5_ {W:World} {g:Nat} {t:TypeId} {a0 a1 a2 a3 a4 b0 b1 b2 b3 b4:Value} (h:W.heap[g]?=some (.cells #[b0,b1,b2,b3,b4] t (0,0))):(((((W.setCell ⟨g,0,none⟩ a0).setCell ⟨g,1,none⟩ a1).setCell ⟨g,2,none⟩ a2).setCell ⟨g,3,none⟩ a3).setCell ⟨g,4,none⟩ a4).heap[g]?=some (.cells #[a0,a1,a2,a3,a4] t (0,0)):=blk_put (cs:=#[a0,a1,a2,a3,b4]) (blk_put (cs:=#[a0,a1,a2,b3,b4]) (blk_put (cs:=#[a0,a1,b2,b3,b4]) (blk_put (cs:=#[a0,b1,b2,b3,b4]) (blk_put (cs:=#[b0,b1,b2,b3,b4]) h 0 _ rfl) 1 _ rfl) 2 _ rfl) 3 _ rfl) 4 _ rfl
theorem fp1_ {p q m0:Prop} (a0:m0) (h:p) (f:p→m0→q:=by intro h_ n0_;(with_reducible repeat (first|refine bN_ ?_ _|refine bD_ ?_|refine bA_ ?_ _|refine blk_far ?_ n0_ _));exact h_):q:=f h a0
theorem k3p1_ {p q m0:Prop} (a0:m0) (h:p) (f:p→m0→q:=by intro h_ n0_;(with_reducible repeat (first|refine bN_ ?_ _|refine bD_ ?_|refine bA_ ?_ _|refine blk_far ?_ n0_ _));apply bk3_;(with_reducible repeat (first|refine bN_ ?_ _|refine bD_ ?_|refine bA_ ?_ _|refine blk_far ?_ n0_ _));exact h_):q:=f h a0
theorem k5p1_ {p q m0:Prop} (a0:m0) (h:p) (f:p→m0→q:=by intro h_ n0_;(with_reducible repeat (first|refine bN_ ?_ _|refine bD_ ?_|refine bA_ ?_ _|refine blk_far ?_ n0_ _));apply bk5_;(with_reducible repeat (first|refine bN_ ?_ _|refine bD_ ?_|refine bA_ ?_ _|refine blk_far ?_ n0_ _));exact h_):q:=f h a0
theorem k6p_ {p q:Prop} (h:p) (f:p→q:=by intro h_;(with_reducible repeat (first|refine bN_ ?_ _|refine bD_ ?_|refine bA_ ?_ _));apply bk6_;(with_reducible repeat (first|refine bN_ ?_ _|refine bD_ ?_|refine bA_ ?_ _));exact h_):q:=f h
theorem k6p1_ {p q m0:Prop} (a0:m0) (h:p) (f:p→m0→q:=by intro h_ n0_;(with_reducible repeat (first|refine bN_ ?_ _|refine bD_ ?_|refine bA_ ?_ _|refine blk_far ?_ n0_ _));apply bk6_;(with_reducible repeat (first|refine bN_ ?_ _|refine bD_ ?_|refine bA_ ?_ _|refine blk_far ?_ n0_ _));exact h_):q:=f h a0
theorem k7p_ {p q:Prop} (h:p) (f:p→q:=by intro h_;(with_reducible repeat (first|refine bN_ ?_ _|refine bD_ ?_|refine bA_ ?_ _));apply bk7_;(with_reducible repeat (first|refine bN_ ?_ _|refine bD_ ?_|refine bA_ ?_ _));exact h_):q:=f h
theorem k7p1_ {p q m0:Prop} (a0:m0) (h:p) (f:p→m0→q:=by intro h_ n0_;(with_reducible repeat (first|refine bN_ ?_ _|refine bD_ ?_|refine bA_ ?_ _|refine blk_far ?_ n0_ _));apply bk7_;(with_reducible repeat (first|refine bN_ ?_ _|refine bD_ ?_|refine bA_ ?_ _|refine blk_far ?_ n0_ _));exact h_):q:=f h a0
theorem rf6_ {α:Type} {d:Kd α} {e:Nat} {w:World} {base:Nat} {ok:Nat → Prop} {v:Value} {xs:List α} {g:Nat} (h:d.R e w base ok v xs) (hok:∀ k,ok k → k≠g) (u0 u1 u2 u3 u4 u5:Value):d.R e ((((((w.setCell ⟨g,0,none⟩ u0).setCell ⟨g,1,none⟩ u1).setCell ⟨g,2,none⟩ u2).setCell ⟨g,3,none⟩ u3).setCell ⟨g,4,none⟩ u4).setCell ⟨g,5,none⟩ u5) base ok v xs:=Kd.R_far (p:=⟨g,5,none⟩) (Kd.R_far (p:=⟨g,4,none⟩) (Kd.R_far (p:=⟨g,3,none⟩) (Kd.R_far (p:=⟨g,2,none⟩) (Kd.R_far (p:=⟨g,1,none⟩) (Kd.R_far (p:=⟨g,0,none⟩) h hok u0) hok u1) hok u2) hok u3) hok u4) hok u5
theorem rf7_ {α:Type} {d:Kd α} {e:Nat} {w:World} {base:Nat} {ok:Nat → Prop} {v:Value} {xs:List α} {g:Nat} (h:d.R e w base ok v xs) (hok:∀ k,ok k → k≠g) (u0 u1 u2 u3 u4 u5 u6:Value):d.R e (((((((w.setCell ⟨g,0,none⟩ u0).setCell ⟨g,1,none⟩ u1).setCell ⟨g,2,none⟩ u2).setCell ⟨g,3,none⟩ u3).setCell ⟨g,4,none⟩ u4).setCell ⟨g,5,none⟩ u5).setCell ⟨g,6,none⟩ u6) base ok v xs:=Kd.R_far (p:=⟨g,6,none⟩) (Kd.R_far (p:=⟨g,5,none⟩) (Kd.R_far (p:=⟨g,4,none⟩) (Kd.R_far (p:=⟨g,3,none⟩) (Kd.R_far (p:=⟨g,2,none⟩) (Kd.R_far (p:=⟨g,1,none⟩) (Kd.R_far (p:=⟨g,0,none⟩) h hok u0) hok u1) hok u2) hok u3) hok u4) hok u5) hok u6
theorem cf6_ {w:World} {a:Addr} {v:Option Value} {g:Nat} {i0 i1 i2 i3 i4 i5:Nat} {u0 u1 u2 u3 u4 u5:Value} (n:a.block≠g) (h:w.cell? a=v):((((((w.setCell ⟨g,i0,none⟩ u0).setCell ⟨g,i1,none⟩ u1).setCell ⟨g,i2,none⟩ u2).setCell ⟨g,i3,none⟩ u3).setCell ⟨g,i4,none⟩ u4).setCell ⟨g,i5,none⟩ u5).cell? a=v:=(cF_ (p:=⟨g,i5,none⟩) n u5).trans ((cF_ (p:=⟨g,i4,none⟩) n u4).trans ((cF_ (p:=⟨g,i3,none⟩) n u3).trans ((cF_ (p:=⟨g,i2,none⟩) n u2).trans ((cF_ (p:=⟨g,i1,none⟩) n u1).trans ((cF_ (p:=⟨g,i0,none⟩) n u0).trans h)))))
end Go.Proofs.YtdpklbomhdpimaaDoor.P
namespace Go.Proofs.YtdpklbomhdpimaaDoor.P
open Go.RowKit Go.Proofs.YtdpklbomhdpimaaDoorW.PrintWords Go.Proofs.YtdpklbomhdpimaaDoorW.PrintLast
def errW:Option Int→Value
 | none=>.nilIface
 | some c=>.iface 0 (.int .i64 c)
theorem errW_none:errW none=.nilIface:=rfl
theorem errW_some (c:Int):errW (some c)=.iface 0 (.int .i64 c):=rfl

theorem info44:(Tryd.prog.info? 44).map (fun i=>(i.zero,i.size,i.bytes))=some (some (.agg #[(.int .i64 0),(.int .i64 0),(.int .i64 0),(.int .i64 0),(.int .i64 0),(.int .i64 0),(.string ⟨#[]⟩)]),7,64):=by kernel_rfl
theorem info69:(Tryd.prog.info? 69).map (fun i=>(i.zero,i.size,i.bytes))=some (some (.agg #[(.int .i64 0),(.int .i64 0),(.string ⟨#[]⟩)]),3,32):=by kernel_rfl
structure S42 where
 f0:Int
 f1:Int
 f2:Int
 f3:Int
 f4:ByteArray
def z42:S42:=⟨(0:Int),(0:Int),(0:Int),(0:Int),(⟨#[]⟩:ByteArray)⟩
def k42:Kd S42:=Kd.iso (Kd.pair (Kd.int .i64) (Kd.pair (Kd.int .i64) (Kd.pair (Kd.int .i64) (Kd.pair (Kd.int .i64) Kd.string)))) (fun x:S42=>(x.f0,x.f1,x.f2,x.f3,x.f4))
theorem k42_open {w:World} {x:S42} {cs:List Value} (h:k42.K w x cs):cs=[.int .i64 x.f0,.int .i64 x.f1,.int .i64 x.f2,.int .i64 x.f3,.string x.f4]:=by
 obtain ⟨_,_,rfl,rfl,⟨_,_,rfl,rfl,⟨_,_,rfl,rfl,⟨_,_,rfl,rfl,rfl⟩⟩⟩⟩:=h
 exact rfl
theorem k42_openM {w:World} {base:Nat} {ok:Nat→Prop} {x:S42} {cs:List Value} (h:k42.M w base ok x cs):cs=[.int .i64 x.f0,.int .i64 x.f1,.int .i64 x.f2,.int .i64 x.f3,.string x.f4]:=by
 obtain ⟨_,_,rfl,rfl,⟨_,_,rfl,rfl,⟨_,_,rfl,rfl,⟨_,_,rfl,rfl,rfl⟩⟩⟩⟩:=h
 exact rfl
theorem k42_mkM (w:World) (base:Nat) (ok:Nat→Prop) (x:S42)  : k42.M w base ok x [.int .i64 x.f0,.int .i64 x.f1,.int .i64 x.f2,.int .i64 x.f3,.string x.f4]:=⟨[.int .i64 x.f0],[.int .i64 x.f1,.int .i64 x.f2,.int .i64 x.f3,.string x.f4],rfl,rfl,⟨[.int .i64 x.f1],[.int .i64 x.f2,.int .i64 x.f3,.string x.f4],rfl,rfl,⟨[.int .i64 x.f2],[.int .i64 x.f3,.string x.f4],rfl,rfl,⟨[.int .i64 x.f3],[.string x.f4],rfl,rfl,rfl⟩⟩⟩⟩
structure S44 where
 f0:Int
 f1:Int
 f2:S42
def z44:S44:=⟨(0:Int),(0:Int),z42⟩
def k44:Kd S44:=Kd.iso (Kd.pair (Kd.int .i64) (Kd.pair (Kd.int .i64) k42)) (fun x:S44=>(x.f0,x.f1,x.f2))
theorem k44_open {w:World} {x:S44} {cs:List Value} (h:k44.K w x cs):cs=[.int .i64 x.f0,.int .i64 x.f1,.int .i64 x.f2.f0,.int .i64 x.f2.f1,.int .i64 x.f2.f2,.int .i64 x.f2.f3,.string x.f2.f4]:=by
 obtain ⟨_,_,rfl,rfl,⟨_,_,rfl,rfl,s2⟩⟩:=h
 obtain rfl:=k42_open s2
 exact rfl
theorem k44_openM {w:World} {base:Nat} {ok:Nat→Prop} {x:S44} {cs:List Value} (h:k44.M w base ok x cs):cs=[.int .i64 x.f0,.int .i64 x.f1,.int .i64 x.f2.f0,.int .i64 x.f2.f1,.int .i64 x.f2.f2,.int .i64 x.f2.f3,.string x.f2.f4]:=by
 obtain ⟨_,_,rfl,rfl,⟨_,_,rfl,rfl,s2⟩⟩:=h
 obtain rfl:=k42_openM s2
 exact rfl
theorem k44_mkM (w:World) (base:Nat) (ok:Nat→Prop) (x:S44)  : k44.M w base ok x [.int .i64 x.f0,.int .i64 x.f1,.int .i64 x.f2.f0,.int .i64 x.f2.f1,.int .i64 x.f2.f2,.int .i64 x.f2.f3,.string x.f2.f4]:=⟨[.int .i64 x.f0],[.int .i64 x.f1,.int .i64 x.f2.f0,.int .i64 x.f2.f1,.int .i64 x.f2.f2,.int .i64 x.f2.f3,.string x.f2.f4],rfl,rfl,⟨[.int .i64 x.f1],[.int .i64 x.f2.f0,.int .i64 x.f2.f1,.int .i64 x.f2.f2,.int .i64 x.f2.f3,.string x.f2.f4],rfl,rfl,(k42_mkM w base ok x.f2 )⟩⟩
def rd_T44 (xs:List S44) (i:Int):S44:=xs.getD i.toNat z44
theorem at_T44 {w:World} {A:Option Addr} {n:Nat} {xs:List S44} (h:Kd.C k44 w A n xs) (i:Int) (h0:0≤i) (h1:i < n):∃ ad ,A=some ad∧w.cell? (ad.add (i.toNat * 7))=some (.int .i64 (rd_T44 xs i).f0)∧w.cell? ⟨(ad.add (i.toNat * 7)).block,(ad.add (i.toNat * 7)).off+1,none⟩=some (.int .i64 (rd_T44 xs i).f1)∧w.cell? ⟨(ad.add (i.toNat * 7)).block,(ad.add (i.toNat * 7)).off+2,none⟩=some (.int .i64 (rd_T44 xs i).f2.f0)∧w.cell? ⟨(ad.add (i.toNat * 7)).block,(ad.add (i.toNat * 7)).off+3,none⟩=some (.int .i64 (rd_T44 xs i).f2.f1)∧w.cell? ⟨(ad.add (i.toNat * 7)).block,(ad.add (i.toNat * 7)).off+4,none⟩=some (.int .i64 (rd_T44 xs i).f2.f2)∧w.cell? ⟨(ad.add (i.toNat * 7)).block,(ad.add (i.toNat * 7)).off+5,none⟩=some (.int .i64 (rd_T44 xs i).f2.f3)∧w.cell? ⟨(ad.add (i.toNat * 7)).block,(ad.add (i.toNat * 7)).off+6,none⟩=some (.string (rd_T44 xs i).f2.f4):=by
 obtain ⟨ad,c,e,_,hK,hc0⟩:=Kd.C_get h z44 i h0 h1
 have hc:∀ j u,c[j]?=some u→w.cell? (ad.add (i.toNat * 7+j))=some u:=hc0
 obtain rfl:=k44_open hK
 exact ⟨ad,e,hc 0 _ rfl,by rw [←add_field _ _ 1 (by omega)];exact hc 1 _ rfl,by rw [←add_field _ _ 2 (by omega)];exact hc 2 _ rfl,by rw [←add_field _ _ 3 (by omega)];exact hc 3 _ rfl,by rw [←add_field _ _ 4 (by omega)];exact hc 4 _ rfl,by rw [←add_field _ _ 5 (by omega)];exact hc 5 _ rfl,by rw [←add_field _ _ 6 (by omega)];exact hc 6 _ rfl⟩

structure S69 where
 f0:Int
 f1:Int
 f2:ByteArray
def z69:S69:=⟨(0:Int),(0:Int),(⟨#[]⟩:ByteArray)⟩
def k69:Kd S69:=Kd.iso (Kd.pair (Kd.int .i64) (Kd.pair (Kd.int .i64) Kd.string)) (fun x:S69=>(x.f0,x.f1,x.f2))
theorem k69_open {w:World} {x:S69} {cs:List Value} (h:k69.K w x cs):cs=[.int .i64 x.f0,.int .i64 x.f1,.string x.f2]:=by
 obtain ⟨_,_,rfl,rfl,⟨_,_,rfl,rfl,rfl⟩⟩:=h
 exact rfl
theorem k69_openM {w:World} {base:Nat} {ok:Nat→Prop} {x:S69} {cs:List Value} (h:k69.M w base ok x cs):cs=[.int .i64 x.f0,.int .i64 x.f1,.string x.f2]:=by
 obtain ⟨_,_,rfl,rfl,⟨_,_,rfl,rfl,rfl⟩⟩:=h
 exact rfl
theorem k69_mkM (w:World) (base:Nat) (ok:Nat→Prop) (x:S69)  : k69.M w base ok x [.int .i64 x.f0,.int .i64 x.f1,.string x.f2]:=⟨[.int .i64 x.f0],[.int .i64 x.f1,.string x.f2],rfl,rfl,⟨[.int .i64 x.f1],[.string x.f2],rfl,rfl,rfl⟩⟩
def rd_T69 (xs:List S69) (i:Int):S69:=xs.getD i.toNat z69
theorem at_T69 {w:World} {A:Option Addr} {n:Nat} {xs:List S69} (h:Kd.C k69 w A n xs) (i:Int) (h0:0≤i) (h1:i < n):∃ ad ,A=some ad∧w.cell? (ad.add (i.toNat * 3))=some (.int .i64 (rd_T69 xs i).f0)∧w.cell? ⟨(ad.add (i.toNat * 3)).block,(ad.add (i.toNat * 3)).off+1,none⟩=some (.int .i64 (rd_T69 xs i).f1)∧w.cell? ⟨(ad.add (i.toNat * 3)).block,(ad.add (i.toNat * 3)).off+2,none⟩=some (.string (rd_T69 xs i).f2):=by
 obtain ⟨ad,c,e,_,hK,hc0⟩:=Kd.C_get h z69 i h0 h1
 have hc:∀ j u,c[j]?=some u→w.cell? (ad.add (i.toNat * 3+j))=some u:=hc0
 obtain rfl:=k69_open hK
 exact ⟨ad,e,hc 0 _ rfl,by rw [←add_field _ _ 1 (by omega)];exact hc 1 _ rfl,by rw [←add_field _ _ 2 (by omega)];exact hc 2 _ rfl⟩

structure S34 where
 f0:Int
 f1:Int
 f2:Int
 f3:Int
 f4:ByteArray
def z34:S34:=⟨(0:Int),(0:Int),(0:Int),(0:Int),(⟨#[]⟩:ByteArray)⟩
def k34:Kd S34:=Kd.iso (Kd.pair (Kd.int .i64) (Kd.pair (Kd.int .i64) (Kd.pair (Kd.int .i64) (Kd.pair (Kd.int .i64) Kd.string)))) (fun x:S34=>(x.f0,x.f1,x.f2,x.f3,x.f4))
theorem k34_open {w:World} {x:S34} {cs:List Value} (h:k34.K w x cs):cs=[.int .i64 x.f0,.int .i64 x.f1,.int .i64 x.f2,.int .i64 x.f3,.string x.f4]:=by
 obtain ⟨_,_,rfl,rfl,⟨_,_,rfl,rfl,⟨_,_,rfl,rfl,⟨_,_,rfl,rfl,rfl⟩⟩⟩⟩:=h
 exact rfl
theorem k34_mk (w:World) (x:S34)  : k34.K w x [.int .i64 x.f0,.int .i64 x.f1,.int .i64 x.f2,.int .i64 x.f3,.string x.f4]:=⟨[.int .i64 x.f0],[.int .i64 x.f1,.int .i64 x.f2,.int .i64 x.f3,.string x.f4],rfl,rfl,⟨[.int .i64 x.f1],[.int .i64 x.f2,.int .i64 x.f3,.string x.f4],rfl,rfl,⟨[.int .i64 x.f2],[.int .i64 x.f3,.string x.f4],rfl,rfl,⟨[.int .i64 x.f3],[.string x.f4],rfl,rfl,rfl⟩⟩⟩⟩
structure S36 where
 f0:Int
 f1:Int
 f2:S34
def z36:S36:=⟨(0:Int),(0:Int),z34⟩
def k36:Kd S36:=Kd.iso (Kd.pair (Kd.int .i64) (Kd.pair (Kd.int .i64) k34)) (fun x:S36=>(x.f0,x.f1,x.f2))
theorem k36_open {w:World} {x:S36} {cs:List Value} (h:k36.K w x cs):cs=[.int .i64 x.f0,.int .i64 x.f1,.int .i64 x.f2.f0,.int .i64 x.f2.f1,.int .i64 x.f2.f2,.int .i64 x.f2.f3,.string x.f2.f4]:=by
 obtain ⟨_,_,rfl,rfl,⟨_,_,rfl,rfl,s2⟩⟩:=h
 obtain rfl:=k34_open s2
 exact rfl
theorem k36_mk (w:World) (x:S36)  : k36.K w x [.int .i64 x.f0,.int .i64 x.f1,.int .i64 x.f2.f0,.int .i64 x.f2.f1,.int .i64 x.f2.f2,.int .i64 x.f2.f3,.string x.f2.f4]:=⟨[.int .i64 x.f0],[.int .i64 x.f1,.int .i64 x.f2.f0,.int .i64 x.f2.f1,.int .i64 x.f2.f2,.int .i64 x.f2.f3,.string x.f2.f4],rfl,rfl,⟨[.int .i64 x.f1],[.int .i64 x.f2.f0,.int .i64 x.f2.f1,.int .i64 x.f2.f2,.int .i64 x.f2.f3,.string x.f2.f4],rfl,rfl,(k34_mk w x.f2 )⟩⟩
def rd_T36 (xs:List S36) (i:Int):S36:=xs.getD i.toNat z36
theorem at_T36 {w:World} {A:Option Addr} {n:Nat} {xs:List S36} (h:Kd.C k36 w A n xs) (i:Int) (h0:0≤i) (h1:i < n):∃ ad ,A=some ad∧w.cell? (ad.add (i.toNat * 7))=some (.int .i64 (rd_T36 xs i).f0)∧w.cell? ⟨(ad.add (i.toNat * 7)).block,(ad.add (i.toNat * 7)).off+1,none⟩=some (.int .i64 (rd_T36 xs i).f1)∧w.cell? ⟨(ad.add (i.toNat * 7)).block,(ad.add (i.toNat * 7)).off+2,none⟩=some (.int .i64 (rd_T36 xs i).f2.f0)∧w.cell? ⟨(ad.add (i.toNat * 7)).block,(ad.add (i.toNat * 7)).off+3,none⟩=some (.int .i64 (rd_T36 xs i).f2.f1)∧w.cell? ⟨(ad.add (i.toNat * 7)).block,(ad.add (i.toNat * 7)).off+4,none⟩=some (.int .i64 (rd_T36 xs i).f2.f2)∧w.cell? ⟨(ad.add (i.toNat * 7)).block,(ad.add (i.toNat * 7)).off+5,none⟩=some (.int .i64 (rd_T36 xs i).f2.f3)∧w.cell? ⟨(ad.add (i.toNat * 7)).block,(ad.add (i.toNat * 7)).off+6,none⟩=some (.string (rd_T36 xs i).f2.f4):=by
 obtain ⟨ad,c,e,_,hK,hc0⟩:=Kd.C_get h z36 i h0 h1
 have hc:∀ j u,c[j]?=some u→w.cell? (ad.add (i.toNat * 7+j))=some u:=hc0
 obtain rfl:=k36_open hK
 exact ⟨ad,e,hc 0 _ rfl,by rw [←add_field _ _ 1 (by omega)];exact hc 1 _ rfl,by rw [←add_field _ _ 2 (by omega)];exact hc 2 _ rfl,by rw [←add_field _ _ 3 (by omega)];exact hc 3 _ rfl,by rw [←add_field _ _ 4 (by omega)];exact hc 4 _ rfl,by rw [←add_field _ _ 5 (by omega)];exact hc 5 _ rfl,by rw [←add_field _ _ 6 (by omega)];exact hc 6 _ rfl⟩

structure S183 where
 f0:Int
 f1:Int
 f2:ByteArray
def z183:S183:=⟨(0:Int),(0:Int),(⟨#[]⟩:ByteArray)⟩
def k183:Kd S183:=Kd.iso (Kd.pair (Kd.int .i64) (Kd.pair (Kd.int .i64) Kd.string)) (fun x:S183=>(x.f0,x.f1,x.f2))
theorem k183_open {w:World} {x:S183} {cs:List Value} (h:k183.K w x cs):cs=[.int .i64 x.f0,.int .i64 x.f1,.string x.f2]:=by
 obtain ⟨_,_,rfl,rfl,⟨_,_,rfl,rfl,rfl⟩⟩:=h
 exact rfl
theorem k183_mk (w:World) (x:S183)  : k183.K w x [.int .i64 x.f0,.int .i64 x.f1,.string x.f2]:=⟨[.int .i64 x.f0],[.int .i64 x.f1,.string x.f2],rfl,rfl,⟨[.int .i64 x.f1],[.string x.f2],rfl,rfl,rfl⟩⟩
def rd_T183 (xs:List S183) (i:Int):S183:=xs.getD i.toNat z183
theorem at_T183 {w:World} {A:Option Addr} {n:Nat} {xs:List S183} (h:Kd.C k183 w A n xs) (i:Int) (h0:0≤i) (h1:i < n):∃ ad ,A=some ad∧w.cell? (ad.add (i.toNat * 3))=some (.int .i64 (rd_T183 xs i).f0)∧w.cell? ⟨(ad.add (i.toNat * 3)).block,(ad.add (i.toNat * 3)).off+1,none⟩=some (.int .i64 (rd_T183 xs i).f1)∧w.cell? ⟨(ad.add (i.toNat * 3)).block,(ad.add (i.toNat * 3)).off+2,none⟩=some (.string (rd_T183 xs i).f2):=by
 obtain ⟨ad,c,e,_,hK,hc0⟩:=Kd.C_get h z183 i h0 h1
 have hc:∀ j u,c[j]?=some u→w.cell? (ad.add (i.toNat * 3+j))=some u:=hc0
 obtain rfl:=k183_open hK
 exact ⟨ad,e,hc 0 _ rfl,by rw [←add_field _ _ 1 (by omega)];exact hc 1 _ rfl,by rw [←add_field _ _ 2 (by omega)];exact hc 2 _ rfl⟩

def spec_l6In.f (a0:Int) (a1:Int) (a2:Int):Option (Bool):=if a0≥a1 then (some (decide (a0≤a2))) else (some false)
theorem spec_l6In.calls (a0:Int) (a1:Int) (a2:Int) (r:Bool) (w:World) (h:spec_l6In.f a0 a1 a2=some r) :
  Calls Tryd.prog 75 #[.int .i64 a0,.int .i64 a1,.int .i64 a2] w fun e w'=>e=.returned (.bool r)∧Drawn0 w w':=by
 unfold spec_l6In.f at h
 have H:=h
 clear h
 by_cases c4:a0≥a1
 ·rw [if_pos c4] at H
  have c4b0:decide (a1≤a0)=true:=dt_ c4
  clear c4
  obtain rfl:=sj_ H
  go_enter Tryd.func75,Tryd.ntmps75
  go_wp2
  go_ret
  exact ⟨si_,by repeat (first|exact Drawn0.refl _|apply Drawn0.step)⟩
 ·rw [if_neg c4] at H
  have c4b0:decide (a1≤a0)=false:=df_ c4
  clear c4
  obtain rfl:=sj_ H
  go_enter Tryd.func75,Tryd.ntmps75
  go_wp2
  go_ret
  exact ⟨si_,by repeat (first|exact Drawn0.refl _|apply Drawn0.step)⟩

def spec_l1Made.f (a0:Int):Option (Bool):=(spec_l6In.f (wrap64 (Int.tdiv a0 10)) 1 3).bind fun t166=>(if t166=true then ((spec_l6In.f (Int.tmod a0 10) 1 6).bind fun t167=>(some t167)) else (some false))
theorem spec_l1Made.calls (a0:Int) (r:Bool) (w:World) (h:spec_l1Made.f a0=some r) :
  Calls Tryd.prog 120 #[.int .i64 a0] w fun e w'=>e=.returned (.bool r)∧Drawn0 w w':=by
 unfold spec_l1Made.f at h
 have H:=h
 clear h
 replace H:=bs_ H
 obtain ⟨t166,A20,H⟩:=H
 try dsimp only at H
 have A2:=a_ A20
 clear A20
 by_cases c3:t166=true
 ·subst c3
  have H1:((spec_l6In.f (Int.tmod a0 10) 1 6).bind fun t167=>(some t167))=some r:=by rw [if_pos rfl] at H;exact H
  clear H
  have H:=H1
  clear H1
  replace H:=bs_ H
  obtain ⟨t167,A40,H⟩:=H
  try dsimp only at H
  have A4:=a_ A40
  clear A40
  obtain rfl:=sj_ H
  go_enter Tryd.func120,Tryd.ntmps120
  go_wp2_with (first|((with_reducible refine gC_ (f:=75) rfl ?_);refine gl_ 5 Tryd.func75 #[.int .i64 (wrap64 (Int.tdiv a0 10)),.int .i64 1,.int .i64 3] ?_;(with_reducible refine (spec_l6In.calls (wrap64 (Int.tdiv a0 10)) 1 3 true _ A2.out).mono ?_);rintro e w' ⟨rfl,⟨nd,rfl⟩⟩;refine ⟨_,rfl,?_⟩)|(go_at_call 75;(with_reducible refine (spec_l6In.calls (Int.tmod a0 10) 1 6 t167 _ A4.out).mono ?_);rintro e w' ⟨rfl,⟨nd,rfl⟩⟩))
  go_ret
  exact ⟨si_,by repeat (first|exact Drawn0.refl _|apply Drawn0.step)⟩
 ·replace c3:=Bool.eq_false_iff.mpr c3
  subst c3
  have H1:(some false)=some r:=by rw [if_neg (show ¬ (false=true) by decide)] at H;exact H
  clear H
  have H:=H1
  clear H1
  obtain rfl:=sj_ H
  go_enter Tryd.func120,Tryd.ntmps120
  go_wp2_with (first|((with_reducible refine gC_ (f:=75) rfl ?_);refine gl_ 5 Tryd.func75 #[.int .i64 (wrap64 (Int.tdiv a0 10)),.int .i64 1,.int .i64 3] ?_;(with_reducible refine (spec_l6In.calls (wrap64 (Int.tdiv a0 10)) 1 3 false _ A2.out).mono ?_);rintro e w' ⟨rfl,⟨nd,rfl⟩⟩;refine ⟨_,rfl,?_⟩))
  go_ret
  exact ⟨si_,by repeat (first|exact Drawn0.refl _|apply Drawn0.step)⟩

def spec_l1Text.l0:Nat→ByteArray→Int→Option (Bool)
 | 0,_,_=>none
 | k+1,x0,x3=>if x3 < (x0.size:Int) then (if 0≤x3 then ((spec_l6In.f (wrap64 (bt x0 x3)) 97 100).bind fun t168=>(if t168=true then (spec_l1Text.l0 k x0 (wrap64 (x3+1))) else (some false))) else (none)) else (some (decide ((x0.size:Int)≤4)))
def spec_l1Text.f (k:Nat) (a0:ByteArray):Option (Bool):=spec_l1Text.l0 k a0 0
theorem spec_l1Text.calls (k:Nat) (a0:ByteArray) (r:Bool) (w:World) (h:spec_l1Text.f k a0=some r) :
  Calls Tryd.prog 121 #[.string a0] w fun e w'=>e=.returned (.bool r)∧Drawn0 w w':=by
 unfold spec_l1Text.f at h
 have H:=h
 clear h
 have H':=a_ H
 clear H
 go_enter Tryd.func121,Tryd.ntmps121
 go_wp2
 go_loopg [3] k (fun kq v3 w'=>∃ (x3_1:Int),v3=.int .i64 x3_1∧Aside0 (spec_l1Text.l0 kq a0 x3_1=some r)∧Aside0 (kq≤k)∧Drawn0 w w')
 case atStart=>exact ⟨(0),(si_),H',⟨Nat.le_refl _⟩,by repeat (first|exact Drawn0.refl _|apply Drawn0.step)⟩
 case round =>
  clear H'
  try clear c1
  obtain ⟨x3_1,rfl,HA,HK1,⟨m1,rfl⟩⟩:=hrel
  cases gk with
  | zero=>exact absurd HA.out (by simp [spec_l1Text.l0])
  | succ k1 =>
   have H:=HA.out
   clear HA
   simp only [spec_l1Text.l0] at H
   by_cases c2:x3_1 < (a0.size:Int)
   ·rw [if_pos c2] at H
    have c2b0:decide (x3_1 < (a0.size:Int))=true:=dt_ c2
    clear c2
    by_cases c3:0≤x3_1
    ·rw [if_pos c3] at H
     have c3b0:decide (0≤x3_1)=true:=dt_ c3
     clear c3
     replace H:=bs_ H
     obtain ⟨t168,A50,H⟩:=H
     try dsimp only at H
     have A5:=a_ A50
     clear A50
     by_cases c6:t168=true
     ·subst c6
      have H1:(spec_l1Text.l0 k1 a0 (wrap64 (x3_1+1)))=some r:=by rw [if_pos rfl] at H;exact H
      clear H
      have H:=H1
      clear H1
      have H':=a_ H
      clear H
      have p4:0≤(x3_1:Int):=od_
      have q4:x3_1 < (a0.size:Int):=od_
      have hx4:=bt_at a0 x3_1
      replace p4:=eq_true p4
      replace q4:=eq_true q4
      go_wp2_with (first|((with_reducible refine gC_ (f:=75) rfl ?_);refine gl_ 14 Tryd.func75 #[.int .i64 (wrap64 (bt a0 x3_1)),.int .i64 97,.int .i64 100] ?_;(with_reducible refine (spec_l6In.calls (wrap64 (bt a0 x3_1)) 97 100 true _ A5.out).mono ?_);rintro e w' ⟨rfl,⟨nd,rfl⟩⟩;refine ⟨_,rfl,?_⟩))
      go_roundg k1
      case measure=>have:=HK1.out;omega
      case rel=>exact ⟨(wrap64 (x3_1+1)),(si_),H',⟨by have:=HK1.out;omega⟩,by repeat (first|exact Drawn0.refl _|apply Drawn0.step)⟩
     ·replace c6:=Bool.eq_false_iff.mpr c6
      subst c6
      have H1:(some false)=some r:=by rw [if_neg (show ¬ (false=true) by decide)] at H;exact H
      clear H
      have H:=H1
      clear H1
      obtain rfl:=sj_ H
      have p4:0≤(x3_1:Int):=od_
      have q4:x3_1 < (a0.size:Int):=od_
      have hx4:=bt_at a0 x3_1
      replace p4:=eq_true p4
      replace q4:=eq_true q4
      go_wp2_with (first|((with_reducible refine gC_ (f:=75) rfl ?_);refine gl_ 14 Tryd.func75 #[.int .i64 (wrap64 (bt a0 x3_1)),.int .i64 97,.int .i64 100] ?_;(with_reducible refine (spec_l6In.calls (wrap64 (bt a0 x3_1)) 97 100 false _ A5.out).mono ?_);rintro e w' ⟨rfl,⟨nd,rfl⟩⟩;refine ⟨_,rfl,?_⟩))
      go_ret
      exact ⟨si_,by repeat (first|exact Drawn0.refl _|apply Drawn0.step)⟩
    ·rw [if_neg c3] at H
     exact absurd H (by simp)
   ·rw [if_neg c2] at H
    have c2b0:decide (x3_1 < (a0.size:Int))=false:=df_ c2
    clear c2
    obtain rfl:=sj_ H
    go_wp2
    go_ret
    exact ⟨si_,by repeat (first|exact Drawn0.refl _|apply Drawn0.step)⟩

def impl_whoOk.f (a0:Int):Option (Bool):=if a0≥1 then (some (decide (a0≤3))) else (some false)
theorem impl_whoOk.calls (a0:Int) (r:Bool) (w:World) (h:impl_whoOk.f a0=some r) :
  Calls Tryd.prog 104 #[.int .i64 a0] w fun e w'=>e=.returned (.bool r)∧Drawn0 w w':=by
 unfold impl_whoOk.f at h
 have H:=h
 clear h
 by_cases c2:a0≥1
 ·rw [if_pos c2] at H
  have c2b0:decide (1≤a0)=true:=dt_ c2
  clear c2
  obtain rfl:=sj_ H
  go_enter Tryd.func104,Tryd.ntmps104
  go_wp2
  go_ret
  exact ⟨si_,by repeat (first|exact Drawn0.refl _|apply Drawn0.step)⟩
 ·rw [if_neg c2] at H
  have c2b0:decide (1≤a0)=false:=df_ c2
  clear c2
  obtain rfl:=sj_ H
  go_enter Tryd.func104,Tryd.ntmps104
  go_wp2
  go_ret
  exact ⟨si_,by repeat (first|exact Drawn0.refl _|apply Drawn0.step)⟩

end Go.Proofs.YtdpklbomhdpimaaDoor.P
namespace Go.Proofs.YtdpklbomhdpimaaDoor.P
open Go.RowKit
def owners:List Int:=[0,1,1,1,0,0,0,0,0,0,0,2,2,2,2,2,2,0,0,0,0,3,3,3,3,3,3,0,0,0,0,4,4,4,4,4,4]
def Glob (w:World):Prop:=Lib.TabIs Tryd.prog w "loop.example/plashet/impl.rowOwners" .i64 owners
theorem gOwners:Tryd.prog.globalNamed "loop.example/plashet/impl.rowOwners" = some 0:=by kernel_rfl
theorem Glob.var {w:World} (h:Glob w):w.var? Tryd.prog "loop.example/plashet/impl.rowOwners" = some (owners.map fun z=>Value.int .i64 z).toArray:=h
theorem Glob.lt {w:World} (h:Glob w):0 < w.heap.size:=by
 have h:=h.var
 unfold World.var? at h
 simp only [gOwners,Option.bind_some] at h
 rcases Nat.lt_or_ge 0 w.heap.size with hl|hl
 ·exact hl
 ·rw [Array.getElem?_eq_none hl] at h
  cases h
theorem Glob.below {w w':World} (h:Glob w) (hb:Below w.heap.size w w'):Glob w':=by
 have hl:=h.lt
 have h:=h.var
 unfold Glob Lib.TabIs World.var? at *
 simp only [gOwners,Option.bind_some] at h ⊢
 rw [hb.block _ hl]
 exact h
theorem Glob.drew {w:World} (h:Glob w):Glob w.drew:=by
 have h:=h.var
 unfold Glob Lib.TabIs World.var? at *
 exact h
theorem Glob.drewN {w:World} (h:Glob w) (n:Nat):Glob (w.drewN n):=by
 induction n generalizing w with
 | zero=>exact h
 | succ n ih=>rw [←World.drew_drewN];exact ih h.drew
theorem Glob.cell {w:World} (h:Glob w) (i:Nat) (hi:i < 37):w.cell? ⟨0,i,none⟩=some (.int .i64 (owners.getD i 0)):=by
 have hc:=World.var?_cell gOwners h.var i
 rw [hc]
 have hl:i < owners.length:=hi
 simp [List.getD_eq_getElem?_getD,List.getElem?_eq_getElem hl]
def ownI (id:Int):Int:=if 0≤id∧id < 37 then owners.getD id.toNat 0 else 0
theorem Glob.at_ {w:World} (h:Glob w) (i:Int) (h0:0≤i) (h1:i < 37):w.cell? ⟨0,i.toNat,none⟩=some (.int .i64 (ownI i)):=by
 have:=h.cell i.toNat (by omega)
 rw [ownI,if_pos ⟨h0,h1⟩]
 exact this
theorem owners_range:∀ z∈owners,0≤z∧z≤4:=by decide
theorem ownI_range (i:Int):0≤ownI i∧ownI i≤4:=by
 unfold ownI
 split
 ·rename_i h
  have hl:i.toNat < owners.length:=by have:owners.length=37:=rfl;omega
  rw [List.getD_eq_getElem?_getD,List.getElem?_eq_getElem hl]
  exact owners_range _ (List.getElem_mem hl)
 ·omega
end Go.Proofs.YtdpklbomhdpimaaDoor.P
namespace Go.Proofs.YtdpklbomhdpimaaDoor.P
open Go.RowKit Go.Proofs.YtdpklbomhdpimaaDoorW.PrintWords
def impl_RowWho.f (a0:Int):Option (Int×Bool):=some (if ownI a0=0 then (0,false) else (ownI a0 - 1,true))
theorem impl_RowWho.calls (a0:Int) (r1:Int) (r2:Bool) (w:World) (h:impl_RowWho.f a0=some (r1,r2)) (hG:Glob w) :
  Calls Tryd.prog 117 #[.int .i64 a0] w fun e w'=>e=.returned (.tuple #[.int .i64 r1,.bool r2])∧Drawn0 w w':=by
 unfold impl_RowWho.f at h
 by_cases h0:0≤a0
 ·by_cases h1:a0 < 37
  ·have hc:=hG.at_ a0 h0 h1
   have hr:=ownI_range a0
   generalize ownI a0=z at hc hr h
   by_cases hz:z=0
   ·subst hz
    simp only [if_true,Option.some.injEq,Prod.mk.injEq] at h
    obtain ⟨rfl,rfl⟩:=h
    clear hr hG
    go_enter Tryd.func117,Tryd.ntmps117
    go_wp2
    go_ret2
    exact ⟨rfl,Drawn0.refl _⟩
   ·rw [if_neg hz] at h
    simp only [Option.some.injEq,Prod.mk.injEq] at h
    obtain ⟨rfl,rfl⟩:=h
    have hz1:(z==0)=false:=beq_eq_false_iff_ne.2 hz
    have hr1:0≤z:=hr.1
    have hr2:z≤4:=hr.2
    clear hr hG
    go_enter Tryd.func117,Tryd.ntmps117
    go_wp2
    go_ret2
    exact ⟨rfl,Drawn0.refl _⟩
  ·have e:ownI a0=0:=by rw [ownI,if_neg (by omega)]
   rw [if_pos e] at h
   simp only [Option.some.injEq,Prod.mk.injEq] at h
   obtain ⟨rfl,rfl⟩:=h
   clear e hG
   go_enter Tryd.func117,Tryd.ntmps117
   go_wp2
   go_ret2
   exact ⟨rfl,Drawn0.refl _⟩
 ·have e:ownI a0=0:=by rw [ownI,if_neg (by omega)]
  rw [if_pos e] at h
  simp only [Option.some.injEq,Prod.mk.injEq] at h
  obtain ⟨rfl,rfl⟩:=h
  clear e hG
  have hlt:a0 < 0:=by omega
  go_enter Tryd.func117,Tryd.ntmps117
  go_wp2
  go_ret2
  exact ⟨rfl,Drawn0.refl _⟩
end Go.Proofs.YtdpklbomhdpimaaDoor.P
namespace Go.Proofs.YtdpklbomhdpimaaDoor.P
open Go.RowKit Go.Proofs.YtdpklbomhdpimaaDoorW.PrintWords Go.Proofs.YtdpklbomhdpimaaDoorW.PrintLast
def impl_isMade.f (a0:Int):Option (Bool):=(impl_RowWho.f a0).bind fun bt396=>(if bt396.2=true then (some (bt396.1 != 0)) else (some false))
theorem impl_isMade.calls (a0:Int) (r:Bool) (w:World) (h:impl_isMade.f a0=some r) (hG:Glob w) :
  Calls Tryd.prog 127 #[.int .i64 a0] w fun e w'=>e=.returned (.bool r)∧Drawn0 w w':=by
 have HG:=a_ hG
 clear hG
 unfold impl_isMade.f at h
 have H:=h
 clear h
 replace H:=bs_ H
 obtain ⟨⟨t396,t397⟩,A20,H⟩:=H
 try dsimp only at H
 have A2:=a_ A20
 clear A20
 by_cases c3:t397=true
 ·subst c3
  have H1:(some (t396 != 0))=some r:=by rw [if_pos rfl] at H;exact H
  clear H
  have H:=H1
  clear H1
  obtain rfl:=sj_ H
  go_enter Tryd.func127,Tryd.ntmps127
  go_wp2_with (first|((with_reducible refine gC_ (f:=117) rfl ?_);refine gl_ 7 Tryd.func117 #[.int .i64 a0] ?_;(with_reducible refine (impl_RowWho.calls a0 t396 true _ A2.out ?side1).mono ?_);(case side1=>exact hg_);rintro e w' ⟨rfl,⟨nd,rfl⟩⟩;refine ⟨_,rfl,?_⟩))
  go_ret
  exact ⟨si_,by repeat (first|exact Drawn0.refl _|apply Drawn0.step)⟩
 ·replace c3:=Bool.eq_false_iff.mpr c3
  subst c3
  have H1:(some false)=some r:=by rw [if_neg (show ¬ (false=true) by decide)] at H;exact H
  clear H
  have H:=H1
  clear H1
  obtain rfl:=sj_ H
  go_enter Tryd.func127,Tryd.ntmps127
  go_wp2_with (first|((with_reducible refine gC_ (f:=117) rfl ?_);refine gl_ 7 Tryd.func117 #[.int .i64 a0] ?_;(with_reducible refine (impl_RowWho.calls a0 t396 false _ A2.out ?side1).mono ?_);(case side1=>exact hg_);rintro e w' ⟨rfl,⟨nd,rfl⟩⟩;refine ⟨_,rfl,?_⟩))
  go_ret
  exact ⟨si_,by repeat (first|exact Drawn0.refl _|apply Drawn0.step)⟩

def impl_isRoot.f (a0:Int):Option (Bool):=(impl_RowWho.f a0).bind fun bt398=>(if bt398.2=true then (some (bt398.1==0)) else (some false))
theorem impl_isRoot.calls (a0:Int) (r:Bool) (w:World) (h:impl_isRoot.f a0=some r) (hG:Glob w) :
  Calls Tryd.prog 98 #[.int .i64 a0] w fun e w'=>e=.returned (.bool r)∧Drawn0 w w':=by
 have HG:=a_ hG
 clear hG
 unfold impl_isRoot.f at h
 have H:=h
 clear h
 replace H:=bs_ H
 obtain ⟨⟨t398,t399⟩,A20,H⟩:=H
 try dsimp only at H
 have A2:=a_ A20
 clear A20
 by_cases c3:t399=true
 ·subst c3
  have H1:(some (t398==0))=some r:=by rw [if_pos rfl] at H;exact H
  clear H
  have H:=H1
  clear H1
  obtain rfl:=sj_ H
  go_enter Tryd.func98,Tryd.ntmps98
  go_wp2_with (first|((with_reducible refine gC_ (f:=117) rfl ?_);refine gl_ 7 Tryd.func117 #[.int .i64 a0] ?_;(with_reducible refine (impl_RowWho.calls a0 t398 true _ A2.out ?side1).mono ?_);(case side1=>exact hg_);rintro e w' ⟨rfl,⟨nd,rfl⟩⟩;refine ⟨_,rfl,?_⟩))
  go_ret
  exact ⟨si_,by repeat (first|exact Drawn0.refl _|apply Drawn0.step)⟩
 ·replace c3:=Bool.eq_false_iff.mpr c3
  subst c3
  have H1:(some false)=some r:=by rw [if_neg (show ¬ (false=true) by decide)] at H;exact H
  clear H
  have H:=H1
  clear H1
  obtain rfl:=sj_ H
  go_enter Tryd.func98,Tryd.ntmps98
  go_wp2_with (first|((with_reducible refine gC_ (f:=117) rfl ?_);refine gl_ 7 Tryd.func117 #[.int .i64 a0] ?_;(with_reducible refine (impl_RowWho.calls a0 t398 false _ A2.out ?side1).mono ?_);(case side1=>exact hg_);rintro e w' ⟨rfl,⟨nd,rfl⟩⟩;refine ⟨_,rfl,?_⟩))
  go_ret
  exact ⟨si_,by repeat (first|exact Drawn0.refl _|apply Drawn0.step)⟩

def impl_placeOk.f (a0:Int) (a1:Int):Option (Bool):=(impl_isMade.f a0).bind fun t400=>(if t400=true then (if a1=0 then (some true) else ((impl_isMade.f a1).bind fun t401=>(some t401))) else ((impl_isRoot.f a0).bind fun t402=>(if t402=true then (if a1=0 then (some true) else ((impl_isMade.f a1).bind fun t403=>(some t403))) else (some false))))
theorem impl_placeOk.calls (a0:Int) (a1:Int) (r:Bool) (w:World) (h:impl_placeOk.f a0 a1=some r) (hG:Glob w) :
  Calls Tryd.prog 128 #[.int .i64 a0,.int .i64 a1] w fun e w'=>e=.returned (.bool r)∧Drawn0 w w':=by
 have HG:=a_ hG
 clear hG
 unfold impl_placeOk.f at h
 have H:=h
 clear h
 replace H:=bs_ H
 obtain ⟨t400,A30,H⟩:=H
 try dsimp only at H
 have A3:=a_ A30
 clear A30
 by_cases c4:t400=true
 ·subst c4
  have H1:(if a1=0 then (some true) else ((impl_isMade.f a1).bind fun t401=>(some t401)))=some r:=by rw [if_pos rfl] at H;exact H
  clear H
  have H:=H1
  clear H1
  by_cases c5:a1=0
  ·rw [if_pos c5] at H
   have c5b0:(a1==0)=true:=beq_iff_eq.mpr c5
   have c5b1:(a1 != 0)=false:=be_ c5
   clear c5
   obtain rfl:=sj_ H
   go_enter Tryd.func128,Tryd.ntmps128
   go_wp2_with (first|((with_reducible refine gC_ (f:=127) rfl ?_);refine gl_ 6 Tryd.func127 #[.int .i64 a0] ?_;(with_reducible refine (impl_isMade.calls a0 true _ A3.out ?side1).mono ?_);(case side1=>exact hg_);rintro e w' ⟨rfl,⟨nd,rfl⟩⟩;refine ⟨_,rfl,?_⟩))
   go_ret
   exact ⟨si_,by repeat (first|exact Drawn0.refl _|apply Drawn0.step)⟩
  ·rw [if_neg c5] at H
   have c5b0:(a1==0)=false:=bn_ c5
   have c5b1:(a1 != 0)=true:=bne_iff_ne.mpr c5
   replace H:=bs_ H
   obtain ⟨t401,A60,H⟩:=H
   try dsimp only at H
   have A6:=a_ A60
   clear A60
   obtain rfl:=sj_ H
   go_enter Tryd.func128,Tryd.ntmps128
   go_wp2_with (first|((with_reducible refine gC_ (f:=127) rfl ?_);refine gl_ 6 Tryd.func127 #[.int .i64 a0] ?_;(with_reducible refine (impl_isMade.calls a0 true _ A3.out ?side1).mono ?_);(case side1=>exact hg_);rintro e w' ⟨rfl,⟨nd,rfl⟩⟩;refine ⟨_,rfl,?_⟩)|(go_at_call 127;(with_reducible refine (impl_isMade.calls a1 t401 _ A6.out ?side1).mono ?_);(case side1=>exact hg_);rintro e w' ⟨rfl,⟨nd,rfl⟩⟩))
   go_ret
   exact ⟨si_,by repeat (first|exact Drawn0.refl _|apply Drawn0.step)⟩
 ·replace c4:=Bool.eq_false_iff.mpr c4
  subst c4
  have H1:((impl_isRoot.f a0).bind fun t402=>(if t402=true then (if a1=0 then (some true) else ((impl_isMade.f a1).bind fun t403=>(some t403))) else (some false)))=some r:=by rw [if_neg (show ¬ (false=true) by decide)] at H;exact H
  clear H
  have H:=H1
  clear H1
  replace H:=bs_ H
  obtain ⟨t402,A70,H⟩:=H
  try dsimp only at H
  have A7:=a_ A70
  clear A70
  by_cases c8:t402=true
  ·subst c8
   have H1:(if a1=0 then (some true) else ((impl_isMade.f a1).bind fun t403=>(some t403)))=some r:=by rw [if_pos rfl] at H;exact H
   clear H
   have H:=H1
   clear H1
   by_cases c9:a1=0
   ·rw [if_pos c9] at H
    have c9b0:(a1==0)=true:=beq_iff_eq.mpr c9
    have c9b1:(a1 != 0)=false:=be_ c9
    clear c9
    obtain rfl:=sj_ H
    go_enter Tryd.func128,Tryd.ntmps128
    go_wp2_with (first|((with_reducible refine gC_ (f:=127) rfl ?_);refine gl_ 6 Tryd.func127 #[.int .i64 a0] ?_;(with_reducible refine (impl_isMade.calls a0 false _ A3.out ?side1).mono ?_);(case side1=>exact hg_);rintro e w' ⟨rfl,⟨nd,rfl⟩⟩;refine ⟨_,rfl,?_⟩)|(go_at_call 98;(with_reducible refine (impl_isRoot.calls a0 true _ A7.out ?side1).mono ?_);(case side1=>exact hg_);rintro e w' ⟨rfl,⟨nd,rfl⟩⟩))
    go_ret
    exact ⟨si_,by repeat (first|exact Drawn0.refl _|apply Drawn0.step)⟩
   ·rw [if_neg c9] at H
    have c9b0:(a1==0)=false:=bn_ c9
    have c9b1:(a1 != 0)=true:=bne_iff_ne.mpr c9
    replace H:=bs_ H
    obtain ⟨t403,A100,H⟩:=H
    try dsimp only at H
    have A10:=a_ A100
    clear A100
    obtain rfl:=sj_ H
    go_enter Tryd.func128,Tryd.ntmps128
    go_wp2_with (first|((with_reducible refine gC_ (f:=127) rfl ?_);refine gl_ 6 Tryd.func127 #[.int .i64 a0] ?_;(with_reducible refine (impl_isMade.calls a0 false _ A3.out ?side1).mono ?_);(case side1=>exact hg_);rintro e w' ⟨rfl,⟨nd,rfl⟩⟩;refine ⟨_,rfl,?_⟩)|(go_at_call 98;(with_reducible refine (impl_isRoot.calls a0 true _ A7.out ?side1).mono ?_);(case side1=>exact hg_);rintro e w' ⟨rfl,⟨nd,rfl⟩⟩)|(go_at_call 127;(with_reducible refine (impl_isMade.calls a1 t403 _ A10.out ?side1).mono ?_);(case side1=>exact hg_);rintro e w' ⟨rfl,⟨nd,rfl⟩⟩))
    go_ret
    exact ⟨si_,by repeat (first|exact Drawn0.refl _|apply Drawn0.step)⟩
  ·replace c8:=Bool.eq_false_iff.mpr c8
   subst c8
   have H1:(some false)=some r:=by rw [if_neg (show ¬ (false=true) by decide)] at H;exact H
   clear H
   have H:=H1
   clear H1
   obtain rfl:=sj_ H
   go_enter Tryd.func128,Tryd.ntmps128
   go_wp2_with (first|((with_reducible refine gC_ (f:=127) rfl ?_);refine gl_ 6 Tryd.func127 #[.int .i64 a0] ?_;(with_reducible refine (impl_isMade.calls a0 false _ A3.out ?side1).mono ?_);(case side1=>exact hg_);rintro e w' ⟨rfl,⟨nd,rfl⟩⟩;refine ⟨_,rfl,?_⟩)|(go_at_call 98;(with_reducible refine (impl_isRoot.calls a0 false _ A7.out ?side1).mono ?_);(case side1=>exact hg_);rintro e w' ⟨rfl,⟨nd,rfl⟩⟩))
   go_ret
   exact ⟨si_,by repeat (first|exact Drawn0.refl _|apply Drawn0.step)⟩

def impl_textOk.l0:Nat→ByteArray→Int→Option (Bool)
 | 0,_,_=>none
 | k+1,x0,x3=>if x3 < (x0.size:Int) then (if 0≤x3 then (if (bt x0 x3) < 97 then (some false) else (if (bt x0 x3) > 100 then (some false) else (impl_textOk.l0 k x0 (wrap64 (x3+1))))) else (none)) else (some true)
def impl_textOk.f (k:Nat) (a0:ByteArray):Option (Bool):=if (a0.size:Int) > 4 then (some false) else (impl_textOk.l0 k a0 0)
theorem impl_textOk.calls (k:Nat) (a0:ByteArray) (r:Bool) (w:World) (h:impl_textOk.f k a0=some r) :
  Calls Tryd.prog 129 #[.string a0] w fun e w'=>e=.returned (.bool r)∧Drawn0 w w':=by
 unfold impl_textOk.f at h
 have H:=h
 clear h
 by_cases c2:(a0.size:Int) > 4
 ·rw [if_pos c2] at H
  have c2b0:decide (4 < (a0.size:Int))=true:=dt_ c2
  have c2b1:decide (4 < a0.size)=true:=dt_ (by omega)
  clear c2
  obtain rfl:=sj_ H
  go_enter Tryd.func129,Tryd.ntmps129
  go_wp2
  go_ret
  exact ⟨si_,by repeat (first|exact Drawn0.refl _|apply Drawn0.step)⟩
 ·rw [if_neg c2] at H
  have c2b0:decide (4 < (a0.size:Int))=false:=df_ c2
  have c2b1:decide (4 < a0.size)=false:=df_ (by omega)
  clear c2
  have H':=a_ H
  clear H
  go_enter Tryd.func129,Tryd.ntmps129
  go_wp2
  go_loopg [3] k (fun kq v3 w'=>∃ (x3_1:Int),v3=.int .i64 x3_1∧Aside0 (impl_textOk.l0 kq a0 x3_1=some r)∧Aside0 (kq≤k)∧Drawn0 w w')
  case atStart=>exact ⟨(0),(si_),H',⟨Nat.le_refl _⟩,by repeat (first|exact Drawn0.refl _|apply Drawn0.step)⟩
  case round =>
   clear H'
   try clear c1
   try clear c2
   try clear c2b0
   try clear c2b1
   try clear p2
   obtain ⟨x3_1,rfl,HA,HK1,⟨m1,rfl⟩⟩:=hrel
   cases gk with
   | zero=>exact absurd HA.out (by simp [impl_textOk.l0])
   | succ k1 =>
    have H:=HA.out
    clear HA
    simp only [impl_textOk.l0] at H
    by_cases c3:x3_1 < (a0.size:Int)
    ·rw [if_pos c3] at H
     have c3b0:decide (x3_1 < (a0.size:Int))=true:=dt_ c3
     clear c3
     by_cases c4:0≤x3_1
     ·rw [if_pos c4] at H
      have c4b0:decide (0≤x3_1)=true:=dt_ c4
      clear c4
      by_cases c6:(bt a0 x3_1) < 97
      ·rw [if_pos c6] at H
       have c6b0:decide ((bt a0 x3_1) < 97)=true:=dt_ c6
       clear c6
       obtain rfl:=sj_ H
       have p5:0≤(x3_1:Int):=od_
       have q5:x3_1 < (a0.size:Int):=od_
       have hx5:=bt_at a0 x3_1
       replace p5:=eq_true p5
       replace q5:=eq_true q5
       go_wp2
       go_ret
       exact ⟨si_,by repeat (first|exact Drawn0.refl _|apply Drawn0.step)⟩
      ·rw [if_neg c6] at H
       have c6b0:decide ((bt a0 x3_1) < 97)=false:=df_ c6
       clear c6
       by_cases c8:(bt a0 x3_1) > 100
       ·rw [if_pos c8] at H
        have c8b0:decide (100 < (bt a0 x3_1))=true:=dt_ c8
        clear c8
        obtain rfl:=sj_ H
        have p5:0≤(x3_1:Int):=od_
        have q5:x3_1 < (a0.size:Int):=od_
        have hx5:=bt_at a0 x3_1
        replace p5:=eq_true p5
        replace q5:=eq_true q5
        have p7:0≤(x3_1:Int):=od_
        have q7:x3_1 < (a0.size:Int):=od_
        have hx7:=bt_at a0 x3_1
        replace p7:=eq_true p7
        replace q7:=eq_true q7
        go_wp2
        go_ret
        exact ⟨si_,by repeat (first|exact Drawn0.refl _|apply Drawn0.step)⟩
       ·rw [if_neg c8] at H
        have c8b0:decide (100 < (bt a0 x3_1))=false:=df_ c8
        clear c8
        have H':=a_ H
        clear H
        have p5:0≤(x3_1:Int):=od_
        have q5:x3_1 < (a0.size:Int):=od_
        have hx5:=bt_at a0 x3_1
        replace p5:=eq_true p5
        replace q5:=eq_true q5
        have p7:0≤(x3_1:Int):=od_
        have q7:x3_1 < (a0.size:Int):=od_
        have hx7:=bt_at a0 x3_1
        replace p7:=eq_true p7
        replace q7:=eq_true q7
        go_wp2
        go_roundg k1
        case measure=>have:=HK1.out;omega
        case rel=>exact ⟨(wrap64 (x3_1+1)),(si_),H',⟨by have:=HK1.out;omega⟩,by repeat (first|exact Drawn0.refl _|apply Drawn0.step)⟩
     ·rw [if_neg c4] at H
      exact absurd H (by simp)
    ·rw [if_neg c3] at H
     have c3b0:decide (x3_1 < (a0.size:Int))=false:=df_ c3
     clear c3
     obtain rfl:=sj_ H
     go_wp2
     go_ret
     exact ⟨si_,by repeat (first|exact Drawn0.refl _|apply Drawn0.step)⟩


end Go.Proofs.YtdpklbomhdpimaaDoor.P
namespace Go.Proofs.YtdpklbomhdpimaaDoor.P
open Go.RowKit Go.Proofs.YtdpklbomhdpimaaDoorW.PrintWords Go.Proofs.YtdpklbomhdpimaaDoorW.PrintLast Go.Proofs.YtdpklbomhdpimaaDoorW.PrintMore
theorem quiet_d {P:Program} {f:FuncId} {args:Array Value} {w:World} {d n:Nat} {v:Value} (h:Calls P f args (w.drewN (d+n)) fun e w'=>e=.returned v∧Drawn0 (w.drewN (d+n)) w') :
  Calls P f args (w.drewN (d+n)) fun e w''=>e=.returned v∧∃ m,w''=w.drewN (d+m) :=
 h.mono fun _ _ ⟨he,⟨m,hm⟩⟩=>⟨he,n+m,by rw [hm,World.drewN_drewN,Nat.add_assoc]⟩
def impl_changeOf.f (k:Nat) (a0 a1 a2 a3:Int) (a4:ByteArray):Option Bool :=
 (impl_isMade.f a1).bind fun m=>if m=true then
  (if a0=1 then ((impl_placeOk.f a2 a3).bind fun p=>if p=true then impl_textOk.f k a4 else some false)
  else if a0=2 then (if a2=0 then (if a3=0 then impl_textOk.f k a4 else some false) else some false)
  else if a0=3 then ((impl_placeOk.f a2 a3).bind fun p=>if p=true then some (a4.toList.isEmpty) else some false)
  else some false) else some false
def ChV (a0 a1 a2 a3:Int) (a4:ByteArray):Value :=
 if a0=1 then .iface 156 (.agg #[.int .i64 a1,.int .i64 a2,.int .i64 a3,.string a4])
 else if a0=2 then .iface 159 (.agg #[.int .i64 a1,.string a4])
 else .iface 161 (.agg #[.int .i64 a1,.int .i64 a2,.int .i64 a3])
def ChPost (w:World) (a0 a1 a2 a3:Int) (a4:ByteArray) (r:Bool) (e:Ending) (w':World):Prop :=
 ∃ v:Value,e=.returned (.tuple #[v,.bool r])∧(r=true→v=ChV a0 a1 a2 a3 a4)∧Below w.heap.size w w'
theorem below_box0 (w:World) (o:Obj):Below w.heap.size w (w.alloc o):=(Below.refl _ _).alloc (Nat.le_refl _) _
theorem changeOf_unmade (a0 a1 a2 a3:Int) (a4:ByteArray) (w:World) (hm:impl_isMade.f a1=some false) (hG:Glob w) :
  Calls Tryd.prog 92 #[.agg #[.int .i64 a0,.int .i64 a1,.int .i64 a2,.int .i64 a3,.string a4]] w (ChPost w a0 a1 a2 a3 a4 false):=by
 have hGa:Glob (w.alloc (.cells #[.int .i64 a0,.int .i64 a1,.int .i64 a2,.int .i64 a3,.string a4] 42)):=hG.below (below_box0 w _)
 have HG:=a_ hGa
 clear hGa hG
 have Hm:=a_ hm
 clear hm
 go_enter Tryd.func92,Tryd.ntmps92
 go_wp2_with (go_at_call 127;refine (impl_isMade.calls a1 _ _ Hm.out HG.out).mono ?_;rintro e w' ⟨rfl,⟨nd,rfl⟩⟩)
 go_ret2
 exact ⟨_,rfl,(fun h=>by cases h),by (with_reducible repeat (first|exact below_box0 w _|apply pw_below_drewN))⟩
theorem changeOf_make (k:Nat) (a0 a1 a2 a3:Int) (a4:ByteArray) (r:Bool) (w:World) (hm:impl_isMade.f a1=some true) (hp:impl_placeOk.f a2 a3=some true) (ht:impl_textOk.f k a4=some r) (h0:a0=1) (hG:Glob w) :
  Calls Tryd.prog 92 #[.agg #[.int .i64 a0,.int .i64 a1,.int .i64 a2,.int .i64 a3,.string a4]] w (ChPost w a0 a1 a2 a3 a4 r):=by
 have hGa:Glob (w.alloc (.cells #[.int .i64 a0,.int .i64 a1,.int .i64 a2,.int .i64 a3,.string a4] 42)):=hG.below (below_box0 w _)
 have HG:=a_ hGa
 clear hGa hG
 subst h0
 have Hm:=a_ hm
 have Hp:=a_ hp
 have Ht:=a_ ht
 clear hm hp ht
 go_enter Tryd.func92,Tryd.ntmps92
 go_wp2_with (go_at_call 127;refine (impl_isMade.calls a1 _ _ Hm.out HG.out).mono ?_;rintro e w' ⟨rfl,⟨nd,rfl⟩⟩)
 go_quiet ((first|(go_at_call 128;refine quiet_d (impl_placeOk.calls a2 a3 true _ Hp.out (by (with_reducible repeat (first|exact HG.out|apply Glob.drewN|apply Glob.drew)))))|(go_at_call 129;refine quiet_d (impl_textOk.calls k a4 r _ Ht.out))))
 go_wp2
 go_ret2
 exact ⟨_,rfl,fun _=>rfl,by (with_reducible repeat (first|exact below_box0 w _|apply pw_below_drewN))⟩
theorem changeOf_make_no (a0 a1 a2 a3:Int) (a4:ByteArray) (w:World) (hm:impl_isMade.f a1=some true) (hp:impl_placeOk.f a2 a3=some false) (h0:a0=1) (hG:Glob w) :
  Calls Tryd.prog 92 #[.agg #[.int .i64 a0,.int .i64 a1,.int .i64 a2,.int .i64 a3,.string a4]] w (ChPost w a0 a1 a2 a3 a4 false):=by
 have hGa:Glob (w.alloc (.cells #[.int .i64 a0,.int .i64 a1,.int .i64 a2,.int .i64 a3,.string a4] 42)):=hG.below (below_box0 w _)
 have HG:=a_ hGa
 clear hGa hG
 subst h0
 have Hm:=a_ hm
 have Hp:=a_ hp
 clear hm hp
 go_enter Tryd.func92,Tryd.ntmps92
 go_wp2_with (go_at_call 127;refine (impl_isMade.calls a1 _ _ Hm.out HG.out).mono ?_;rintro e w' ⟨rfl,⟨nd,rfl⟩⟩)
 go_quiet ((go_at_call 128;refine quiet_d (impl_placeOk.calls a2 a3 false _ Hp.out (by (with_reducible repeat (first|exact HG.out|apply Glob.drewN|apply Glob.drew))))))
 go_wp2
 go_ret2
 exact ⟨_,rfl,(fun h=>by cases h),by (with_reducible repeat (first|exact below_box0 w _|apply pw_below_drewN))⟩
theorem changeOf_text (k:Nat) (a0 a1 a2 a3:Int) (a4:ByteArray) (r:Bool) (w:World) (hm:impl_isMade.f a1=some true) (h2:a2=0) (h3:a3=0) (ht:impl_textOk.f k a4=some r) (h0:a0=2) (hG:Glob w) :
  Calls Tryd.prog 92 #[.agg #[.int .i64 a0,.int .i64 a1,.int .i64 a2,.int .i64 a3,.string a4]] w (ChPost w a0 a1 a2 a3 a4 r):=by
 have hGa:Glob (w.alloc (.cells #[.int .i64 a0,.int .i64 a1,.int .i64 a2,.int .i64 a3,.string a4] 42)):=hG.below (below_box0 w _)
 have HG:=a_ hGa
 clear hGa hG
 subst h0 h2 h3
 have Hm:=a_ hm
 have Ht:=a_ ht
 clear hm ht
 go_enter Tryd.func92,Tryd.ntmps92
 go_wp2_with (go_at_call 127;refine (impl_isMade.calls a1 _ _ Hm.out HG.out).mono ?_;rintro e w' ⟨rfl,⟨nd,rfl⟩⟩)
 go_quiet ((go_at_call 129;refine quiet_d (impl_textOk.calls k a4 r _ Ht.out)))
 go_wp2
 go_ret2
 exact ⟨_,rfl,fun _=>rfl,by (with_reducible repeat (first|exact below_box0 w _|apply pw_below_drewN))⟩
theorem changeOf_text_no2 (a0 a1 a2 a3:Int) (a4:ByteArray) (w:World) (hm:impl_isMade.f a1=some true) (h2:a2≠0) (h0:a0=2) (hG:Glob w) :
  Calls Tryd.prog 92 #[.agg #[.int .i64 a0,.int .i64 a1,.int .i64 a2,.int .i64 a3,.string a4]] w (ChPost w a0 a1 a2 a3 a4 false):=by
 have hGa:Glob (w.alloc (.cells #[.int .i64 a0,.int .i64 a1,.int .i64 a2,.int .i64 a3,.string a4] 42)):=hG.below (below_box0 w _)
 have HG:=a_ hGa
 clear hGa hG
 subst h0
 have e2:(a2==0)=false:=beq_eq_false_iff_ne.2 h2
 clear h2
 have Hm:=a_ hm
 clear hm
 go_enter Tryd.func92,Tryd.ntmps92
 go_wp2_with (go_at_call 127;refine (impl_isMade.calls a1 _ _ Hm.out HG.out).mono ?_;rintro e w' ⟨rfl,⟨nd,rfl⟩⟩)
 go_quiet (fail)
 go_wp2
 go_ret2
 exact ⟨_,rfl,(fun h=>by cases h),by (with_reducible repeat (first|exact below_box0 w _|apply pw_below_drewN))⟩
theorem changeOf_text_no3 (a0 a1 a2 a3:Int) (a4:ByteArray) (w:World) (hm:impl_isMade.f a1=some true) (h2:a2=0) (h3:a3≠0) (h0:a0=2) (hG:Glob w) :
  Calls Tryd.prog 92 #[.agg #[.int .i64 a0,.int .i64 a1,.int .i64 a2,.int .i64 a3,.string a4]] w (ChPost w a0 a1 a2 a3 a4 false):=by
 have hGa:Glob (w.alloc (.cells #[.int .i64 a0,.int .i64 a1,.int .i64 a2,.int .i64 a3,.string a4] 42)):=hG.below (below_box0 w _)
 have HG:=a_ hGa
 clear hGa hG
 subst h0 h2
 have e3:(a3==0)=false:=beq_eq_false_iff_ne.2 h3
 clear h3
 have Hm:=a_ hm
 clear hm
 go_enter Tryd.func92,Tryd.ntmps92
 go_wp2_with (go_at_call 127;refine (impl_isMade.calls a1 _ _ Hm.out HG.out).mono ?_;rintro e w' ⟨rfl,⟨nd,rfl⟩⟩)
 go_quiet (fail)
 go_wp2
 go_ret2
 exact ⟨_,rfl,(fun h=>by cases h),by (with_reducible repeat (first|exact below_box0 w _|apply pw_below_drewN))⟩
theorem changeOf_move (a0 a1 a2 a3:Int) (a4:ByteArray) (w:World) (hm:impl_isMade.f a1=some true) (hp:impl_placeOk.f a2 a3=some true) (h0:a0=3) (hG:Glob w) :
  Calls Tryd.prog 92 #[.agg #[.int .i64 a0,.int .i64 a1,.int .i64 a2,.int .i64 a3,.string a4]] w (ChPost w a0 a1 a2 a3 a4 a4.toList.isEmpty):=by
 have hGa:Glob (w.alloc (.cells #[.int .i64 a0,.int .i64 a1,.int .i64 a2,.int .i64 a3,.string a4] 42)):=hG.below (below_box0 w _)
 have HG:=a_ hGa
 clear hGa hG
 subst h0
 have Hm:=a_ hm
 have Hp:=a_ hp
 clear hm hp
 go_enter Tryd.func92,Tryd.ntmps92
 go_wp2_with (go_at_call 127;refine (impl_isMade.calls a1 _ _ Hm.out HG.out).mono ?_;rintro e w' ⟨rfl,⟨nd,rfl⟩⟩)
 go_quiet ((go_at_call 128;refine quiet_d (impl_placeOk.calls a2 a3 true _ Hp.out (by (with_reducible repeat (first|exact HG.out|apply Glob.drewN|apply Glob.drew))))))
 go_wp2
 go_ret2
 exact ⟨_,rfl,fun _=>rfl,by (with_reducible repeat (first|exact below_box0 w _|apply pw_below_drewN))⟩
theorem changeOf_move_no (a0 a1 a2 a3:Int) (a4:ByteArray) (w:World) (hm:impl_isMade.f a1=some true) (hp:impl_placeOk.f a2 a3=some false) (h0:a0=3) (hG:Glob w) :
  Calls Tryd.prog 92 #[.agg #[.int .i64 a0,.int .i64 a1,.int .i64 a2,.int .i64 a3,.string a4]] w (ChPost w a0 a1 a2 a3 a4 false):=by
 have hGa:Glob (w.alloc (.cells #[.int .i64 a0,.int .i64 a1,.int .i64 a2,.int .i64 a3,.string a4] 42)):=hG.below (below_box0 w _)
 have HG:=a_ hGa
 clear hGa hG
 subst h0
 have Hm:=a_ hm
 have Hp:=a_ hp
 clear hm hp
 go_enter Tryd.func92,Tryd.ntmps92
 go_wp2_with (go_at_call 127;refine (impl_isMade.calls a1 _ _ Hm.out HG.out).mono ?_;rintro e w' ⟨rfl,⟨nd,rfl⟩⟩)
 go_quiet ((go_at_call 128;refine quiet_d (impl_placeOk.calls a2 a3 false _ Hp.out (by (with_reducible repeat (first|exact HG.out|apply Glob.drewN|apply Glob.drew))))))
 go_wp2
 go_ret2
 exact ⟨_,rfl,(fun h=>by cases h),by (with_reducible repeat (first|exact below_box0 w _|apply pw_below_drewN))⟩
theorem changeOf_kind (a0 a1 a2 a3:Int) (a4:ByteArray) (w:World) (hm:impl_isMade.f a1=some true) (h1:a0≠1) (h2:a0≠2) (h3:a0≠3) (hG:Glob w) :
  Calls Tryd.prog 92 #[.agg #[.int .i64 a0,.int .i64 a1,.int .i64 a2,.int .i64 a3,.string a4]] w (ChPost w a0 a1 a2 a3 a4 false):=by
 have hGa:Glob (w.alloc (.cells #[.int .i64 a0,.int .i64 a1,.int .i64 a2,.int .i64 a3,.string a4] 42)):=hG.below (below_box0 w _)
 have HG:=a_ hGa
 clear hGa hG
 have e1:(a0==1)=false:=beq_eq_false_iff_ne.2 h1
 have e2:(a0==2)=false:=beq_eq_false_iff_ne.2 h2
 have e3:(a0==3)=false:=beq_eq_false_iff_ne.2 h3
 clear h1 h2 h3
 have Hm:=a_ hm
 clear hm
 go_enter Tryd.func92,Tryd.ntmps92
 go_wp2_with (go_at_call 127;refine (impl_isMade.calls a1 _ _ Hm.out HG.out).mono ?_;rintro e w' ⟨rfl,⟨nd,rfl⟩⟩)
 go_ret2
 exact ⟨_,rfl,(fun h=>by cases h),by (with_reducible repeat (first|exact below_box0 w _|apply pw_below_drewN))⟩
theorem impl_changeOf.calls (k:Nat) (a0 a1 a2 a3:Int) (a4:ByteArray) (r:Bool) (w:World) (h:impl_changeOf.f k a0 a1 a2 a3 a4=some r) (hG:Glob w) :
  Calls Tryd.prog 92 #[.agg #[.int .i64 a0,.int .i64 a1,.int .i64 a2,.int .i64 a3,.string a4]] w (ChPost w a0 a1 a2 a3 a4 r):=by
 unfold impl_changeOf.f at h
 obtain ⟨m,hm,h⟩:=Option.bind_eq_some_iff.1 h
 cases m with
 | false =>
  simp only [Bool.false_eq_true,if_false,Option.some.injEq] at h
  subst h
  exact changeOf_unmade a0 a1 a2 a3 a4 w hm hG
 | true =>
  simp only [if_true] at h
  by_cases h1:a0=1
  ·rw [if_pos h1] at h
   obtain ⟨p,hp,h⟩:=Option.bind_eq_some_iff.1 h
   cases p with
   | false =>
    simp only [Bool.false_eq_true,if_false,Option.some.injEq] at h
    subst h
    exact changeOf_make_no a0 a1 a2 a3 a4 w hm hp h1 hG
   | true =>
    simp only [if_true] at h
    exact changeOf_make k a0 a1 a2 a3 a4 r w hm hp h h1 hG
  ·rw [if_neg h1] at h
   by_cases h2:a0=2
   ·rw [if_pos h2] at h
    by_cases g2:a2=0
    ·rw [if_pos g2] at h
     by_cases g3:a3=0
     ·rw [if_pos g3] at h
      exact changeOf_text k a0 a1 a2 a3 a4 r w hm g2 g3 h h2 hG
     ·rw [if_neg g3] at h
      simp only [Option.some.injEq] at h
      subst h
      exact changeOf_text_no3 a0 a1 a2 a3 a4 w hm g2 g3 h2 hG
    ·rw [if_neg g2] at h
     simp only [Option.some.injEq] at h
     subst h
     exact changeOf_text_no2 a0 a1 a2 a3 a4 w hm g2 h2 hG
   ·rw [if_neg h2] at h
    by_cases h3:a0=3
    ·rw [if_pos h3] at h
     obtain ⟨p,hp,h⟩:=Option.bind_eq_some_iff.1 h
     cases p with
     | false =>
      simp only [Bool.false_eq_true,if_false,Option.some.injEq] at h
      subst h
      exact changeOf_move_no a0 a1 a2 a3 a4 w hm hp h3 hG
     | true =>
      simp only [if_true,Option.some.injEq] at h
      subst h
      exact changeOf_move a0 a1 a2 a3 a4 w hm hp h3 hG
    ·rw [if_neg h3] at h
     simp only [Option.some.injEq] at h
     subst h
     exact changeOf_kind a0 a1 a2 a3 a4 w hm h1 h2 h3 hG
def impl_OpOk.f (k:Nat) (a0 a1 a2 a3:Int) (a4:ByteArray):Option Bool:=impl_changeOf.f k a0 a1 a2 a3 a4
theorem impl_OpOk.calls (k:Nat) (a0_0 a0_1 a0_2 a0_3:Int) (a0_4:ByteArray) (r:Bool) (w:World) (h:impl_OpOk.f k a0_0 a0_1 a0_2 a0_3 a0_4=some r) (hG:Glob w) :
  Calls Tryd.prog 116 #[.agg #[.int .i64 a0_0,.int .i64 a0_1,.int .i64 a0_2,.int .i64 a0_3,.string a0_4]] w fun e w'=>e=.returned (.bool r)∧Below w.heap.size w w':=by
 have hGa:Glob (w.alloc (.cells #[.int .i64 a0_0,.int .i64 a0_1,.int .i64 a0_2,.int .i64 a0_3,.string a0_4] 42)):=hG.below (below_box0 w _)
 have HG:=a_ hGa
 have HH:=a_ h
 clear hGa hG h
 have hu:=Tryd.underlying42
 go_enter Tryd.func116,Tryd.ntmps116
 go_wp2_with (go_at_call 92;refine (impl_changeOf.calls k a0_0 a0_1 a0_2 a0_3 a0_4 r _ HH.out HG.out).mono ?_;rintro e w1 ⟨v,rfl,_,hb⟩;have HB:=a_ hb;clear hb)
 go_ret
 exact ⟨rfl,(below_box0 w _).trans (HB.out.mono (by simp))⟩
end Go.Proofs.YtdpklbomhdpimaaDoor.P
namespace Go.Proofs.YtdpklbomhdpimaaDoor.P
open Go.RowKit Go.Proofs.YtdpklbomhdpimaaDoorW.PrintWords Go.Proofs.YtdpklbomhdpimaaDoorW.PrintLast
def impl_EntryOk.f (k:Nat) (a0_0:Int) (a0_1:Int) (a0_2:Int) (a0_3:Int) (a0_4:Int) (a0_5:Int) (a0_6:ByteArray):Option (Bool):=(impl_whoOk.f a0_0).bind fun t405=>(if t405=true then (if a0_1 < 1 then (some false) else (if a0_1 > 40 then (some false) else ((impl_OpOk.f k a0_2 a0_3 a0_4 a0_5 a0_6).bind fun t406=>(if t406=true then ((impl_RowWho.f a0_3).bind fun bt407=>(if a0_2=1 then (some (bt407.1==a0_0)) else (some true))) else (some false))))) else (some false))
theorem impl_EntryOk.calls (k:Nat) (a0_0:Int) (a0_1:Int) (a0_2:Int) (a0_3:Int) (a0_4:Int) (a0_5:Int) (a0_6:ByteArray) (r:Bool) (w:World) (h:impl_EntryOk.f k a0_0 a0_1 a0_2 a0_3 a0_4 a0_5 a0_6=some r) (hG:Glob w) :
  Calls Tryd.prog 78 #[.agg #[.int .i64 a0_0,.int .i64 a0_1,.int .i64 a0_2,.int .i64 a0_3,.int .i64 a0_4,.int .i64 a0_5,.string a0_6]] w fun e w'=>e=.returned (.bool r)∧Below w.heap.size w w':=by
 have hu44:=Tryd.underlying44
 have hu42:=Tryd.underlying42
 have HB:=a_ (Below.refl w.heap.size w)
 have HG:=a_ hG
 clear hG
 unfold impl_EntryOk.f at h
 have H:=h
 clear h
 replace H:=bs_ H
 obtain ⟨t405,A20,H⟩:=H
 try dsimp only at H
 have A2:=a_ A20
 clear A20
 by_cases c3:t405=true
 ·subst c3
  have H1:(if a0_1 < 1 then (some false) else (if a0_1 > 40 then (some false) else ((impl_OpOk.f k a0_2 a0_3 a0_4 a0_5 a0_6).bind fun t406=>(if t406=true then ((impl_RowWho.f a0_3).bind fun bt407=>(if a0_2=1 then (some (bt407.1==a0_0)) else (some true))) else (some false)))))=some r:=by rw [if_pos rfl] at H;exact H
  clear H
  have H:=H1
  clear H1
  by_cases c4:a0_1 < 1
  ·rw [if_pos c4] at H
   have c4b0:decide (a0_1 < 1)=true:=dt_ c4
   clear c4
   obtain rfl:=sj_ H
   go_enter Tryd.func78,Tryd.ntmps78
   go_wp2_with (first|((with_reducible refine gD_ (N:=1) rfl ?_);refine bx_ 1 (#[.int .i64 a0_0,.int .i64 a0_1,.int .i64 a0_2,.int .i64 a0_3,.int .i64 a0_4,.int .i64 a0_5,.string a0_6]) 44 ?_;intro gb404 hg w5 hbox hb;have n0_:=a_ (bS_ (bel_) hb);have n1_:=a_ (hbox);have n2_:=a_ ((by rw [hg];exact (below_size (bel_)):w.heap.size≤gb404));have n3_:=a_ ((by rw [hg];exact (below_size (bel_)):w.heap.size≤gb404));clear HB;have HB:=n0_;have BK404:=n1_;have GW404:=n2_;have GE404:=n3_;clear n0_ n1_ n2_ n3_;clear hb hbox hg;obtain ⟨Z6_0,Z6_1,Z6_2,Z6_3,Z6_4,Z6_5,Z6_6,Y6_0,Y6_1,Y6_2,Y6_3,Y6_4,Y6_5,Y6_6⟩:=op7_ BK404.out)|((with_reducible refine gC_ (f:=104) rfl ?_);refine gl_ 7 Tryd.func104 #[.int .i64 a0_0] ?_;(with_reducible refine (impl_whoOk.calls a0_0 true _ A2.out).mono ?_);rintro e w' ⟨rfl,⟨nd,rfl⟩⟩;refine ⟨_,rfl,?_⟩))
   go_ret
   exact ⟨fi_,bel_⟩
  ·rw [if_neg c4] at H
   have c4b0:decide (a0_1 < 1)=false:=df_ c4
   clear c4
   by_cases c7:a0_1 > 40
   ·rw [if_pos c7] at H
    have c7b0:decide (40 < a0_1)=true:=dt_ c7
    clear c7
    obtain rfl:=sj_ H
    go_enter Tryd.func78,Tryd.ntmps78
    go_wp2_with (first|((with_reducible refine gD_ (N:=1) rfl ?_);refine bx_ 1 (#[.int .i64 a0_0,.int .i64 a0_1,.int .i64 a0_2,.int .i64 a0_3,.int .i64 a0_4,.int .i64 a0_5,.string a0_6]) 44 ?_;intro gb404 hg w8 hbox hb;have n0_:=a_ (bS_ (bel_) hb);have n1_:=a_ (hbox);have n2_:=a_ ((by rw [hg];exact (below_size (bel_)):w.heap.size≤gb404));have n3_:=a_ ((by rw [hg];exact (below_size (bel_)):w.heap.size≤gb404));clear HB;have HB:=n0_;have BK404:=n1_;have GW404:=n2_;have GE404:=n3_;clear n0_ n1_ n2_ n3_;clear hb hbox hg;obtain ⟨Z9_0,Z9_1,Z9_2,Z9_3,Z9_4,Z9_5,Z9_6,Y9_0,Y9_1,Y9_2,Y9_3,Y9_4,Y9_5,Y9_6⟩:=op7_ BK404.out)|((with_reducible refine gC_ (f:=104) rfl ?_);refine gl_ 7 Tryd.func104 #[.int .i64 a0_0] ?_;(with_reducible refine (impl_whoOk.calls a0_0 true _ A2.out).mono ?_);rintro e w' ⟨rfl,⟨nd,rfl⟩⟩;refine ⟨_,rfl,?_⟩))
    go_ret
    exact ⟨fi_,bel_⟩
   ·rw [if_neg c7] at H
    have c7b0:decide (40 < a0_1)=false:=df_ c7
    clear c7
    replace H:=bs_ H
    obtain ⟨t406,A100,H⟩:=H
    try dsimp only at H
    have A10:=a_ A100
    clear A100
    by_cases c11:t406=true
    ·subst c11
     have H1:((impl_RowWho.f a0_3).bind fun bt407=>(if a0_2=1 then (some (bt407.1==a0_0)) else (some true)))=some r:=by rw [if_pos rfl] at H;exact H
     clear H
     have H:=H1
     clear H1
     replace H:=bs_ H
     obtain ⟨⟨t407,t408⟩,A120,H⟩:=H
     try dsimp only at H
     have A12:=a_ A120
     clear A120
     by_cases c13:a0_2=1
     ·rw [if_pos c13] at H
      have c13b0:(a0_2==1)=true:=beq_iff_eq.mpr c13
      have c13b1:(a0_2 != 1)=false:=be_ c13
      clear c13
      obtain rfl:=sj_ H
      go_enter Tryd.func78,Tryd.ntmps78
      go_wp2_with (first|((with_reducible refine gD_ (N:=1) rfl ?_);refine bx_ 1 (#[.int .i64 a0_0,.int .i64 a0_1,.int .i64 a0_2,.int .i64 a0_3,.int .i64 a0_4,.int .i64 a0_5,.string a0_6]) 44 ?_;intro gb404 hg w14 hbox hb;have n0_:=a_ (bS_ (bel_) hb);have n1_:=a_ (hbox);have n2_:=a_ ((by rw [hg];exact (below_size (bel_)):w.heap.size≤gb404));have n3_:=a_ ((by rw [hg];exact (below_size (bel_)):w.heap.size≤gb404));clear HB;have HB:=n0_;have BK404:=n1_;have GW404:=n2_;have GE404:=n3_;clear n0_ n1_ n2_ n3_;clear hb hbox hg;obtain ⟨Z15_0,Z15_1,Z15_2,Z15_3,Z15_4,Z15_5,Z15_6,Y15_0,Y15_1,Y15_2,Y15_3,Y15_4,Y15_5,Y15_6⟩:=op7_ BK404.out)|((with_reducible refine gC_ (f:=104) rfl ?_);refine gl_ 7 Tryd.func104 #[.int .i64 a0_0] ?_;(with_reducible refine (impl_whoOk.calls a0_0 true _ A2.out).mono ?_);rintro e w' ⟨rfl,⟨nd,rfl⟩⟩;refine ⟨_,rfl,?_⟩)|(go_at_call 116;(with_reducible refine (impl_OpOk.calls k a0_2 a0_3 a0_4 a0_5 a0_6 true _ A10.out ?side1).mono ?_);(case side1=>exact Glob.below HG.out (bel_));rintro e w16 ⟨rfl,hb⟩;replace HB:=a_ (bS_ (bel_) hb);replace BK404:=a_ (bb_ BK404.out hb);(try clear hb);obtain ⟨Z17_0,Z17_1,Z17_2,Z17_3,Z17_4,Z17_5,Z17_6,Y17_0,Y17_1,Y17_2,Y17_3,Y17_4,Y17_5,Y17_6⟩:=op7_ BK404.out)|((with_reducible refine gC_ (f:=117) rfl ?_);refine gl_ 29 Tryd.func117 #[.int .i64 a0_3] ?_;(with_reducible refine (impl_RowWho.calls a0_3 t407 t408 _ A12.out ?side1).mono ?_);(case side1=>exact Glob.below HG.out (bel_));rintro e w' ⟨rfl,⟨nd,rfl⟩⟩;refine ⟨_,rfl,?_⟩))
      go_ret
      exact ⟨fi_,bel_⟩
     ·rw [if_neg c13] at H
      have c13b0:(a0_2==1)=false:=bn_ c13
      have c13b1:(a0_2 != 1)=true:=bne_iff_ne.mpr c13
      obtain rfl:=sj_ H
      go_enter Tryd.func78,Tryd.ntmps78
      go_wp2_with (first|((with_reducible refine gD_ (N:=1) rfl ?_);refine bx_ 1 (#[.int .i64 a0_0,.int .i64 a0_1,.int .i64 a0_2,.int .i64 a0_3,.int .i64 a0_4,.int .i64 a0_5,.string a0_6]) 44 ?_;intro gb404 hg w18 hbox hb;have n0_:=a_ (bS_ (bel_) hb);have n1_:=a_ (hbox);have n2_:=a_ ((by rw [hg];exact (below_size (bel_)):w.heap.size≤gb404));have n3_:=a_ ((by rw [hg];exact (below_size (bel_)):w.heap.size≤gb404));clear HB;have HB:=n0_;have BK404:=n1_;have GW404:=n2_;have GE404:=n3_;clear n0_ n1_ n2_ n3_;clear hb hbox hg;obtain ⟨Z19_0,Z19_1,Z19_2,Z19_3,Z19_4,Z19_5,Z19_6,Y19_0,Y19_1,Y19_2,Y19_3,Y19_4,Y19_5,Y19_6⟩:=op7_ BK404.out)|((with_reducible refine gC_ (f:=104) rfl ?_);refine gl_ 7 Tryd.func104 #[.int .i64 a0_0] ?_;(with_reducible refine (impl_whoOk.calls a0_0 true _ A2.out).mono ?_);rintro e w' ⟨rfl,⟨nd,rfl⟩⟩;refine ⟨_,rfl,?_⟩)|(go_at_call 116;(with_reducible refine (impl_OpOk.calls k a0_2 a0_3 a0_4 a0_5 a0_6 true _ A10.out ?side1).mono ?_);(case side1=>exact Glob.below HG.out (bel_));rintro e w20 ⟨rfl,hb⟩;replace HB:=a_ (bS_ (bel_) hb);replace BK404:=a_ (bb_ BK404.out hb);(try clear hb);obtain ⟨Z21_0,Z21_1,Z21_2,Z21_3,Z21_4,Z21_5,Z21_6,Y21_0,Y21_1,Y21_2,Y21_3,Y21_4,Y21_5,Y21_6⟩:=op7_ BK404.out)|((with_reducible refine gC_ (f:=117) rfl ?_);refine gl_ 29 Tryd.func117 #[.int .i64 a0_3] ?_;(with_reducible refine (impl_RowWho.calls a0_3 t407 t408 _ A12.out ?side1).mono ?_);(case side1=>exact Glob.below HG.out (bel_));rintro e w' ⟨rfl,⟨nd,rfl⟩⟩;refine ⟨_,rfl,?_⟩))
      go_ret
      exact ⟨fi_,bel_⟩
    ·replace c11:=Bool.eq_false_iff.mpr c11
     subst c11
     have H1:(some false)=some r:=by rw [if_neg (show ¬ (false=true) by decide)] at H;exact H
     clear H
     have H:=H1
     clear H1
     obtain rfl:=sj_ H
     go_enter Tryd.func78,Tryd.ntmps78
     go_wp2_with (first|((with_reducible refine gD_ (N:=1) rfl ?_);refine bx_ 1 (#[.int .i64 a0_0,.int .i64 a0_1,.int .i64 a0_2,.int .i64 a0_3,.int .i64 a0_4,.int .i64 a0_5,.string a0_6]) 44 ?_;intro gb404 hg w22 hbox hb;have n0_:=a_ (bS_ (bel_) hb);have n1_:=a_ (hbox);have n2_:=a_ ((by rw [hg];exact (below_size (bel_)):w.heap.size≤gb404));have n3_:=a_ ((by rw [hg];exact (below_size (bel_)):w.heap.size≤gb404));clear HB;have HB:=n0_;have BK404:=n1_;have GW404:=n2_;have GE404:=n3_;clear n0_ n1_ n2_ n3_;clear hb hbox hg;obtain ⟨Z23_0,Z23_1,Z23_2,Z23_3,Z23_4,Z23_5,Z23_6,Y23_0,Y23_1,Y23_2,Y23_3,Y23_4,Y23_5,Y23_6⟩:=op7_ BK404.out)|((with_reducible refine gC_ (f:=104) rfl ?_);refine gl_ 7 Tryd.func104 #[.int .i64 a0_0] ?_;(with_reducible refine (impl_whoOk.calls a0_0 true _ A2.out).mono ?_);rintro e w' ⟨rfl,⟨nd,rfl⟩⟩;refine ⟨_,rfl,?_⟩)|(go_at_call 116;(with_reducible refine (impl_OpOk.calls k a0_2 a0_3 a0_4 a0_5 a0_6 false _ A10.out ?side1).mono ?_);(case side1=>exact Glob.below HG.out (bel_));rintro e w24 ⟨rfl,hb⟩;replace HB:=a_ (bS_ (bel_) hb);replace BK404:=a_ (bb_ BK404.out hb);(try clear hb)))
     go_ret
     exact ⟨fi_,bel_⟩
 ·replace c3:=Bool.eq_false_iff.mpr c3
  subst c3
  have H1:(some false)=some r:=by rw [if_neg (show ¬ (false=true) by decide)] at H;exact H
  clear H
  have H:=H1
  clear H1
  obtain rfl:=sj_ H
  go_enter Tryd.func78,Tryd.ntmps78
  go_wp2_with (first|((with_reducible refine gD_ (N:=1) rfl ?_);refine bx_ 1 (#[.int .i64 a0_0,.int .i64 a0_1,.int .i64 a0_2,.int .i64 a0_3,.int .i64 a0_4,.int .i64 a0_5,.string a0_6]) 44 ?_;intro gb404 hg w25 hbox hb;have n0_:=a_ (bS_ (bel_) hb);have n1_:=a_ (hbox);have n2_:=a_ ((by rw [hg];exact (below_size (bel_)):w.heap.size≤gb404));have n3_:=a_ ((by rw [hg];exact (below_size (bel_)):w.heap.size≤gb404));clear HB;have HB:=n0_;have BK404:=n1_;have GW404:=n2_;have GE404:=n3_;clear n0_ n1_ n2_ n3_;clear hb hbox hg;obtain ⟨Z26_0,Z26_1,Z26_2,Z26_3,Z26_4,Z26_5,Z26_6,Y26_0,Y26_1,Y26_2,Y26_3,Y26_4,Y26_5,Y26_6⟩:=op7_ BK404.out)|((with_reducible refine gC_ (f:=104) rfl ?_);refine gl_ 7 Tryd.func104 #[.int .i64 a0_0] ?_;(with_reducible refine (impl_whoOk.calls a0_0 false _ A2.out).mono ?_);rintro e w' ⟨rfl,⟨nd,rfl⟩⟩;refine ⟨_,rfl,?_⟩))
  go_ret
  exact ⟨fi_,bel_⟩


def spec_l1Root.f (a0:Int):Option (Bool):=(spec_l6In.f a0 1 3).bind fun t411=>(some t411)
theorem spec_l1Root.calls (a0:Int) (r:Bool) (w:World) (h:spec_l1Root.f a0=some r) :
  Calls Tryd.prog 141 #[.int .i64 a0] w fun e w'=>e=.returned (.bool r)∧Drawn0 w w':=by
 unfold spec_l1Root.f at h
 have H:=h
 clear h
 replace H:=bs_ H
 obtain ⟨t411,A20,H⟩:=H
 try dsimp only at H
 have A2:=a_ A20
 clear A20
 obtain rfl:=sj_ H
 go_enter Tryd.func141,Tryd.ntmps141
 go_wp2_with (first|((with_reducible refine gC_ (f:=75) rfl ?_);refine gl_ 4 Tryd.func75 #[.int .i64 a0,.int .i64 1,.int .i64 3] ?_;(with_reducible refine (spec_l6In.calls a0 1 3 t411 _ A2.out).mono ?_);rintro e w' ⟨rfl,⟨nd,rfl⟩⟩;refine ⟨_,rfl,?_⟩))
 go_ret
 exact ⟨si_,by repeat (first|exact Drawn0.refl _|apply Drawn0.step)⟩

def spec_l3Id.f (a0:Int):Option (Bool):=(spec_l1Root.f a0).bind fun t412=>(if t412=true then (some true) else ((spec_l1Made.f a0).bind fun t413=>(some t413)))
theorem spec_l3Id.calls (a0:Int) (r:Bool) (w:World) (h:spec_l3Id.f a0=some r) :
  Calls Tryd.prog 122 #[.int .i64 a0] w fun e w'=>e=.returned (.bool r)∧Drawn0 w w':=by
 unfold spec_l3Id.f at h
 have H:=h
 clear h
 replace H:=bs_ H
 obtain ⟨t412,A20,H⟩:=H
 try dsimp only at H
 have A2:=a_ A20
 clear A20
 by_cases c3:t412=true
 ·subst c3
  have H1:(some true)=some r:=by rw [if_pos rfl] at H;exact H
  clear H
  have H:=H1
  clear H1
  obtain rfl:=sj_ H
  go_enter Tryd.func122,Tryd.ntmps122
  go_wp2_with (first|((with_reducible refine gC_ (f:=141) rfl ?_);refine gl_ 4 Tryd.func141 #[.int .i64 a0] ?_;(with_reducible refine (spec_l1Root.calls a0 true _ A2.out).mono ?_);rintro e w' ⟨rfl,⟨nd,rfl⟩⟩;refine ⟨_,rfl,?_⟩))
  go_ret
  exact ⟨si_,by repeat (first|exact Drawn0.refl _|apply Drawn0.step)⟩
 ·replace c3:=Bool.eq_false_iff.mpr c3
  subst c3
  have H1:((spec_l1Made.f a0).bind fun t413=>(some t413))=some r:=by rw [if_neg (show ¬ (false=true) by decide)] at H;exact H
  clear H
  have H:=H1
  clear H1
  replace H:=bs_ H
  obtain ⟨t413,A40,H⟩:=H
  try dsimp only at H
  have A4:=a_ A40
  clear A40
  obtain rfl:=sj_ H
  go_enter Tryd.func122,Tryd.ntmps122
  go_wp2_with (first|((with_reducible refine gC_ (f:=141) rfl ?_);refine gl_ 4 Tryd.func141 #[.int .i64 a0] ?_;(with_reducible refine (spec_l1Root.calls a0 false _ A2.out).mono ?_);rintro e w' ⟨rfl,⟨nd,rfl⟩⟩;refine ⟨_,rfl,?_⟩)|(go_at_call 120;(with_reducible refine (spec_l1Made.calls a0 t413 _ A4.out).mono ?_);rintro e w' ⟨rfl,⟨nd,rfl⟩⟩))
  go_ret
  exact ⟨si_,by repeat (first|exact Drawn0.refl _|apply Drawn0.step)⟩

def spec_OpOk.j0:Nat→Bool→Int→Int→Int→Int→ByteArray→Option (Bool)
 | 0,_,_,_,_,_,_=>none
 | k+1,x12,x415000,x415001,x415002,x415003,x415004=>if x12=true then (some false) else (if x415000=1 then ((spec_l3Id.f x415002).bind fun t417=>(if t417=true then (if x415003=0 then (some true) else ((spec_l1Made.f x415003).bind fun t418=>(some t418))) else (some false))) else (if x415000=2 then (if x415002=0 then (some (x415003==0)) else (some false)) else (if x415000=3 then ((spec_l3Id.f x415002).bind fun t419=>(if t419=true then (if x415003=0 then (some (x415004.toList==([]:List UInt8))) else ((spec_l1Made.f x415003).bind fun t420=>(if t420=true then (some (x415004.toList==([]:List UInt8))) else (some false)))) else (some false))) else (some false))))
def spec_OpOk.f (k:Nat) (a0_0:Int) (a0_1:Int) (a0_2:Int) (a0_3:Int) (a0_4:ByteArray):Option (Bool):=(spec_l1Made.f a0_1).bind fun t415=>(if t415=true then ((spec_l1Text.f k a0_4).bind fun t416=>(spec_OpOk.j0 k (!t416) a0_0 a0_1 a0_2 a0_3 a0_4)) else (spec_OpOk.j0 k true a0_0 a0_1 a0_2 a0_3 a0_4))
theorem spec_OpOk.calls (k:Nat) (a0_0:Int) (a0_1:Int) (a0_2:Int) (a0_3:Int) (a0_4:ByteArray) (r:Bool) (w:World) (h:spec_OpOk.f k a0_0 a0_1 a0_2 a0_3 a0_4=some r) :
  Calls Tryd.prog 84 #[.agg #[.int .i64 a0_0,.int .i64 a0_1,.int .i64 a0_2,.int .i64 a0_3,.string a0_4]] w fun e w'=>e=.returned (.bool r)∧Below w.heap.size w w':=by
 have hu42:=Tryd.underlying42
 have HB:=a_ (Below.refl w.heap.size w)
 unfold spec_OpOk.f at h
 have H:=h
 clear h
 have HC2:=a_ H
 clear H
 go_enter Tryd.func84,Tryd.ntmps84
 go_upto_region 1 with (first|((with_reducible refine gD_ (N:=1) rfl ?_);refine bx_ 1 (#[.int .i64 a0_0,.int .i64 a0_1,.int .i64 a0_2,.int .i64 a0_3,.string a0_4]) 42 ?_;intro gb414 hg w3 hbox hb;have n0_:=a_ (bS_ (bel_) hb);have n1_:=a_ (hbox);have n2_:=a_ ((by rw [hg];exact (below_size (bel_)):w.heap.size≤gb414));have n3_:=a_ ((by rw [hg];exact (below_size (bel_)):w.heap.size≤gb414));clear HB;have HB:=n0_;have BK414:=n1_;have GW414:=n2_;have GE414:=n3_;clear n0_ n1_ n2_ n3_;clear hb hbox hg))
 (try simp only [Act.put,List.setIfInBounds_toArray,List.set_cons_zero,List.set_cons_succ])
 go_cut [12] (fun v12 wc=>∃ (kq:Nat) (x12_1:Bool),v12=.bool x12_1∧Aside0 (spec_OpOk.j0 kq x12_1 a0_0 a0_1 a0_2 a0_3 a0_4=some r)∧Aside0 (kq≤k)∧Aside0 (wc.heap[gb414]?=some (.cells #[.int .i64 a0_0,.int .i64 a0_1,.int .i64 a0_2,.int .i64 a0_3,.string a0_4] 42 (0,0)))∧Aside0 (Below w.heap.size w wc))
 case first =>
  have H:=HC2.out
  clear HC2
  replace H:=bs_ H
  obtain ⟨t415,A40,H⟩:=H
  try dsimp only at H
  have A4:=a_ A40
  clear A40
  by_cases c5:t415=true
  ·subst c5
   have H1:((spec_l1Text.f k a0_4).bind fun t416=>(spec_OpOk.j0 k (!t416) a0_0 a0_1 a0_2 a0_3 a0_4))=some r:=by rw [if_pos rfl] at H;exact H
   clear H
   have H:=H1
   clear H1
   replace H:=bs_ H
   obtain ⟨t416,A60,H⟩:=H
   try dsimp only at H
   have A6:=a_ A60
   clear A60
   have H':=a_ H
   clear H
   obtain ⟨Z7_0,Z7_1,Z7_2,Z7_3,Z7_4,Y7_0,Y7_1,Y7_2,Y7_3,Y7_4⟩:=op5_ BK414.out
   go_wp2_with (first|((with_reducible refine gC_ (f:=120) rfl ?_);refine gl_ 5 Tryd.func120 #[.int .i64 a0_1] ?_;(with_reducible refine (spec_l1Made.calls a0_1 true _ A4.out).mono ?_);rintro e w' ⟨rfl,⟨nd,rfl⟩⟩;refine ⟨_,rfl,?_⟩)|(go_at_call 121;(with_reducible refine (spec_l1Text.calls k a0_4 t416 _ A6.out).mono ?_);rintro e w' ⟨rfl,⟨nd,rfl⟩⟩))
   go_meet
   case rel=>exact ⟨_,(!t416),(si_),H',⟨by first|omega|exact Nat.le_refl _⟩,⟨bp_ BK414.out⟩,⟨bel_⟩⟩
  ·replace c5:=Bool.eq_false_iff.mpr c5
   subst c5
   have H1:(spec_OpOk.j0 k true a0_0 a0_1 a0_2 a0_3 a0_4)=some r:=by rw [if_neg (show ¬ (false=true) by decide)] at H;exact H
   clear H
   have H:=H1
   clear H1
   have H':=a_ H
   clear H
   obtain ⟨Z8_0,Z8_1,Z8_2,Z8_3,Z8_4,Y8_0,Y8_1,Y8_2,Y8_3,Y8_4⟩:=op5_ BK414.out
   go_wp2_with (first|((with_reducible refine gC_ (f:=120) rfl ?_);refine gl_ 5 Tryd.func120 #[.int .i64 a0_1] ?_;(with_reducible refine (spec_l1Made.calls a0_1 false _ A4.out).mono ?_);rintro e w' ⟨rfl,⟨nd,rfl⟩⟩;refine ⟨_,rfl,?_⟩))
   go_meet
   case rel=>exact ⟨_,(true),(si_),H',⟨by first|omega|exact Nat.le_refl _⟩,⟨bp_ BK414.out⟩,⟨bel_⟩⟩
 case rest =>
  clear HC2
  try clear c1
  try clear p2
  try clear c5
  try clear c8
  try clear Z7_0 Z7_1 Z7_2 Z7_3 Z7_4 Y7_0 Y7_1 Y7_2 Y7_3 Y7_4
  try clear Z8_0 Z8_1 Z8_2 Z8_3 Z8_4 Y8_0 Y8_1 Y8_2 Y8_3 Y8_4
  obtain ⟨kq,x12_1,rfl,HA,HJ1,BK414,HB⟩:=hcut
  cases kq with
  | zero=>exact absurd HA.out (by simp [spec_OpOk.j0])
  | succ kj1 =>
   have H:=HA.out
   clear HA
   simp only [spec_OpOk.j0] at H
   by_cases c9:x12_1=true
   ·subst c9
    have H1:(some false)=some r:=by rw [if_pos rfl] at H;exact H
    clear H
    have H:=H1
    clear H1
    obtain rfl:=sj_ H
    go_wp2
    go_ret
    exact ⟨fi_,bel_⟩
   ·replace c9:=Bool.eq_false_iff.mpr c9
    subst c9
    have H1:(if a0_0=1 then ((spec_l3Id.f a0_2).bind fun t417=>(if t417=true then (if a0_3=0 then (some true) else ((spec_l1Made.f a0_3).bind fun t418=>(some t418))) else (some false))) else (if a0_0=2 then (if a0_2=0 then (some (a0_3==0)) else (some false)) else (if a0_0=3 then ((spec_l3Id.f a0_2).bind fun t419=>(if t419=true then (if a0_3=0 then (some (a0_4.toList==([]:List UInt8))) else ((spec_l1Made.f a0_3).bind fun t420=>(if t420=true then (some (a0_4.toList==([]:List UInt8))) else (some false)))) else (some false))) else (some false))))=some r:=by rw [if_neg (show ¬ (false=true) by decide)] at H;exact H
    clear H
    have H:=H1
    clear H1
    by_cases c10:a0_0=1
    ·rw [if_pos c10] at H
     have c10b0:(a0_0==1)=true:=beq_iff_eq.mpr c10
     have c10b1:(a0_0 != 1)=false:=be_ c10
     clear c10
     replace H:=bs_ H
     obtain ⟨t417,A110,H⟩:=H
     try dsimp only at H
     have A11:=a_ A110
     clear A110
     by_cases c12:t417=true
     ·subst c12
      have H1:(if a0_3=0 then (some true) else ((spec_l1Made.f a0_3).bind fun t418=>(some t418)))=some r:=by rw [if_pos rfl] at H;exact H
      clear H
      have H:=H1
      clear H1
      by_cases c13:a0_3=0
      ·rw [if_pos c13] at H
       have c13b0:(a0_3==0)=true:=beq_iff_eq.mpr c13
       have c13b1:(a0_3 != 0)=false:=be_ c13
       clear c13
       obtain rfl:=sj_ H
       obtain ⟨Z14_0,Z14_1,Z14_2,Z14_3,Z14_4,Y14_0,Y14_1,Y14_2,Y14_3,Y14_4⟩:=op5_ (W:=wc) BK414.out
       go_wp2_with (first|((with_reducible refine gC_ (f:=122) rfl ?_);refine gl_ 19 Tryd.func122 #[.int .i64 a0_2] ?_;(with_reducible refine (spec_l3Id.calls a0_2 true _ A11.out).mono ?_);rintro e w' ⟨rfl,⟨nd,rfl⟩⟩;refine ⟨_,rfl,?_⟩))
       go_ret
       exact ⟨fi_,bel_⟩
      ·rw [if_neg c13] at H
       have c13b0:(a0_3==0)=false:=bn_ c13
       have c13b1:(a0_3 != 0)=true:=bne_iff_ne.mpr c13
       replace H:=bs_ H
       obtain ⟨t418,A150,H⟩:=H
       try dsimp only at H
       have A15:=a_ A150
       clear A150
       obtain rfl:=sj_ H
       obtain ⟨Z16_0,Z16_1,Z16_2,Z16_3,Z16_4,Y16_0,Y16_1,Y16_2,Y16_3,Y16_4⟩:=op5_ (W:=wc) BK414.out
       go_wp2_with (first|((with_reducible refine gC_ (f:=122) rfl ?_);refine gl_ 19 Tryd.func122 #[.int .i64 a0_2] ?_;(with_reducible refine (spec_l3Id.calls a0_2 true _ A11.out).mono ?_);rintro e w' ⟨rfl,⟨nd,rfl⟩⟩;refine ⟨_,rfl,?_⟩)|(go_at_call 120;(with_reducible refine (spec_l1Made.calls a0_3 t418 _ A15.out).mono ?_);rintro e w' ⟨rfl,⟨nd,rfl⟩⟩))
       go_ret
       exact ⟨fi_,bel_⟩
     ·replace c12:=Bool.eq_false_iff.mpr c12
      subst c12
      have H1:(some false)=some r:=by rw [if_neg (show ¬ (false=true) by decide)] at H;exact H
      clear H
      have H:=H1
      clear H1
      obtain rfl:=sj_ H
      obtain ⟨Z17_0,Z17_1,Z17_2,Z17_3,Z17_4,Y17_0,Y17_1,Y17_2,Y17_3,Y17_4⟩:=op5_ (W:=wc) BK414.out
      go_wp2_with (first|((with_reducible refine gC_ (f:=122) rfl ?_);refine gl_ 19 Tryd.func122 #[.int .i64 a0_2] ?_;(with_reducible refine (spec_l3Id.calls a0_2 false _ A11.out).mono ?_);rintro e w' ⟨rfl,⟨nd,rfl⟩⟩;refine ⟨_,rfl,?_⟩))
      go_ret
      exact ⟨fi_,bel_⟩
    ·rw [if_neg c10] at H
     have c10b0:(a0_0==1)=false:=bn_ c10
     have c10b1:(a0_0 != 1)=true:=bne_iff_ne.mpr c10
     by_cases c18:a0_0=2
     ·rw [if_pos c18] at H
      have c18b0:(a0_0==2)=true:=beq_iff_eq.mpr c18
      have c18b1:(a0_0 != 2)=false:=be_ c18
      clear c18
      by_cases c19:a0_2=0
      ·rw [if_pos c19] at H
       have c19b0:(a0_2==0)=true:=beq_iff_eq.mpr c19
       have c19b1:(a0_2 != 0)=false:=be_ c19
       clear c19
       obtain rfl:=sj_ H
       obtain ⟨Z20_0,Z20_1,Z20_2,Z20_3,Z20_4,Y20_0,Y20_1,Y20_2,Y20_3,Y20_4⟩:=op5_ (W:=wc) BK414.out
       go_wp2
       go_ret
       exact ⟨fi_,bel_⟩
      ·rw [if_neg c19] at H
       have c19b0:(a0_2==0)=false:=bn_ c19
       have c19b1:(a0_2 != 0)=true:=bne_iff_ne.mpr c19
       obtain rfl:=sj_ H
       obtain ⟨Z21_0,Z21_1,Z21_2,Z21_3,Z21_4,Y21_0,Y21_1,Y21_2,Y21_3,Y21_4⟩:=op5_ (W:=wc) BK414.out
       go_wp2
       go_ret
       exact ⟨fi_,bel_⟩
     ·rw [if_neg c18] at H
      have c18b0:(a0_0==2)=false:=bn_ c18
      have c18b1:(a0_0 != 2)=true:=bne_iff_ne.mpr c18
      by_cases c22:a0_0=3
      ·rw [if_pos c22] at H
       have c22b0:(a0_0==3)=true:=beq_iff_eq.mpr c22
       have c22b1:(a0_0 != 3)=false:=be_ c22
       clear c22
       replace H:=bs_ H
       obtain ⟨t419,A230,H⟩:=H
       try dsimp only at H
       have A23:=a_ A230
       clear A230
       by_cases c24:t419=true
       ·subst c24
        have H1:(if a0_3=0 then (some (a0_4.toList==([]:List UInt8))) else ((spec_l1Made.f a0_3).bind fun t420=>(if t420=true then (some (a0_4.toList==([]:List UInt8))) else (some false))))=some r:=by rw [if_pos rfl] at H;exact H
        clear H
        have H:=H1
        clear H1
        by_cases c25:a0_3=0
        ·rw [if_pos c25] at H
         have c25b0:(a0_3==0)=true:=beq_iff_eq.mpr c25
         have c25b1:(a0_3 != 0)=false:=be_ c25
         clear c25
         obtain rfl:=sj_ H
         obtain ⟨Z26_0,Z26_1,Z26_2,Z26_3,Z26_4,Y26_0,Y26_1,Y26_2,Y26_3,Y26_4⟩:=op5_ (W:=wc) BK414.out
         go_wp2_with (first|((with_reducible refine gC_ (f:=122) rfl ?_);refine gl_ 44 Tryd.func122 #[.int .i64 a0_2] ?_;(with_reducible refine (spec_l3Id.calls a0_2 true _ A23.out).mono ?_);rintro e w' ⟨rfl,⟨nd,rfl⟩⟩;refine ⟨_,rfl,?_⟩))
         go_ret
         exact ⟨fi_,bel_⟩
        ·rw [if_neg c25] at H
         have c25b0:(a0_3==0)=false:=bn_ c25
         have c25b1:(a0_3 != 0)=true:=bne_iff_ne.mpr c25
         replace H:=bs_ H
         obtain ⟨t420,A270,H⟩:=H
         try dsimp only at H
         have A27:=a_ A270
         clear A270
         by_cases c28:t420=true
         ·subst c28
          have H1:(some (a0_4.toList==([]:List UInt8)))=some r:=by rw [if_pos rfl] at H;exact H
          clear H
          have H:=H1
          clear H1
          obtain rfl:=sj_ H
          obtain ⟨Z29_0,Z29_1,Z29_2,Z29_3,Z29_4,Y29_0,Y29_1,Y29_2,Y29_3,Y29_4⟩:=op5_ (W:=wc) BK414.out
          go_wp2_with (first|((with_reducible refine gC_ (f:=122) rfl ?_);refine gl_ 44 Tryd.func122 #[.int .i64 a0_2] ?_;(with_reducible refine (spec_l3Id.calls a0_2 true _ A23.out).mono ?_);rintro e w' ⟨rfl,⟨nd,rfl⟩⟩;refine ⟨_,rfl,?_⟩)|(go_at_call 120;(with_reducible refine (spec_l1Made.calls a0_3 true _ A27.out).mono ?_);rintro e w' ⟨rfl,⟨nd,rfl⟩⟩))
          go_ret
          exact ⟨fi_,bel_⟩
         ·replace c28:=Bool.eq_false_iff.mpr c28
          subst c28
          have H1:(some false)=some r:=by rw [if_neg (show ¬ (false=true) by decide)] at H;exact H
          clear H
          have H:=H1
          clear H1
          obtain rfl:=sj_ H
          obtain ⟨Z30_0,Z30_1,Z30_2,Z30_3,Z30_4,Y30_0,Y30_1,Y30_2,Y30_3,Y30_4⟩:=op5_ (W:=wc) BK414.out
          go_wp2_with (first|((with_reducible refine gC_ (f:=122) rfl ?_);refine gl_ 44 Tryd.func122 #[.int .i64 a0_2] ?_;(with_reducible refine (spec_l3Id.calls a0_2 true _ A23.out).mono ?_);rintro e w' ⟨rfl,⟨nd,rfl⟩⟩;refine ⟨_,rfl,?_⟩)|(go_at_call 120;(with_reducible refine (spec_l1Made.calls a0_3 false _ A27.out).mono ?_);rintro e w' ⟨rfl,⟨nd,rfl⟩⟩))
          go_ret
          exact ⟨fi_,bel_⟩
       ·replace c24:=Bool.eq_false_iff.mpr c24
        subst c24
        have H1:(some false)=some r:=by rw [if_neg (show ¬ (false=true) by decide)] at H;exact H
        clear H
        have H:=H1
        clear H1
        obtain rfl:=sj_ H
        obtain ⟨Z31_0,Z31_1,Z31_2,Z31_3,Z31_4,Y31_0,Y31_1,Y31_2,Y31_3,Y31_4⟩:=op5_ (W:=wc) BK414.out
        go_wp2_with (first|((with_reducible refine gC_ (f:=122) rfl ?_);refine gl_ 44 Tryd.func122 #[.int .i64 a0_2] ?_;(with_reducible refine (spec_l3Id.calls a0_2 false _ A23.out).mono ?_);rintro e w' ⟨rfl,⟨nd,rfl⟩⟩;refine ⟨_,rfl,?_⟩))
        go_ret
        exact ⟨fi_,bel_⟩
      ·rw [if_neg c22] at H
       have c22b0:(a0_0==3)=false:=bn_ c22
       have c22b1:(a0_0 != 3)=true:=bne_iff_ne.mpr c22
       obtain rfl:=sj_ H
       obtain ⟨Z32_0,Z32_1,Z32_2,Z32_3,Z32_4,Y32_0,Y32_1,Y32_2,Y32_3,Y32_4⟩:=op5_ (W:=wc) BK414.out
       go_wp2
       go_ret
       exact ⟨fi_,bel_⟩

def spec_EntryOk.f (k:Nat) (a0_0:Int) (a0_1:Int) (a0_2:Int) (a0_3:Int) (a0_4:Int) (a0_5:Int) (a0_6:ByteArray):Option (Bool):=(spec_l6In.f a0_0 1 3).bind fun t422=>(if t422=true then ((spec_l6In.f a0_1 1 40).bind fun t423=>(if t423=true then ((spec_OpOk.f k a0_2 a0_3 a0_4 a0_5 a0_6).bind fun t424=>(if t424=true then (if a0_2=1 then (some ((wrap64 (Int.tdiv a0_3 10))==a0_0)) else (some true)) else (some false))) else (some false))) else (some false))
theorem spec_EntryOk.calls (k:Nat) (a0_0:Int) (a0_1:Int) (a0_2:Int) (a0_3:Int) (a0_4:Int) (a0_5:Int) (a0_6:ByteArray) (r:Bool) (w:World) (h:spec_EntryOk.f k a0_0 a0_1 a0_2 a0_3 a0_4 a0_5 a0_6=some r) :
  Calls Tryd.prog 30 #[.agg #[.int .i64 a0_0,.int .i64 a0_1,.int .i64 a0_2,.int .i64 a0_3,.int .i64 a0_4,.int .i64 a0_5,.string a0_6]] w fun e w'=>e=.returned (.bool r)∧Below w.heap.size w w':=by
 have hu44:=Tryd.underlying44
 have hu42:=Tryd.underlying42
 have HB:=a_ (Below.refl w.heap.size w)
 unfold spec_EntryOk.f at h
 have H:=h
 clear h
 replace H:=bs_ H
 obtain ⟨t422,A20,H⟩:=H
 try dsimp only at H
 have A2:=a_ A20
 clear A20
 by_cases c3:t422=true
 ·subst c3
  have H1:((spec_l6In.f a0_1 1 40).bind fun t423=>(if t423=true then ((spec_OpOk.f k a0_2 a0_3 a0_4 a0_5 a0_6).bind fun t424=>(if t424=true then (if a0_2=1 then (some ((wrap64 (Int.tdiv a0_3 10))==a0_0)) else (some true)) else (some false))) else (some false)))=some r:=by rw [if_pos rfl] at H;exact H
  clear H
  have H:=H1
  clear H1
  replace H:=bs_ H
  obtain ⟨t423,A40,H⟩:=H
  try dsimp only at H
  have A4:=a_ A40
  clear A40
  by_cases c5:t423=true
  ·subst c5
   have H1:((spec_OpOk.f k a0_2 a0_3 a0_4 a0_5 a0_6).bind fun t424=>(if t424=true then (if a0_2=1 then (some ((wrap64 (Int.tdiv a0_3 10))==a0_0)) else (some true)) else (some false)))=some r:=by rw [if_pos rfl] at H;exact H
   clear H
   have H:=H1
   clear H1
   replace H:=bs_ H
   obtain ⟨t424,A60,H⟩:=H
   try dsimp only at H
   have A6:=a_ A60
   clear A60
   by_cases c7:t424=true
   ·subst c7
    have H1:(if a0_2=1 then (some ((wrap64 (Int.tdiv a0_3 10))==a0_0)) else (some true))=some r:=by rw [if_pos rfl] at H;exact H
    clear H
    have H:=H1
    clear H1
    by_cases c8:a0_2=1
    ·rw [if_pos c8] at H
     have c8b0:(a0_2==1)=true:=beq_iff_eq.mpr c8
     have c8b1:(a0_2 != 1)=false:=be_ c8
     clear c8
     obtain rfl:=sj_ H
     go_enter Tryd.func30,Tryd.ntmps30
     go_wp2_with (first|((with_reducible refine gD_ (N:=1) rfl ?_);refine bx_ 1 (#[.int .i64 a0_0,.int .i64 a0_1,.int .i64 a0_2,.int .i64 a0_3,.int .i64 a0_4,.int .i64 a0_5,.string a0_6]) 44 ?_;intro gb421 hg w9 hbox hb;have n0_:=a_ (bS_ (bel_) hb);have n1_:=a_ (hbox);have n2_:=a_ ((by rw [hg];exact (below_size (bel_)):w.heap.size≤gb421));have n3_:=a_ ((by rw [hg];exact (below_size (bel_)):w.heap.size≤gb421));clear HB;have HB:=n0_;have BK421:=n1_;have GW421:=n2_;have GE421:=n3_;clear n0_ n1_ n2_ n3_;clear hb hbox hg;obtain ⟨Z10_0,Z10_1,Z10_2,Z10_3,Z10_4,Z10_5,Z10_6,Y10_0,Y10_1,Y10_2,Y10_3,Y10_4,Y10_5,Y10_6⟩:=op7_ BK421.out)|((with_reducible refine gC_ (f:=75) rfl ?_);refine gl_ 5 Tryd.func75 #[.int .i64 a0_0,.int .i64 1,.int .i64 3] ?_;(with_reducible refine (spec_l6In.calls a0_0 1 3 true _ A2.out).mono ?_);rintro e w' ⟨rfl,⟨nd,rfl⟩⟩;refine ⟨_,rfl,?_⟩)|(go_at_call 75;(with_reducible refine (spec_l6In.calls a0_1 1 40 true _ A4.out).mono ?_);rintro e w' ⟨rfl,⟨nd,rfl⟩⟩)|(go_at_call 84;(with_reducible refine (spec_OpOk.calls k a0_2 a0_3 a0_4 a0_5 a0_6 true _ A6.out).mono ?_);rintro e w11 ⟨rfl,hb⟩;replace HB:=a_ (bS_ (bel_) hb);replace BK421:=a_ (bb_ BK421.out hb);(try clear hb);obtain ⟨Z12_0,Z12_1,Z12_2,Z12_3,Z12_4,Z12_5,Z12_6,Y12_0,Y12_1,Y12_2,Y12_3,Y12_4,Y12_5,Y12_6⟩:=op7_ BK421.out))
     go_ret
     exact ⟨fi_,bel_⟩
    ·rw [if_neg c8] at H
     have c8b0:(a0_2==1)=false:=bn_ c8
     have c8b1:(a0_2 != 1)=true:=bne_iff_ne.mpr c8
     obtain rfl:=sj_ H
     go_enter Tryd.func30,Tryd.ntmps30
     go_wp2_with (first|((with_reducible refine gD_ (N:=1) rfl ?_);refine bx_ 1 (#[.int .i64 a0_0,.int .i64 a0_1,.int .i64 a0_2,.int .i64 a0_3,.int .i64 a0_4,.int .i64 a0_5,.string a0_6]) 44 ?_;intro gb421 hg w13 hbox hb;have n0_:=a_ (bS_ (bel_) hb);have n1_:=a_ (hbox);have n2_:=a_ ((by rw [hg];exact (below_size (bel_)):w.heap.size≤gb421));have n3_:=a_ ((by rw [hg];exact (below_size (bel_)):w.heap.size≤gb421));clear HB;have HB:=n0_;have BK421:=n1_;have GW421:=n2_;have GE421:=n3_;clear n0_ n1_ n2_ n3_;clear hb hbox hg;obtain ⟨Z14_0,Z14_1,Z14_2,Z14_3,Z14_4,Z14_5,Z14_6,Y14_0,Y14_1,Y14_2,Y14_3,Y14_4,Y14_5,Y14_6⟩:=op7_ BK421.out)|((with_reducible refine gC_ (f:=75) rfl ?_);refine gl_ 5 Tryd.func75 #[.int .i64 a0_0,.int .i64 1,.int .i64 3] ?_;(with_reducible refine (spec_l6In.calls a0_0 1 3 true _ A2.out).mono ?_);rintro e w' ⟨rfl,⟨nd,rfl⟩⟩;refine ⟨_,rfl,?_⟩)|(go_at_call 75;(with_reducible refine (spec_l6In.calls a0_1 1 40 true _ A4.out).mono ?_);rintro e w' ⟨rfl,⟨nd,rfl⟩⟩)|(go_at_call 84;(with_reducible refine (spec_OpOk.calls k a0_2 a0_3 a0_4 a0_5 a0_6 true _ A6.out).mono ?_);rintro e w15 ⟨rfl,hb⟩;replace HB:=a_ (bS_ (bel_) hb);replace BK421:=a_ (bb_ BK421.out hb);(try clear hb);obtain ⟨Z16_0,Z16_1,Z16_2,Z16_3,Z16_4,Z16_5,Z16_6,Y16_0,Y16_1,Y16_2,Y16_3,Y16_4,Y16_5,Y16_6⟩:=op7_ BK421.out))
     go_ret
     exact ⟨fi_,bel_⟩
   ·replace c7:=Bool.eq_false_iff.mpr c7
    subst c7
    have H1:(some false)=some r:=by rw [if_neg (show ¬ (false=true) by decide)] at H;exact H
    clear H
    have H:=H1
    clear H1
    obtain rfl:=sj_ H
    go_enter Tryd.func30,Tryd.ntmps30
    go_wp2_with (first|((with_reducible refine gD_ (N:=1) rfl ?_);refine bx_ 1 (#[.int .i64 a0_0,.int .i64 a0_1,.int .i64 a0_2,.int .i64 a0_3,.int .i64 a0_4,.int .i64 a0_5,.string a0_6]) 44 ?_;intro gb421 hg w17 hbox hb;have n0_:=a_ (bS_ (bel_) hb);have n1_:=a_ (hbox);have n2_:=a_ ((by rw [hg];exact (below_size (bel_)):w.heap.size≤gb421));have n3_:=a_ ((by rw [hg];exact (below_size (bel_)):w.heap.size≤gb421));clear HB;have HB:=n0_;have BK421:=n1_;have GW421:=n2_;have GE421:=n3_;clear n0_ n1_ n2_ n3_;clear hb hbox hg;obtain ⟨Z18_0,Z18_1,Z18_2,Z18_3,Z18_4,Z18_5,Z18_6,Y18_0,Y18_1,Y18_2,Y18_3,Y18_4,Y18_5,Y18_6⟩:=op7_ BK421.out)|((with_reducible refine gC_ (f:=75) rfl ?_);refine gl_ 5 Tryd.func75 #[.int .i64 a0_0,.int .i64 1,.int .i64 3] ?_;(with_reducible refine (spec_l6In.calls a0_0 1 3 true _ A2.out).mono ?_);rintro e w' ⟨rfl,⟨nd,rfl⟩⟩;refine ⟨_,rfl,?_⟩)|(go_at_call 75;(with_reducible refine (spec_l6In.calls a0_1 1 40 true _ A4.out).mono ?_);rintro e w' ⟨rfl,⟨nd,rfl⟩⟩)|(go_at_call 84;(with_reducible refine (spec_OpOk.calls k a0_2 a0_3 a0_4 a0_5 a0_6 false _ A6.out).mono ?_);rintro e w19 ⟨rfl,hb⟩;replace HB:=a_ (bS_ (bel_) hb);replace BK421:=a_ (bb_ BK421.out hb);(try clear hb)))
    go_ret
    exact ⟨fi_,bel_⟩
  ·replace c5:=Bool.eq_false_iff.mpr c5
   subst c5
   have H1:(some false)=some r:=by rw [if_neg (show ¬ (false=true) by decide)] at H;exact H
   clear H
   have H:=H1
   clear H1
   obtain rfl:=sj_ H
   go_enter Tryd.func30,Tryd.ntmps30
   go_wp2_with (first|((with_reducible refine gD_ (N:=1) rfl ?_);refine bx_ 1 (#[.int .i64 a0_0,.int .i64 a0_1,.int .i64 a0_2,.int .i64 a0_3,.int .i64 a0_4,.int .i64 a0_5,.string a0_6]) 44 ?_;intro gb421 hg w20 hbox hb;have n0_:=a_ (bS_ (bel_) hb);have n1_:=a_ (hbox);have n2_:=a_ ((by rw [hg];exact (below_size (bel_)):w.heap.size≤gb421));have n3_:=a_ ((by rw [hg];exact (below_size (bel_)):w.heap.size≤gb421));clear HB;have HB:=n0_;have BK421:=n1_;have GW421:=n2_;have GE421:=n3_;clear n0_ n1_ n2_ n3_;clear hb hbox hg;obtain ⟨Z21_0,Z21_1,Z21_2,Z21_3,Z21_4,Z21_5,Z21_6,Y21_0,Y21_1,Y21_2,Y21_3,Y21_4,Y21_5,Y21_6⟩:=op7_ BK421.out)|((with_reducible refine gC_ (f:=75) rfl ?_);refine gl_ 5 Tryd.func75 #[.int .i64 a0_0,.int .i64 1,.int .i64 3] ?_;(with_reducible refine (spec_l6In.calls a0_0 1 3 true _ A2.out).mono ?_);rintro e w' ⟨rfl,⟨nd,rfl⟩⟩;refine ⟨_,rfl,?_⟩)|(go_at_call 75;(with_reducible refine (spec_l6In.calls a0_1 1 40 false _ A4.out).mono ?_);rintro e w' ⟨rfl,⟨nd,rfl⟩⟩))
   go_ret
   exact ⟨fi_,bel_⟩
 ·replace c3:=Bool.eq_false_iff.mpr c3
  subst c3
  have H1:(some false)=some r:=by rw [if_neg (show ¬ (false=true) by decide)] at H;exact H
  clear H
  have H:=H1
  clear H1
  obtain rfl:=sj_ H
  go_enter Tryd.func30,Tryd.ntmps30
  go_wp2_with (first|((with_reducible refine gD_ (N:=1) rfl ?_);refine bx_ 1 (#[.int .i64 a0_0,.int .i64 a0_1,.int .i64 a0_2,.int .i64 a0_3,.int .i64 a0_4,.int .i64 a0_5,.string a0_6]) 44 ?_;intro gb421 hg w22 hbox hb;have n0_:=a_ (bS_ (bel_) hb);have n1_:=a_ (hbox);have n2_:=a_ ((by rw [hg];exact (below_size (bel_)):w.heap.size≤gb421));have n3_:=a_ ((by rw [hg];exact (below_size (bel_)):w.heap.size≤gb421));clear HB;have HB:=n0_;have BK421:=n1_;have GW421:=n2_;have GE421:=n3_;clear n0_ n1_ n2_ n3_;clear hb hbox hg;obtain ⟨Z23_0,Z23_1,Z23_2,Z23_3,Z23_4,Z23_5,Z23_6,Y23_0,Y23_1,Y23_2,Y23_3,Y23_4,Y23_5,Y23_6⟩:=op7_ BK421.out)|((with_reducible refine gC_ (f:=75) rfl ?_);refine gl_ 5 Tryd.func75 #[.int .i64 a0_0,.int .i64 1,.int .i64 3] ?_;(with_reducible refine (spec_l6In.calls a0_0 1 3 false _ A2.out).mono ?_);rintro e w' ⟨rfl,⟨nd,rfl⟩⟩;refine ⟨_,rfl,?_⟩))
  go_ret
  exact ⟨fi_,bel_⟩

theorem eqA69 (d:Nat) (w:World) (x0 y0:Int) (x1 y1:Int) (x2 y2:ByteArray) :
  (Op.equalIn (d+2) 69 (.agg #[.int .i64 x0,.int .i64 x1,.string x2]) (.agg #[.int .i64 y0,.int .i64 y1,.string y2])).run Tryd.prog w=.ok (x0==y0&&(x1==y1&&(x2.toList==y2.toList))) w:=by
 refine eqA_of Tryd.underlying69 (by kernel_rfl) ?_
 refine eqf_cons (by rfl) (by go_simp;rfl) (by go_simp;rfl) (by go_simp) ?_
 refine eqf_cons (by rfl) (by go_simp;rfl) (by go_simp;rfl) (by go_simp) ?_
 exact eqf_last (by rfl) (by go_simp;rfl) (by go_simp;rfl) (by go_simp)
def laws_szOp.f (a0_0:Int) (a0_1:Int) (a0_2:Int) (a0_3:Int) (a0_4:ByteArray) (a1:Int):Option (Int):=if (wrap64 (a1 - (a0_4.size:Int))) < 0 then (some (-1)) else (some (wrap64 (a1 - (a0_4.size:Int))))
theorem laws_szOp.calls (a0_0:Int) (a0_1:Int) (a0_2:Int) (a0_3:Int) (a0_4:ByteArray) (a1:Int) (r:Int) (w:World) (h:laws_szOp.f a0_0 a0_1 a0_2 a0_3 a0_4 a1=some r) :
  Calls Tryd.prog 66 #[.agg #[.int .i64 a0_0,.int .i64 a0_1,.int .i64 a0_2,.int .i64 a0_3,.string a0_4],.int .i64 a1] w fun e w'=>e=.returned (.int .i64 r)∧Below w.heap.size w w':=by
 have hu34:=Tryd.underlying34
 have HB:=a_ (Below.refl w.heap.size w)
 unfold laws_szOp.f at h
 have H:=h
 clear h
 by_cases c3:(wrap64 (a1 - (a0_4.size:Int))) < 0
 ·rw [if_pos c3] at H
  have c3b0:decide ((wrap64 (a1 - (a0_4.size:Int))) < 0)=true:=dt_ c3
  clear c3
  obtain rfl:=sj_ H
  go_enter Tryd.func66,Tryd.ntmps66
  go_wp2_with (first|((with_reducible refine gD_ (N:=2) rfl ?_);refine bx_ 2 (#[.int .i64 a0_0,.int .i64 a0_1,.int .i64 a0_2,.int .i64 a0_3,.string a0_4]) 34 ?_;intro gb462 hg w4 hbox hb;have n0_:=a_ (bS_ (bel_) hb);have n1_:=a_ (hbox);have n2_:=a_ ((by rw [hg];exact (below_size (bel_)):w.heap.size≤gb462));have n3_:=a_ ((by rw [hg];exact (below_size (bel_)):w.heap.size≤gb462));clear HB;have HB:=n0_;have BK462:=n1_;have GW462:=n2_;have GE462:=n3_;clear n0_ n1_ n2_ n3_;clear hb hbox hg;obtain ⟨Z5_0,Z5_1,Z5_2,Z5_3,Z5_4,Y5_0,Y5_1,Y5_2,Y5_3,Y5_4⟩:=op5_ BK462.out))
  go_ret
  exact ⟨fi_,bel_⟩
 ·rw [if_neg c3] at H
  have c3b0:decide ((wrap64 (a1 - (a0_4.size:Int))) < 0)=false:=df_ c3
  clear c3
  obtain rfl:=sj_ H
  go_enter Tryd.func66,Tryd.ntmps66
  go_wp2_with (first|((with_reducible refine gD_ (N:=2) rfl ?_);refine bx_ 2 (#[.int .i64 a0_0,.int .i64 a0_1,.int .i64 a0_2,.int .i64 a0_3,.string a0_4]) 34 ?_;intro gb462 hg w6 hbox hb;have n0_:=a_ (bS_ (bel_) hb);have n1_:=a_ (hbox);have n2_:=a_ ((by rw [hg];exact (below_size (bel_)):w.heap.size≤gb462));have n3_:=a_ ((by rw [hg];exact (below_size (bel_)):w.heap.size≤gb462));clear HB;have HB:=n0_;have BK462:=n1_;have GW462:=n2_;have GE462:=n3_;clear n0_ n1_ n2_ n3_;clear hb hbox hg;obtain ⟨Z7_0,Z7_1,Z7_2,Z7_3,Z7_4,Y7_0,Y7_1,Y7_2,Y7_3,Y7_4⟩:=op5_ BK462.out))
  go_ret
  exact ⟨fi_,bel_⟩

def laws_szEntry.f (a0_0:Int) (a0_1:Int) (a0_2:Int) (a0_3:Int) (a0_4:Int) (a0_5:Int) (a0_6:ByteArray) (a1:Int):Option (Int):=(laws_szOp.f a0_2 a0_3 a0_4 a0_5 a0_6 a1).bind fun t464=>(if t464 < 0 then (some (-1)) else (some t464))
theorem laws_szEntry.calls (a0_0:Int) (a0_1:Int) (a0_2:Int) (a0_3:Int) (a0_4:Int) (a0_5:Int) (a0_6:ByteArray) (a1:Int) (r:Int) (w:World) (h:laws_szEntry.f a0_0 a0_1 a0_2 a0_3 a0_4 a0_5 a0_6 a1=some r) :
  Calls Tryd.prog 20 #[.agg #[.int .i64 a0_0,.int .i64 a0_1,.int .i64 a0_2,.int .i64 a0_3,.int .i64 a0_4,.int .i64 a0_5,.string a0_6],.int .i64 a1] w fun e w'=>e=.returned (.int .i64 r)∧Below w.heap.size w w':=by
 have hu36:=Tryd.underlying36
 have hu34:=Tryd.underlying34
 have HB:=a_ (Below.refl w.heap.size w)
 unfold laws_szEntry.f at h
 have H:=h
 clear h
 replace H:=bs_ H
 obtain ⟨t464,A30,H⟩:=H
 try dsimp only at H
 have A3:=a_ A30
 clear A30
 by_cases c4:t464 < 0
 ·rw [if_pos c4] at H
  have c4b0:decide (t464 < 0)=true:=dt_ c4
  clear c4
  obtain rfl:=sj_ H
  go_enter Tryd.func20,Tryd.ntmps20
  go_wp2_with (first|((with_reducible refine gD_ (N:=2) rfl ?_);refine bx_ 2 (#[.int .i64 a0_0,.int .i64 a0_1,.int .i64 a0_2,.int .i64 a0_3,.int .i64 a0_4,.int .i64 a0_5,.string a0_6]) 36 ?_;intro gb463 hg w5 hbox hb;have n0_:=a_ (bS_ (bel_) hb);have n1_:=a_ (hbox);have n2_:=a_ ((by rw [hg];exact (below_size (bel_)):w.heap.size≤gb463));have n3_:=a_ ((by rw [hg];exact (below_size (bel_)):w.heap.size≤gb463));clear HB;have HB:=n0_;have BK463:=n1_;have GW463:=n2_;have GE463:=n3_;clear n0_ n1_ n2_ n3_;clear hb hbox hg;obtain ⟨Z6_0,Z6_1,Z6_2,Z6_3,Z6_4,Z6_5,Z6_6,Y6_0,Y6_1,Y6_2,Y6_3,Y6_4,Y6_5,Y6_6⟩:=op7_ BK463.out)|((with_reducible refine gC_ (f:=66) rfl ?_);refine gl_ 8 Tryd.func66 #[.agg #[.int .i64 a0_2,.int .i64 a0_3,.int .i64 a0_4,.int .i64 a0_5,.string a0_6],.int .i64 a1] ?_;(with_reducible refine (laws_szOp.calls a0_2 a0_3 a0_4 a0_5 a0_6 a1 t464 _ A3.out).mono ?_);rintro e w7 ⟨rfl,hb⟩;refine ⟨_,rfl,?_⟩;replace HB:=a_ (bS_ (bel_) hb);replace BK463:=a_ (bb_ BK463.out hb);(try clear hb)))
  go_ret
  exact ⟨fi_,bel_⟩
 ·rw [if_neg c4] at H
  have c4b0:decide (t464 < 0)=false:=df_ c4
  clear c4
  obtain rfl:=sj_ H
  go_enter Tryd.func20,Tryd.ntmps20
  go_wp2_with (first|((with_reducible refine gD_ (N:=2) rfl ?_);refine bx_ 2 (#[.int .i64 a0_0,.int .i64 a0_1,.int .i64 a0_2,.int .i64 a0_3,.int .i64 a0_4,.int .i64 a0_5,.string a0_6]) 36 ?_;intro gb463 hg w8 hbox hb;have n0_:=a_ (bS_ (bel_) hb);have n1_:=a_ (hbox);have n2_:=a_ ((by rw [hg];exact (below_size (bel_)):w.heap.size≤gb463));have n3_:=a_ ((by rw [hg];exact (below_size (bel_)):w.heap.size≤gb463));clear HB;have HB:=n0_;have BK463:=n1_;have GW463:=n2_;have GE463:=n3_;clear n0_ n1_ n2_ n3_;clear hb hbox hg;obtain ⟨Z9_0,Z9_1,Z9_2,Z9_3,Z9_4,Z9_5,Z9_6,Y9_0,Y9_1,Y9_2,Y9_3,Y9_4,Y9_5,Y9_6⟩:=op7_ BK463.out)|((with_reducible refine gC_ (f:=66) rfl ?_);refine gl_ 8 Tryd.func66 #[.agg #[.int .i64 a0_2,.int .i64 a0_3,.int .i64 a0_4,.int .i64 a0_5,.string a0_6],.int .i64 a1] ?_;(with_reducible refine (laws_szOp.calls a0_2 a0_3 a0_4 a0_5 a0_6 a1 t464 _ A3.out).mono ?_);rintro e w10 ⟨rfl,hb⟩;refine ⟨_,rfl,?_⟩;replace HB:=a_ (bS_ (bel_) hb);replace BK463:=a_ (bb_ BK463.out hb);(try clear hb)))
  go_ret
  exact ⟨fi_,bel_⟩

def laws_szEntryS.l0:Nat→List (S36)→Int→Int→Option (Int)
 | 0,_,_,_=>none
 | k+1,x0,x1,x5=>if x5 < (x0.length:Int) then (if 0≤x5 then ((laws_szEntry.f ((rd_T36 x0 x5).f0) ((rd_T36 x0 x5).f1) ((rd_T36 x0 x5).f2.f0) ((rd_T36 x0 x5).f2.f1) ((rd_T36 x0 x5).f2.f2) ((rd_T36 x0 x5).f2.f3) ((rd_T36 x0 x5).f2.f4) x1).bind fun t466=>(if t466 < 0 then (some (-1)) else (laws_szEntryS.l0 k x0 t466 (wrap64 (x5+1))))) else (none)) else (some x1)
def laws_szEntryS.f (k:Nat) (l0:List (S36)) (a1:Int):Option (Int):=if (wrap64 (a1 - (l0.length:Int))) < 0 then (some (-1)) else (laws_szEntryS.l0 k l0 (wrap64 (a1 - (l0.length:Int))) 0)
theorem laws_szEntryS.calls (k:Nat) (A0:Option Addr) (c0:Nat) (l0:List (S36)) (a1:Int) (r:Int) (w:World) (hr0:Kd.C k36 w A0 l0.length l0) (hc0:l0.length≤c0) (h:laws_szEntryS.f k l0 a1=some r) :
  Calls Tryd.prog 49 #[.slice A0 l0.length c0,.int .i64 a1] w fun e w'=>e=.returned (.int .i64 r)∧Below w.heap.size w w':=by
 have hu36:=Tryd.underlying36
 have HR0:=a_ hr0
 have HC0:=a_ hc0
 clear hr0 hc0
 have HB:=a_ (Below.refl w.heap.size w)
 unfold laws_szEntryS.f at h
 have H:=h
 clear h
 by_cases c3:(wrap64 (a1 - (l0.length:Int))) < 0
 ·rw [if_pos c3] at H
  have c3b0:decide ((wrap64 (a1 - (l0.length:Int))) < 0)=true:=dt_ c3
  clear c3
  obtain rfl:=sj_ H
  go_enter Tryd.func49,Tryd.ntmps49
  go_wp2
  go_ret
  exact ⟨fi_,bel_⟩
 ·rw [if_neg c3] at H
  have c3b0:decide ((wrap64 (a1 - (l0.length:Int))) < 0)=false:=df_ c3
  clear c3
  have H':=a_ H
  clear H
  go_enter Tryd.func49,Tryd.ntmps49
  go_wp2
  go_loopg [1,5] k (fun kq v1 v5 w'=>∃ (x1_1:Int) (x5_1:Int),v1=.int .i64 x1_1∧v5=.int .i64 x5_1∧Aside0 (laws_szEntryS.l0 kq l0 x1_1 x5_1=some r)∧Aside0 (kq≤k)∧Aside0 (Below w.heap.size w w'))
  case atStart=>exact ⟨(wrap64 (a1 - (l0.length:Int))),(0),(si_),(si_),H',⟨Nat.le_refl _⟩,⟨bel_⟩⟩
  case round =>
   clear H'
   try clear p2
   try clear c3
   try clear c3b0
   obtain ⟨x1_1,x5_1,rfl,rfl,HA,HK1,HB⟩:=hrel
   cases gk with
   | zero=>exact absurd HA.out (by simp [laws_szEntryS.l0])
   | succ k1 =>
    have H:=HA.out
    clear HA
    simp only [laws_szEntryS.l0] at H
    by_cases c4:x5_1 < (l0.length:Int)
    ·rw [if_pos c4] at H
     have c4b0:decide (x5_1 < (l0.length:Int))=true:=dt_ c4
     clear c4
     by_cases c5:0≤x5_1
     ·rw [if_pos c5] at H
      have c5b0:decide (0≤x5_1)=true:=dt_ c5
      clear c5
      replace H:=bs_ H
      obtain ⟨t466,A60,H⟩:=H
      try dsimp only at H
      have A6:=a_ A60
      clear A60
      by_cases c7:t466 < 0
      ·rw [if_pos c7] at H
       have c7b0:decide (t466 < 0)=true:=dt_ c7
       clear c7
       obtain rfl:=sj_ H
       have p465:0≤(x5_1:Int):=od_
       have q465:x5_1 < (l0.length:Int):=od_
       obtain ⟨ad465,e465,hx465_0,hx465_1,hx465_2,hx465_3,hx465_4,hx465_5,hx465_6⟩:=at_T36 HR0.out x5_1 p465 q465
       cases e465
       replace hx465_0:=(cb_ HB.out hx465_0 :)
       replace hx465_1:=(cb_ HB.out hx465_1 :)
       replace hx465_2:=(cb_ HB.out hx465_2 :)
       replace hx465_3:=(cb_ HB.out hx465_3 :)
       replace hx465_4:=(cb_ HB.out hx465_4 :)
       replace hx465_5:=(cb_ HB.out hx465_5 :)
       replace hx465_6:=(cb_ HB.out hx465_6 :)
       replace p465:=eq_true p465
       replace q465:=eq_true q465
       go_wp2_with (first|((with_reducible refine gC_ (f:=20) rfl ?_);refine gl_ 23 Tryd.func20 #[.agg #[.int .i64 ((rd_T36 l0 x5_1).f0),.int .i64 ((rd_T36 l0 x5_1).f1),.int .i64 ((rd_T36 l0 x5_1).f2.f0),.int .i64 ((rd_T36 l0 x5_1).f2.f1),.int .i64 ((rd_T36 l0 x5_1).f2.f2),.int .i64 ((rd_T36 l0 x5_1).f2.f3),.string ((rd_T36 l0 x5_1).f2.f4)],.int .i64 x1_1] ?_;(with_reducible refine (laws_szEntry.calls ((rd_T36 l0 x5_1).f0) ((rd_T36 l0 x5_1).f1) ((rd_T36 l0 x5_1).f2.f0) ((rd_T36 l0 x5_1).f2.f1) ((rd_T36 l0 x5_1).f2.f2) ((rd_T36 l0 x5_1).f2.f3) ((rd_T36 l0 x5_1).f2.f4) x1_1 t466 _ A6.out).mono ?_);rintro e w8 ⟨rfl,hb⟩;refine ⟨_,rfl,?_⟩;replace HB:=a_ (bS_ (bel_) hb);(try clear hb)))
       go_ret
       exact ⟨fi_,bel_⟩
      ·rw [if_neg c7] at H
       have c7b0:decide (t466 < 0)=false:=df_ c7
       clear c7
       have H':=a_ H
       clear H
       have p465:0≤(x5_1:Int):=od_
       have q465:x5_1 < (l0.length:Int):=od_
       obtain ⟨ad465,e465,hx465_0,hx465_1,hx465_2,hx465_3,hx465_4,hx465_5,hx465_6⟩:=at_T36 HR0.out x5_1 p465 q465
       cases e465
       replace hx465_0:=(cb_ HB.out hx465_0 :)
       replace hx465_1:=(cb_ HB.out hx465_1 :)
       replace hx465_2:=(cb_ HB.out hx465_2 :)
       replace hx465_3:=(cb_ HB.out hx465_3 :)
       replace hx465_4:=(cb_ HB.out hx465_4 :)
       replace hx465_5:=(cb_ HB.out hx465_5 :)
       replace hx465_6:=(cb_ HB.out hx465_6 :)
       replace p465:=eq_true p465
       replace q465:=eq_true q465
       go_wp2_with (first|((with_reducible refine gC_ (f:=20) rfl ?_);refine gl_ 23 Tryd.func20 #[.agg #[.int .i64 ((rd_T36 l0 x5_1).f0),.int .i64 ((rd_T36 l0 x5_1).f1),.int .i64 ((rd_T36 l0 x5_1).f2.f0),.int .i64 ((rd_T36 l0 x5_1).f2.f1),.int .i64 ((rd_T36 l0 x5_1).f2.f2),.int .i64 ((rd_T36 l0 x5_1).f2.f3),.string ((rd_T36 l0 x5_1).f2.f4)],.int .i64 x1_1] ?_;(with_reducible refine (laws_szEntry.calls ((rd_T36 l0 x5_1).f0) ((rd_T36 l0 x5_1).f1) ((rd_T36 l0 x5_1).f2.f0) ((rd_T36 l0 x5_1).f2.f1) ((rd_T36 l0 x5_1).f2.f2) ((rd_T36 l0 x5_1).f2.f3) ((rd_T36 l0 x5_1).f2.f4) x1_1 t466 _ A6.out).mono ?_);rintro e w9 ⟨rfl,hb⟩;refine ⟨_,rfl,?_⟩;replace HB:=a_ (bS_ (bel_) hb);(try clear hb)))
       go_roundg k1
       case measure=>have:=HK1.out;omega
       case rel=>exact ⟨(t466),(wrap64 (x5_1+1)),(si_),(si_),H',⟨by have:=HK1.out;omega⟩,⟨bel_⟩⟩
     ·rw [if_neg c5] at H
      exact absurd H (by simp)
    ·rw [if_neg c4] at H
     have c4b0:decide (x5_1 < (l0.length:Int))=false:=df_ c4
     clear c4
     obtain rfl:=sj_ H
     go_wp2
     go_ret
     exact ⟨fi_,bel_⟩

attribute [local go_sem high] eqA69

def impl_RowOk.f (k:Nat) (a0_0:Int) (a0_1:Int) (a0_2:ByteArray):Option (Bool):=(impl_isRoot.f a0_0).bind fun t937=>(if t937=true then (if a0_1=0 then (some (a0_2.toList==([]:List UInt8))) else (some false)) else ((impl_isMade.f a0_0).bind fun t938=>(if t938=true then (if a0_1≥1 then (if a0_1≤18 then ((impl_textOk.f k a0_2).bind fun t939=>(some t939)) else (some false)) else (some false)) else (some false))))
theorem impl_RowOk.calls (k:Nat) (a0_0:Int) (a0_1:Int) (a0_2:ByteArray) (r:Bool) (w:World) (h:impl_RowOk.f k a0_0 a0_1 a0_2=some r) (hG:Glob w) :
  Calls Tryd.prog 97 #[.agg #[.int .i64 a0_0,.int .i64 a0_1,.string a0_2]] w fun e w'=>e=.returned (.bool r)∧Below w.heap.size w w':=by
 have hu69:=Tryd.underlying69
 have HB:=a_ (Below.refl w.heap.size w)
 have HG:=a_ hG
 clear hG
 unfold impl_RowOk.f at h
 have H:=h
 clear h
 replace H:=bs_ H
 obtain ⟨t937,A20,H⟩:=H
 try dsimp only at H
 have A2:=a_ A20
 clear A20
 by_cases c3:t937=true
 ·subst c3
  have H1:(if a0_1=0 then (some (a0_2.toList==([]:List UInt8))) else (some false))=some r:=by rw [if_pos rfl] at H;exact H
  clear H
  have H:=H1
  clear H1
  by_cases c4:a0_1=0
  ·rw [if_pos c4] at H
   have c4b0:(a0_1==0)=true:=beq_iff_eq.mpr c4
   have c4b1:(a0_1 != 0)=false:=be_ c4
   clear c4
   obtain rfl:=sj_ H
   go_enter Tryd.func97,Tryd.ntmps97
   go_wp2_with (first|((with_reducible refine gD_ (N:=1) rfl ?_);refine bx_ 1 (#[.int .i64 a0_0,.int .i64 a0_1,.string a0_2]) 69 ?_;intro gb936 hg w5 hbox hb;have n0_:=a_ (bS_ (bel_) hb);have n1_:=a_ (hbox);have n2_:=a_ ((by rw [hg];exact (below_size (bel_)):w.heap.size≤gb936));have n3_:=a_ ((by rw [hg];exact (below_size (bel_)):w.heap.size≤gb936));clear HB;have HB:=n0_;have BK936:=n1_;have GW936:=n2_;have GE936:=n3_;clear n0_ n1_ n2_ n3_;clear hb hbox hg;obtain ⟨Z6_0,Z6_1,Z6_2,Y6_0,Y6_1,Y6_2⟩:=op3_ BK936.out)|((with_reducible refine gC_ (f:=98) rfl ?_);refine gl_ 5 Tryd.func98 #[.int .i64 a0_0] ?_;(with_reducible refine (impl_isRoot.calls a0_0 true _ A2.out ?side1).mono ?_);(case side1=>exact Glob.below HG.out (bel_));rintro e w' ⟨rfl,⟨nd,rfl⟩⟩;refine ⟨_,rfl,?_⟩))
   go_ret
   exact ⟨fi_,bel_⟩
  ·rw [if_neg c4] at H
   have c4b0:(a0_1==0)=false:=bn_ c4
   have c4b1:(a0_1 != 0)=true:=bne_iff_ne.mpr c4
   obtain rfl:=sj_ H
   go_enter Tryd.func97,Tryd.ntmps97
   go_wp2_with (first|((with_reducible refine gD_ (N:=1) rfl ?_);refine bx_ 1 (#[.int .i64 a0_0,.int .i64 a0_1,.string a0_2]) 69 ?_;intro gb936 hg w7 hbox hb;have n0_:=a_ (bS_ (bel_) hb);have n1_:=a_ (hbox);have n2_:=a_ ((by rw [hg];exact (below_size (bel_)):w.heap.size≤gb936));have n3_:=a_ ((by rw [hg];exact (below_size (bel_)):w.heap.size≤gb936));clear HB;have HB:=n0_;have BK936:=n1_;have GW936:=n2_;have GE936:=n3_;clear n0_ n1_ n2_ n3_;clear hb hbox hg;obtain ⟨Z8_0,Z8_1,Z8_2,Y8_0,Y8_1,Y8_2⟩:=op3_ BK936.out)|((with_reducible refine gC_ (f:=98) rfl ?_);refine gl_ 5 Tryd.func98 #[.int .i64 a0_0] ?_;(with_reducible refine (impl_isRoot.calls a0_0 true _ A2.out ?side1).mono ?_);(case side1=>exact Glob.below HG.out (bel_));rintro e w' ⟨rfl,⟨nd,rfl⟩⟩;refine ⟨_,rfl,?_⟩))
   go_ret
   exact ⟨fi_,bel_⟩
 ·replace c3:=Bool.eq_false_iff.mpr c3
  subst c3
  have H1:((impl_isMade.f a0_0).bind fun t938=>(if t938=true then (if a0_1≥1 then (if a0_1≤18 then ((impl_textOk.f k a0_2).bind fun t939=>(some t939)) else (some false)) else (some false)) else (some false)))=some r:=by rw [if_neg (show ¬ (false=true) by decide)] at H;exact H
  clear H
  have H:=H1
  clear H1
  replace H:=bs_ H
  obtain ⟨t938,A90,H⟩:=H
  try dsimp only at H
  have A9:=a_ A90
  clear A90
  by_cases c10:t938=true
  ·subst c10
   have H1:(if a0_1≥1 then (if a0_1≤18 then ((impl_textOk.f k a0_2).bind fun t939=>(some t939)) else (some false)) else (some false))=some r:=by rw [if_pos rfl] at H;exact H
   clear H
   have H:=H1
   clear H1
   by_cases c11:a0_1≥1
   ·rw [if_pos c11] at H
    have c11b0:decide (1≤a0_1)=true:=dt_ c11
    clear c11
    by_cases c12:a0_1≤18
    ·rw [if_pos c12] at H
     have c12b0:decide (a0_1≤18)=true:=dt_ c12
     clear c12
     replace H:=bs_ H
     obtain ⟨t939,A130,H⟩:=H
     try dsimp only at H
     have A13:=a_ A130
     clear A130
     obtain rfl:=sj_ H
     go_enter Tryd.func97,Tryd.ntmps97
     go_wp2_with (first|((with_reducible refine gD_ (N:=1) rfl ?_);refine bx_ 1 (#[.int .i64 a0_0,.int .i64 a0_1,.string a0_2]) 69 ?_;intro gb936 hg w14 hbox hb;have n0_:=a_ (bS_ (bel_) hb);have n1_:=a_ (hbox);have n2_:=a_ ((by rw [hg];exact (below_size (bel_)):w.heap.size≤gb936));have n3_:=a_ ((by rw [hg];exact (below_size (bel_)):w.heap.size≤gb936));clear HB;have HB:=n0_;have BK936:=n1_;have GW936:=n2_;have GE936:=n3_;clear n0_ n1_ n2_ n3_;clear hb hbox hg;obtain ⟨Z15_0,Z15_1,Z15_2,Y15_0,Y15_1,Y15_2⟩:=op3_ BK936.out)|((with_reducible refine gC_ (f:=98) rfl ?_);refine gl_ 5 Tryd.func98 #[.int .i64 a0_0] ?_;(with_reducible refine (impl_isRoot.calls a0_0 false _ A2.out ?side1).mono ?_);(case side1=>exact Glob.below HG.out (bel_));rintro e w' ⟨rfl,⟨nd,rfl⟩⟩;refine ⟨_,rfl,?_⟩)|((with_reducible refine gC_ (f:=127) rfl ?_);refine gl_ 16 Tryd.func127 #[.int .i64 a0_0] ?_;(with_reducible refine (impl_isMade.calls a0_0 true _ A9.out ?side1).mono ?_);(case side1=>exact Glob.below HG.out (bel_));rintro e w' ⟨rfl,⟨nd,rfl⟩⟩;refine ⟨_,rfl,?_⟩)|(go_at_call 129;(with_reducible refine (impl_textOk.calls k a0_2 t939 _ A13.out).mono ?_);rintro e w' ⟨rfl,⟨nd,rfl⟩⟩))
     go_ret
     exact ⟨fi_,bel_⟩
    ·rw [if_neg c12] at H
     have c12b0:decide (a0_1≤18)=false:=df_ c12
     clear c12
     obtain rfl:=sj_ H
     go_enter Tryd.func97,Tryd.ntmps97
     go_wp2_with (first|((with_reducible refine gD_ (N:=1) rfl ?_);refine bx_ 1 (#[.int .i64 a0_0,.int .i64 a0_1,.string a0_2]) 69 ?_;intro gb936 hg w16 hbox hb;have n0_:=a_ (bS_ (bel_) hb);have n1_:=a_ (hbox);have n2_:=a_ ((by rw [hg];exact (below_size (bel_)):w.heap.size≤gb936));have n3_:=a_ ((by rw [hg];exact (below_size (bel_)):w.heap.size≤gb936));clear HB;have HB:=n0_;have BK936:=n1_;have GW936:=n2_;have GE936:=n3_;clear n0_ n1_ n2_ n3_;clear hb hbox hg;obtain ⟨Z17_0,Z17_1,Z17_2,Y17_0,Y17_1,Y17_2⟩:=op3_ BK936.out)|((with_reducible refine gC_ (f:=98) rfl ?_);refine gl_ 5 Tryd.func98 #[.int .i64 a0_0] ?_;(with_reducible refine (impl_isRoot.calls a0_0 false _ A2.out ?side1).mono ?_);(case side1=>exact Glob.below HG.out (bel_));rintro e w' ⟨rfl,⟨nd,rfl⟩⟩;refine ⟨_,rfl,?_⟩)|((with_reducible refine gC_ (f:=127) rfl ?_);refine gl_ 16 Tryd.func127 #[.int .i64 a0_0] ?_;(with_reducible refine (impl_isMade.calls a0_0 true _ A9.out ?side1).mono ?_);(case side1=>exact Glob.below HG.out (bel_));rintro e w' ⟨rfl,⟨nd,rfl⟩⟩;refine ⟨_,rfl,?_⟩))
     go_ret
     exact ⟨fi_,bel_⟩
   ·rw [if_neg c11] at H
    have c11b0:decide (1≤a0_1)=false:=df_ c11
    clear c11
    obtain rfl:=sj_ H
    go_enter Tryd.func97,Tryd.ntmps97
    go_wp2_with (first|((with_reducible refine gD_ (N:=1) rfl ?_);refine bx_ 1 (#[.int .i64 a0_0,.int .i64 a0_1,.string a0_2]) 69 ?_;intro gb936 hg w18 hbox hb;have n0_:=a_ (bS_ (bel_) hb);have n1_:=a_ (hbox);have n2_:=a_ ((by rw [hg];exact (below_size (bel_)):w.heap.size≤gb936));have n3_:=a_ ((by rw [hg];exact (below_size (bel_)):w.heap.size≤gb936));clear HB;have HB:=n0_;have BK936:=n1_;have GW936:=n2_;have GE936:=n3_;clear n0_ n1_ n2_ n3_;clear hb hbox hg;obtain ⟨Z19_0,Z19_1,Z19_2,Y19_0,Y19_1,Y19_2⟩:=op3_ BK936.out)|((with_reducible refine gC_ (f:=98) rfl ?_);refine gl_ 5 Tryd.func98 #[.int .i64 a0_0] ?_;(with_reducible refine (impl_isRoot.calls a0_0 false _ A2.out ?side1).mono ?_);(case side1=>exact Glob.below HG.out (bel_));rintro e w' ⟨rfl,⟨nd,rfl⟩⟩;refine ⟨_,rfl,?_⟩)|((with_reducible refine gC_ (f:=127) rfl ?_);refine gl_ 16 Tryd.func127 #[.int .i64 a0_0] ?_;(with_reducible refine (impl_isMade.calls a0_0 true _ A9.out ?side1).mono ?_);(case side1=>exact Glob.below HG.out (bel_));rintro e w' ⟨rfl,⟨nd,rfl⟩⟩;refine ⟨_,rfl,?_⟩))
    go_ret
    exact ⟨fi_,bel_⟩
  ·replace c10:=Bool.eq_false_iff.mpr c10
   subst c10
   have H1:(some false)=some r:=by rw [if_neg (show ¬ (false=true) by decide)] at H;exact H
   clear H
   have H:=H1
   clear H1
   obtain rfl:=sj_ H
   go_enter Tryd.func97,Tryd.ntmps97
   go_wp2_with (first|((with_reducible refine gD_ (N:=1) rfl ?_);refine bx_ 1 (#[.int .i64 a0_0,.int .i64 a0_1,.string a0_2]) 69 ?_;intro gb936 hg w20 hbox hb;have n0_:=a_ (bS_ (bel_) hb);have n1_:=a_ (hbox);have n2_:=a_ ((by rw [hg];exact (below_size (bel_)):w.heap.size≤gb936));have n3_:=a_ ((by rw [hg];exact (below_size (bel_)):w.heap.size≤gb936));clear HB;have HB:=n0_;have BK936:=n1_;have GW936:=n2_;have GE936:=n3_;clear n0_ n1_ n2_ n3_;clear hb hbox hg;obtain ⟨Z21_0,Z21_1,Z21_2,Y21_0,Y21_1,Y21_2⟩:=op3_ BK936.out)|((with_reducible refine gC_ (f:=98) rfl ?_);refine gl_ 5 Tryd.func98 #[.int .i64 a0_0] ?_;(with_reducible refine (impl_isRoot.calls a0_0 false _ A2.out ?side1).mono ?_);(case side1=>exact Glob.below HG.out (bel_));rintro e w' ⟨rfl,⟨nd,rfl⟩⟩;refine ⟨_,rfl,?_⟩)|((with_reducible refine gC_ (f:=127) rfl ?_);refine gl_ 16 Tryd.func127 #[.int .i64 a0_0] ?_;(with_reducible refine (impl_isMade.calls a0_0 false _ A9.out ?side1).mono ?_);(case side1=>exact Glob.below HG.out (bel_));rintro e w' ⟨rfl,⟨nd,rfl⟩⟩;refine ⟨_,rfl,?_⟩))
   go_ret
   exact ⟨fi_,bel_⟩

def laws_szRow.f (a0_0:Int) (a0_1:Int) (a0_2:ByteArray) (a1:Int):Option (Int):=if (wrap64 (a1 - (a0_2.size:Int))) < 0 then (some (-1)) else (some (wrap64 (a1 - (a0_2.size:Int))))
theorem laws_szRow.calls (a0_0:Int) (a0_1:Int) (a0_2:ByteArray) (a1:Int) (r:Int) (w:World) (h:laws_szRow.f a0_0 a0_1 a0_2 a1=some r) :
  Calls Tryd.prog 139 #[.agg #[.int .i64 a0_0,.int .i64 a0_1,.string a0_2],.int .i64 a1] w fun e w'=>e=.returned (.int .i64 r)∧Below w.heap.size w w':=by
 have hu183:=Tryd.underlying183
 have HB:=a_ (Below.refl w.heap.size w)
 unfold laws_szRow.f at h
 have H:=h
 clear h
 by_cases c3:(wrap64 (a1 - (a0_2.size:Int))) < 0
 ·rw [if_pos c3] at H
  have c3b0:decide ((wrap64 (a1 - (a0_2.size:Int))) < 0)=true:=dt_ c3
  clear c3
  obtain rfl:=sj_ H
  go_enter Tryd.func139,Tryd.ntmps139
  go_wp2_with (first|((with_reducible refine gD_ (N:=2) rfl ?_);refine bx_ 2 (#[.int .i64 a0_0,.int .i64 a0_1,.string a0_2]) 183 ?_;intro gb1181 hg w4 hbox hb;have n0_:=a_ (bS_ (bel_) hb);have n1_:=a_ (hbox);have n2_:=a_ ((by rw [hg];exact (below_size (bel_)):w.heap.size≤gb1181));have n3_:=a_ ((by rw [hg];exact (below_size (bel_)):w.heap.size≤gb1181));clear HB;have HB:=n0_;have BK1181:=n1_;have GW1181:=n2_;have GE1181:=n3_;clear n0_ n1_ n2_ n3_;clear hb hbox hg;obtain ⟨Z5_0,Z5_1,Z5_2,Y5_0,Y5_1,Y5_2⟩:=op3_ BK1181.out))
  go_ret
  exact ⟨fi_,bel_⟩
 ·rw [if_neg c3] at H
  have c3b0:decide ((wrap64 (a1 - (a0_2.size:Int))) < 0)=false:=df_ c3
  clear c3
  obtain rfl:=sj_ H
  go_enter Tryd.func139,Tryd.ntmps139
  go_wp2_with (first|((with_reducible refine gD_ (N:=2) rfl ?_);refine bx_ 2 (#[.int .i64 a0_0,.int .i64 a0_1,.string a0_2]) 183 ?_;intro gb1181 hg w6 hbox hb;have n0_:=a_ (bS_ (bel_) hb);have n1_:=a_ (hbox);have n2_:=a_ ((by rw [hg];exact (below_size (bel_)):w.heap.size≤gb1181));have n3_:=a_ ((by rw [hg];exact (below_size (bel_)):w.heap.size≤gb1181));clear HB;have HB:=n0_;have BK1181:=n1_;have GW1181:=n2_;have GE1181:=n3_;clear n0_ n1_ n2_ n3_;clear hb hbox hg;obtain ⟨Z7_0,Z7_1,Z7_2,Y7_0,Y7_1,Y7_2⟩:=op3_ BK1181.out))
  go_ret
  exact ⟨fi_,bel_⟩

def laws_szRowS.l0:Nat→List (S183)→Int→Int→Option (Int)
 | 0,_,_,_=>none
 | k+1,x0,x1,x5=>if x5 < (x0.length:Int) then (if 0≤x5 then ((laws_szRow.f ((rd_T183 x0 x5).f0) ((rd_T183 x0 x5).f1) ((rd_T183 x0 x5).f2) x1).bind fun t1183=>(if t1183 < 0 then (some (-1)) else (laws_szRowS.l0 k x0 t1183 (wrap64 (x5+1))))) else (none)) else (some x1)
def laws_szRowS.f (k:Nat) (l0:List (S183)) (a1:Int):Option (Int):=if (wrap64 (a1 - (l0.length:Int))) < 0 then (some (-1)) else (laws_szRowS.l0 k l0 (wrap64 (a1 - (l0.length:Int))) 0)
theorem laws_szRowS.calls (k:Nat) (A0:Option Addr) (c0:Nat) (l0:List (S183)) (a1:Int) (r:Int) (w:World) (hr0:Kd.C k183 w A0 l0.length l0) (hc0:l0.length≤c0) (h:laws_szRowS.f k l0 a1=some r) :
  Calls Tryd.prog 109 #[.slice A0 l0.length c0,.int .i64 a1] w fun e w'=>e=.returned (.int .i64 r)∧Below w.heap.size w w':=by
 have hu183:=Tryd.underlying183
 have HR0:=a_ hr0
 have HC0:=a_ hc0
 clear hr0 hc0
 have HB:=a_ (Below.refl w.heap.size w)
 unfold laws_szRowS.f at h
 have H:=h
 clear h
 by_cases c3:(wrap64 (a1 - (l0.length:Int))) < 0
 ·rw [if_pos c3] at H
  have c3b0:decide ((wrap64 (a1 - (l0.length:Int))) < 0)=true:=dt_ c3
  clear c3
  obtain rfl:=sj_ H
  go_enter Tryd.func109,Tryd.ntmps109
  go_wp2
  go_ret
  exact ⟨fi_,bel_⟩
 ·rw [if_neg c3] at H
  have c3b0:decide ((wrap64 (a1 - (l0.length:Int))) < 0)=false:=df_ c3
  clear c3
  have H':=a_ H
  clear H
  go_enter Tryd.func109,Tryd.ntmps109
  go_wp2
  go_loopg [1,5] k (fun kq v1 v5 w'=>∃ (x1_1:Int) (x5_1:Int),v1=.int .i64 x1_1∧v5=.int .i64 x5_1∧Aside0 (laws_szRowS.l0 kq l0 x1_1 x5_1=some r)∧Aside0 (kq≤k)∧Aside0 (Below w.heap.size w w'))
  case atStart=>exact ⟨(wrap64 (a1 - (l0.length:Int))),(0),(si_),(si_),H',⟨Nat.le_refl _⟩,⟨bel_⟩⟩
  case round =>
   clear H'
   try clear c1
   try clear p2
   try clear c3
   try clear c3b0
   obtain ⟨x1_1,x5_1,rfl,rfl,HA,HK1,HB⟩:=hrel
   cases gk with
   | zero=>exact absurd HA.out (by simp [laws_szRowS.l0])
   | succ k1 =>
    have H:=HA.out
    clear HA
    simp only [laws_szRowS.l0] at H
    by_cases c4:x5_1 < (l0.length:Int)
    ·rw [if_pos c4] at H
     have c4b0:decide (x5_1 < (l0.length:Int))=true:=dt_ c4
     clear c4
     by_cases c5:0≤x5_1
     ·rw [if_pos c5] at H
      have c5b0:decide (0≤x5_1)=true:=dt_ c5
      clear c5
      replace H:=bs_ H
      obtain ⟨t1183,A60,H⟩:=H
      try dsimp only at H
      have A6:=a_ A60
      clear A60
      by_cases c7:t1183 < 0
      ·rw [if_pos c7] at H
       have c7b0:decide (t1183 < 0)=true:=dt_ c7
       clear c7
       obtain rfl:=sj_ H
       have p1182:0≤(x5_1:Int):=od_
       have q1182:x5_1 < (l0.length:Int):=od_
       obtain ⟨ad1182,e1182,hx1182_0,hx1182_1,hx1182_2⟩:=at_T183 HR0.out x5_1 p1182 q1182
       cases e1182
       replace hx1182_0:=(cb_ HB.out hx1182_0 :)
       replace hx1182_1:=(cb_ HB.out hx1182_1 :)
       replace hx1182_2:=(cb_ HB.out hx1182_2 :)
       replace p1182:=eq_true p1182
       replace q1182:=eq_true q1182
       go_wp2_with (first|((with_reducible refine gC_ (f:=139) rfl ?_);refine gl_ 23 Tryd.func139 #[.agg #[.int .i64 ((rd_T183 l0 x5_1).f0),.int .i64 ((rd_T183 l0 x5_1).f1),.string ((rd_T183 l0 x5_1).f2)],.int .i64 x1_1] ?_;(with_reducible refine (laws_szRow.calls ((rd_T183 l0 x5_1).f0) ((rd_T183 l0 x5_1).f1) ((rd_T183 l0 x5_1).f2) x1_1 t1183 _ A6.out).mono ?_);rintro e w8 ⟨rfl,hb⟩;refine ⟨_,rfl,?_⟩;replace HB:=a_ (bS_ (bel_) hb);(try clear hb)))
       go_ret
       exact ⟨fi_,bel_⟩
      ·rw [if_neg c7] at H
       have c7b0:decide (t1183 < 0)=false:=df_ c7
       clear c7
       have H':=a_ H
       clear H
       have p1182:0≤(x5_1:Int):=od_
       have q1182:x5_1 < (l0.length:Int):=od_
       obtain ⟨ad1182,e1182,hx1182_0,hx1182_1,hx1182_2⟩:=at_T183 HR0.out x5_1 p1182 q1182
       cases e1182
       replace hx1182_0:=(cb_ HB.out hx1182_0 :)
       replace hx1182_1:=(cb_ HB.out hx1182_1 :)
       replace hx1182_2:=(cb_ HB.out hx1182_2 :)
       replace p1182:=eq_true p1182
       replace q1182:=eq_true q1182
       go_wp2_with (first|((with_reducible refine gC_ (f:=139) rfl ?_);refine gl_ 23 Tryd.func139 #[.agg #[.int .i64 ((rd_T183 l0 x5_1).f0),.int .i64 ((rd_T183 l0 x5_1).f1),.string ((rd_T183 l0 x5_1).f2)],.int .i64 x1_1] ?_;(with_reducible refine (laws_szRow.calls ((rd_T183 l0 x5_1).f0) ((rd_T183 l0 x5_1).f1) ((rd_T183 l0 x5_1).f2) x1_1 t1183 _ A6.out).mono ?_);rintro e w9 ⟨rfl,hb⟩;refine ⟨_,rfl,?_⟩;replace HB:=a_ (bS_ (bel_) hb);(try clear hb)))
       go_roundg k1
       case measure=>have:=HK1.out;omega
       case rel=>exact ⟨(t1183),(wrap64 (x5_1+1)),(si_),(si_),H',⟨by have:=HK1.out;omega⟩,⟨bel_⟩⟩
     ·rw [if_neg c5] at H
      exact absurd H (by simp)
    ·rw [if_neg c4] at H
     have c4b0:decide (x5_1 < (l0.length:Int))=false:=df_ c4
     clear c4
     obtain rfl:=sj_ H
     go_wp2
     go_ret
     exact ⟨fi_,bel_⟩

def laws_szClient.f (k:Nat) (a0_0:Int) (a0_1:Int) (l0_2:List (S183)) (l0_3:List (S36)) (a0_4:Int) (a0_5:Int) (a1:Int):Option (Int):=(laws_szRowS.f k l0_2 a1).bind fun t1185=>(if t1185 < 0 then (some (-1)) else ((laws_szEntryS.f k l0_3 t1185).bind fun t1186=>(if t1186 < 0 then (some (-1)) else (some t1186))))
theorem laws_szClient.calls (k:Nat) (a0_0:Int) (a0_1:Int) (A0_2:Option Addr) (c0_2:Nat) (l0_2:List (S183)) (A0_3:Option Addr) (c0_3:Nat) (l0_3:List (S36)) (a0_4:Int) (a0_5:Int) (a1:Int) (r:Int) (w:World) (hr0_2:Kd.C k183 w A0_2 l0_2.length l0_2) (hc0_2:l0_2.length≤c0_2) (hr0_3:Kd.C k36 w A0_3 l0_3.length l0_3) (hc0_3:l0_3.length≤c0_3) (h:laws_szClient.f k a0_0 a0_1 l0_2 l0_3 a0_4 a0_5 a1=some r) :
  Calls Tryd.prog 62 #[.agg #[.int .i64 a0_0,.int .i64 a0_1,.slice A0_2 l0_2.length c0_2,.slice A0_3 l0_3.length c0_3,.int .i64 a0_4,.int .i64 a0_5],.int .i64 a1] w fun e w'=>e=.returned (.int .i64 r)∧Below w.heap.size w w':=by
 have hu85:=Tryd.underlying85
 have HR0_2:=a_ hr0_2
 have HC0_2:=a_ hc0_2
 clear hr0_2 hc0_2
 have HR0_3:=a_ hr0_3
 have HC0_3:=a_ hc0_3
 clear hr0_3 hc0_3
 have HB:=a_ (Below.refl w.heap.size w)
 unfold laws_szClient.f at h
 have H:=h
 clear h
 replace H:=bs_ H
 obtain ⟨t1185,A30,H⟩:=H
 try dsimp only at H
 have A3:=a_ A30
 clear A30
 by_cases c4:t1185 < 0
 ·rw [if_pos c4] at H
  have c4b0:decide (t1185 < 0)=true:=dt_ c4
  clear c4
  obtain rfl:=sj_ H
  go_enter Tryd.func62,Tryd.ntmps62
  go_wp2_with (first|((with_reducible refine gD_ (N:=2) rfl ?_);refine bx_ 2 (#[.int .i64 a0_0,.int .i64 a0_1,.slice A0_2 l0_2.length c0_2,.slice A0_3 l0_3.length c0_3,.int .i64 a0_4,.int .i64 a0_5]) 85 ?_;intro gb1184 hg w5 hbox hb;have n0_:=a_ (bS_ (bel_) hb);have n1_:=a_ (hbox);have n2_:=a_ ((by rw [hg];exact (below_size (bel_)):w.heap.size≤gb1184));have n3_:=a_ ((by rw [hg];exact (below_size (bel_)):w.heap.size≤gb1184));clear HB;have HB:=n0_;have BK1184:=n1_;have GW1184:=n2_;have GE1184:=n3_;clear n0_ n1_ n2_ n3_;clear hb hbox hg;obtain ⟨Z6_0,Z6_1,Z6_2,Z6_3,Z6_4,Z6_5,Y6_0,Y6_1,Y6_2,Y6_3,Y6_4,Y6_5⟩:=op6_ BK1184.out)|((with_reducible refine gC_ (f:=109) rfl ?_);refine gl_ 8 Tryd.func109 #[.slice A0_2 l0_2.length c0_2,.int .i64 a1] ?_;(with_reducible refine (laws_szRowS.calls k _ _ l0_2 a1 t1185 _ ?side1 ?side2 A3.out).mono ?_);(case side1=>exact cp_ HR0_2.out);(case side2=>exact HC0_2.out);rintro e w7 ⟨rfl,hb⟩;refine ⟨_,rfl,?_⟩;replace HB:=a_ (bS_ (bel_) hb);replace BK1184:=a_ (bb_ BK1184.out hb);(try clear hb)))
  go_ret
  exact ⟨fi_,bel_⟩
 ·rw [if_neg c4] at H
  have c4b0:decide (t1185 < 0)=false:=df_ c4
  clear c4
  replace H:=bs_ H
  obtain ⟨t1186,A80,H⟩:=H
  try dsimp only at H
  have A8:=a_ A80
  clear A80
  by_cases c9:t1186 < 0
  ·rw [if_pos c9] at H
   have c9b0:decide (t1186 < 0)=true:=dt_ c9
   clear c9
   obtain rfl:=sj_ H
   go_enter Tryd.func62,Tryd.ntmps62
   go_wp2_with (first|((with_reducible refine gD_ (N:=2) rfl ?_);refine bx_ 2 (#[.int .i64 a0_0,.int .i64 a0_1,.slice A0_2 l0_2.length c0_2,.slice A0_3 l0_3.length c0_3,.int .i64 a0_4,.int .i64 a0_5]) 85 ?_;intro gb1184 hg w10 hbox hb;have n0_:=a_ (bS_ (bel_) hb);have n1_:=a_ (hbox);have n2_:=a_ ((by rw [hg];exact (below_size (bel_)):w.heap.size≤gb1184));have n3_:=a_ ((by rw [hg];exact (below_size (bel_)):w.heap.size≤gb1184));clear HB;have HB:=n0_;have BK1184:=n1_;have GW1184:=n2_;have GE1184:=n3_;clear n0_ n1_ n2_ n3_;clear hb hbox hg;obtain ⟨Z11_0,Z11_1,Z11_2,Z11_3,Z11_4,Z11_5,Y11_0,Y11_1,Y11_2,Y11_3,Y11_4,Y11_5⟩:=op6_ BK1184.out)|((with_reducible refine gC_ (f:=109) rfl ?_);refine gl_ 8 Tryd.func109 #[.slice A0_2 l0_2.length c0_2,.int .i64 a1] ?_;(with_reducible refine (laws_szRowS.calls k _ _ l0_2 a1 t1185 _ ?side1 ?side2 A3.out).mono ?_);(case side1=>exact cp_ HR0_2.out);(case side2=>exact HC0_2.out);rintro e w12 ⟨rfl,hb⟩;refine ⟨_,rfl,?_⟩;replace HB:=a_ (bS_ (bel_) hb);replace BK1184:=a_ (bb_ BK1184.out hb);(try clear hb);obtain ⟨Z13_0,Z13_1,Z13_2,Z13_3,Z13_4,Z13_5,Y13_0,Y13_1,Y13_2,Y13_3,Y13_4,Y13_5⟩:=op6_ BK1184.out)|((with_reducible refine gC_ (f:=49) rfl ?_);refine gl_ 14 Tryd.func49 #[.slice A0_3 l0_3.length c0_3,.int .i64 t1185] ?_;(with_reducible refine (laws_szEntryS.calls k _ _ l0_3 t1185 t1186 _ ?side1 ?side2 A8.out).mono ?_);(case side1=>exact cp_ HR0_3.out);(case side2=>exact HC0_3.out);rintro e w14 ⟨rfl,hb⟩;refine ⟨_,rfl,?_⟩;replace HB:=a_ (bS_ (bel_) hb);replace BK1184:=a_ (bb_ BK1184.out hb);(try clear hb)))
   go_ret
   exact ⟨fi_,bel_⟩
  ·rw [if_neg c9] at H
   have c9b0:decide (t1186 < 0)=false:=df_ c9
   clear c9
   obtain rfl:=sj_ H
   go_enter Tryd.func62,Tryd.ntmps62
   go_wp2_with (first|((with_reducible refine gD_ (N:=2) rfl ?_);refine bx_ 2 (#[.int .i64 a0_0,.int .i64 a0_1,.slice A0_2 l0_2.length c0_2,.slice A0_3 l0_3.length c0_3,.int .i64 a0_4,.int .i64 a0_5]) 85 ?_;intro gb1184 hg w15 hbox hb;have n0_:=a_ (bS_ (bel_) hb);have n1_:=a_ (hbox);have n2_:=a_ ((by rw [hg];exact (below_size (bel_)):w.heap.size≤gb1184));have n3_:=a_ ((by rw [hg];exact (below_size (bel_)):w.heap.size≤gb1184));clear HB;have HB:=n0_;have BK1184:=n1_;have GW1184:=n2_;have GE1184:=n3_;clear n0_ n1_ n2_ n3_;clear hb hbox hg;obtain ⟨Z16_0,Z16_1,Z16_2,Z16_3,Z16_4,Z16_5,Y16_0,Y16_1,Y16_2,Y16_3,Y16_4,Y16_5⟩:=op6_ BK1184.out)|((with_reducible refine gC_ (f:=109) rfl ?_);refine gl_ 8 Tryd.func109 #[.slice A0_2 l0_2.length c0_2,.int .i64 a1] ?_;(with_reducible refine (laws_szRowS.calls k _ _ l0_2 a1 t1185 _ ?side1 ?side2 A3.out).mono ?_);(case side1=>exact cp_ HR0_2.out);(case side2=>exact HC0_2.out);rintro e w17 ⟨rfl,hb⟩;refine ⟨_,rfl,?_⟩;replace HB:=a_ (bS_ (bel_) hb);replace BK1184:=a_ (bb_ BK1184.out hb);(try clear hb);obtain ⟨Z18_0,Z18_1,Z18_2,Z18_3,Z18_4,Z18_5,Y18_0,Y18_1,Y18_2,Y18_3,Y18_4,Y18_5⟩:=op6_ BK1184.out)|((with_reducible refine gC_ (f:=49) rfl ?_);refine gl_ 14 Tryd.func49 #[.slice A0_3 l0_3.length c0_3,.int .i64 t1185] ?_;(with_reducible refine (laws_szEntryS.calls k _ _ l0_3 t1185 t1186 _ ?side1 ?side2 A8.out).mono ?_);(case side1=>exact cp_ HR0_3.out);(case side2=>exact HC0_3.out);rintro e w19 ⟨rfl,hb⟩;refine ⟨_,rfl,?_⟩;replace HB:=a_ (bS_ (bel_) hb);replace BK1184:=a_ (bb_ BK1184.out hb);(try clear hb)))
   go_ret
   exact ⟨fi_,bel_⟩

def spec_RowOk.f (k:Nat) (a0_0:Int) (a0_1:Int) (a0_2:ByteArray):Option (Bool):=(spec_l1Root.f a0_0).bind fun t1188=>(if t1188=true then (if a0_1=0 then (some (a0_2.toList==([]:List UInt8))) else (some false)) else ((spec_l1Made.f a0_0).bind fun t1189=>(if t1189=true then ((spec_l6In.f a0_1 1 18).bind fun t1190=>(if t1190=true then ((spec_l1Text.f k a0_2).bind fun t1191=>(some t1191)) else (some false))) else (some false))))
theorem spec_RowOk.calls (k:Nat) (a0_0:Int) (a0_1:Int) (a0_2:ByteArray) (r:Bool) (w:World) (h:spec_RowOk.f k a0_0 a0_1 a0_2=some r) :
  Calls Tryd.prog 140 #[.agg #[.int .i64 a0_0,.int .i64 a0_1,.string a0_2]] w fun e w'=>e=.returned (.bool r)∧Below w.heap.size w w':=by
 have hu69:=Tryd.underlying69
 have HB:=a_ (Below.refl w.heap.size w)
 unfold spec_RowOk.f at h
 have H:=h
 clear h
 replace H:=bs_ H
 obtain ⟨t1188,A20,H⟩:=H
 try dsimp only at H
 have A2:=a_ A20
 clear A20
 by_cases c3:t1188=true
 ·subst c3
  have H1:(if a0_1=0 then (some (a0_2.toList==([]:List UInt8))) else (some false))=some r:=by rw [if_pos rfl] at H;exact H
  clear H
  have H:=H1
  clear H1
  by_cases c4:a0_1=0
  ·rw [if_pos c4] at H
   have c4b0:(a0_1==0)=true:=beq_iff_eq.mpr c4
   have c4b1:(a0_1 != 0)=false:=be_ c4
   clear c4
   obtain rfl:=sj_ H
   go_enter Tryd.func140,Tryd.ntmps140
   go_wp2_with (first|((with_reducible refine gD_ (N:=1) rfl ?_);refine bx_ 1 (#[.int .i64 a0_0,.int .i64 a0_1,.string a0_2]) 69 ?_;intro gb1187 hg w5 hbox hb;have n0_:=a_ (bS_ (bel_) hb);have n1_:=a_ (hbox);have n2_:=a_ ((by rw [hg];exact (below_size (bel_)):w.heap.size≤gb1187));have n3_:=a_ ((by rw [hg];exact (below_size (bel_)):w.heap.size≤gb1187));clear HB;have HB:=n0_;have BK1187:=n1_;have GW1187:=n2_;have GE1187:=n3_;clear n0_ n1_ n2_ n3_;clear hb hbox hg;obtain ⟨Z6_0,Z6_1,Z6_2,Y6_0,Y6_1,Y6_2⟩:=op3_ BK1187.out)|((with_reducible refine gC_ (f:=141) rfl ?_);refine gl_ 5 Tryd.func141 #[.int .i64 a0_0] ?_;(with_reducible refine (spec_l1Root.calls a0_0 true _ A2.out).mono ?_);rintro e w' ⟨rfl,⟨nd,rfl⟩⟩;refine ⟨_,rfl,?_⟩))
   go_ret
   exact ⟨fi_,bel_⟩
  ·rw [if_neg c4] at H
   have c4b0:(a0_1==0)=false:=bn_ c4
   have c4b1:(a0_1 != 0)=true:=bne_iff_ne.mpr c4
   obtain rfl:=sj_ H
   go_enter Tryd.func140,Tryd.ntmps140
   go_wp2_with (first|((with_reducible refine gD_ (N:=1) rfl ?_);refine bx_ 1 (#[.int .i64 a0_0,.int .i64 a0_1,.string a0_2]) 69 ?_;intro gb1187 hg w7 hbox hb;have n0_:=a_ (bS_ (bel_) hb);have n1_:=a_ (hbox);have n2_:=a_ ((by rw [hg];exact (below_size (bel_)):w.heap.size≤gb1187));have n3_:=a_ ((by rw [hg];exact (below_size (bel_)):w.heap.size≤gb1187));clear HB;have HB:=n0_;have BK1187:=n1_;have GW1187:=n2_;have GE1187:=n3_;clear n0_ n1_ n2_ n3_;clear hb hbox hg;obtain ⟨Z8_0,Z8_1,Z8_2,Y8_0,Y8_1,Y8_2⟩:=op3_ BK1187.out)|((with_reducible refine gC_ (f:=141) rfl ?_);refine gl_ 5 Tryd.func141 #[.int .i64 a0_0] ?_;(with_reducible refine (spec_l1Root.calls a0_0 true _ A2.out).mono ?_);rintro e w' ⟨rfl,⟨nd,rfl⟩⟩;refine ⟨_,rfl,?_⟩))
   go_ret
   exact ⟨fi_,bel_⟩
 ·replace c3:=Bool.eq_false_iff.mpr c3
  subst c3
  have H1:((spec_l1Made.f a0_0).bind fun t1189=>(if t1189=true then ((spec_l6In.f a0_1 1 18).bind fun t1190=>(if t1190=true then ((spec_l1Text.f k a0_2).bind fun t1191=>(some t1191)) else (some false))) else (some false)))=some r:=by rw [if_neg (show ¬ (false=true) by decide)] at H;exact H
  clear H
  have H:=H1
  clear H1
  replace H:=bs_ H
  obtain ⟨t1189,A90,H⟩:=H
  try dsimp only at H
  have A9:=a_ A90
  clear A90
  by_cases c10:t1189=true
  ·subst c10
   have H1:((spec_l6In.f a0_1 1 18).bind fun t1190=>(if t1190=true then ((spec_l1Text.f k a0_2).bind fun t1191=>(some t1191)) else (some false)))=some r:=by rw [if_pos rfl] at H;exact H
   clear H
   have H:=H1
   clear H1
   replace H:=bs_ H
   obtain ⟨t1190,A110,H⟩:=H
   try dsimp only at H
   have A11:=a_ A110
   clear A110
   by_cases c12:t1190=true
   ·subst c12
    have H1:((spec_l1Text.f k a0_2).bind fun t1191=>(some t1191))=some r:=by rw [if_pos rfl] at H;exact H
    clear H
    have H:=H1
    clear H1
    replace H:=bs_ H
    obtain ⟨t1191,A130,H⟩:=H
    try dsimp only at H
    have A13:=a_ A130
    clear A130
    obtain rfl:=sj_ H
    go_enter Tryd.func140,Tryd.ntmps140
    go_wp2_with (first|((with_reducible refine gD_ (N:=1) rfl ?_);refine bx_ 1 (#[.int .i64 a0_0,.int .i64 a0_1,.string a0_2]) 69 ?_;intro gb1187 hg w14 hbox hb;have n0_:=a_ (bS_ (bel_) hb);have n1_:=a_ (hbox);have n2_:=a_ ((by rw [hg];exact (below_size (bel_)):w.heap.size≤gb1187));have n3_:=a_ ((by rw [hg];exact (below_size (bel_)):w.heap.size≤gb1187));clear HB;have HB:=n0_;have BK1187:=n1_;have GW1187:=n2_;have GE1187:=n3_;clear n0_ n1_ n2_ n3_;clear hb hbox hg;obtain ⟨Z15_0,Z15_1,Z15_2,Y15_0,Y15_1,Y15_2⟩:=op3_ BK1187.out)|((with_reducible refine gC_ (f:=141) rfl ?_);refine gl_ 5 Tryd.func141 #[.int .i64 a0_0] ?_;(with_reducible refine (spec_l1Root.calls a0_0 false _ A2.out).mono ?_);rintro e w' ⟨rfl,⟨nd,rfl⟩⟩;refine ⟨_,rfl,?_⟩)|((with_reducible refine gC_ (f:=120) rfl ?_);refine gl_ 16 Tryd.func120 #[.int .i64 a0_0] ?_;(with_reducible refine (spec_l1Made.calls a0_0 true _ A9.out).mono ?_);rintro e w' ⟨rfl,⟨nd,rfl⟩⟩;refine ⟨_,rfl,?_⟩)|(go_at_call 75;(with_reducible refine (spec_l6In.calls a0_1 1 18 true _ A11.out).mono ?_);rintro e w' ⟨rfl,⟨nd,rfl⟩⟩)|(go_at_call 121;(with_reducible refine (spec_l1Text.calls k a0_2 t1191 _ A13.out).mono ?_);rintro e w' ⟨rfl,⟨nd,rfl⟩⟩))
    go_ret
    exact ⟨fi_,bel_⟩
   ·replace c12:=Bool.eq_false_iff.mpr c12
    subst c12
    have H1:(some false)=some r:=by rw [if_neg (show ¬ (false=true) by decide)] at H;exact H
    clear H
    have H:=H1
    clear H1
    obtain rfl:=sj_ H
    go_enter Tryd.func140,Tryd.ntmps140
    go_wp2_with (first|((with_reducible refine gD_ (N:=1) rfl ?_);refine bx_ 1 (#[.int .i64 a0_0,.int .i64 a0_1,.string a0_2]) 69 ?_;intro gb1187 hg w16 hbox hb;have n0_:=a_ (bS_ (bel_) hb);have n1_:=a_ (hbox);have n2_:=a_ ((by rw [hg];exact (below_size (bel_)):w.heap.size≤gb1187));have n3_:=a_ ((by rw [hg];exact (below_size (bel_)):w.heap.size≤gb1187));clear HB;have HB:=n0_;have BK1187:=n1_;have GW1187:=n2_;have GE1187:=n3_;clear n0_ n1_ n2_ n3_;clear hb hbox hg;obtain ⟨Z17_0,Z17_1,Z17_2,Y17_0,Y17_1,Y17_2⟩:=op3_ BK1187.out)|((with_reducible refine gC_ (f:=141) rfl ?_);refine gl_ 5 Tryd.func141 #[.int .i64 a0_0] ?_;(with_reducible refine (spec_l1Root.calls a0_0 false _ A2.out).mono ?_);rintro e w' ⟨rfl,⟨nd,rfl⟩⟩;refine ⟨_,rfl,?_⟩)|((with_reducible refine gC_ (f:=120) rfl ?_);refine gl_ 16 Tryd.func120 #[.int .i64 a0_0] ?_;(with_reducible refine (spec_l1Made.calls a0_0 true _ A9.out).mono ?_);rintro e w' ⟨rfl,⟨nd,rfl⟩⟩;refine ⟨_,rfl,?_⟩)|(go_at_call 75;(with_reducible refine (spec_l6In.calls a0_1 1 18 false _ A11.out).mono ?_);rintro e w' ⟨rfl,⟨nd,rfl⟩⟩))
    go_ret
    exact ⟨fi_,bel_⟩
  ·replace c10:=Bool.eq_false_iff.mpr c10
   subst c10
   have H1:(some false)=some r:=by rw [if_neg (show ¬ (false=true) by decide)] at H;exact H
   clear H
   have H:=H1
   clear H1
   obtain rfl:=sj_ H
   go_enter Tryd.func140,Tryd.ntmps140
   go_wp2_with (first|((with_reducible refine gD_ (N:=1) rfl ?_);refine bx_ 1 (#[.int .i64 a0_0,.int .i64 a0_1,.string a0_2]) 69 ?_;intro gb1187 hg w18 hbox hb;have n0_:=a_ (bS_ (bel_) hb);have n1_:=a_ (hbox);have n2_:=a_ ((by rw [hg];exact (below_size (bel_)):w.heap.size≤gb1187));have n3_:=a_ ((by rw [hg];exact (below_size (bel_)):w.heap.size≤gb1187));clear HB;have HB:=n0_;have BK1187:=n1_;have GW1187:=n2_;have GE1187:=n3_;clear n0_ n1_ n2_ n3_;clear hb hbox hg;obtain ⟨Z19_0,Z19_1,Z19_2,Y19_0,Y19_1,Y19_2⟩:=op3_ BK1187.out)|((with_reducible refine gC_ (f:=141) rfl ?_);refine gl_ 5 Tryd.func141 #[.int .i64 a0_0] ?_;(with_reducible refine (spec_l1Root.calls a0_0 false _ A2.out).mono ?_);rintro e w' ⟨rfl,⟨nd,rfl⟩⟩;refine ⟨_,rfl,?_⟩)|((with_reducible refine gC_ (f:=120) rfl ?_);refine gl_ 16 Tryd.func120 #[.int .i64 a0_0] ?_;(with_reducible refine (spec_l1Made.calls a0_0 false _ A9.out).mono ?_);rintro e w' ⟨rfl,⟨nd,rfl⟩⟩;refine ⟨_,rfl,?_⟩))
   go_ret
   exact ⟨fi_,bel_⟩

end Go.Proofs.YtdpklbomhdpimaaDoor.P
namespace Go.Proofs.YtdpklbomhdpimaaDoor.PL
open Go.RowKit Go.Proofs.YtdpklbomhdpimaaDoor.P Go.Proofs.YtdpklbomhdpimaaDoorW.PrintWords Go.Proofs.YtdpklbomhdpimaaDoorW.PrintLast
theorem evnow {α:Type} (a:α):Ev (fun _=>some a) a:=⟨0,fun _ _=>rfl⟩
theorem ev_neg {α:Type} {c:Prop} [Decidable c] {f g:Nat→Option α} {r:α} (h:¬ c) (k:Ev g r):Ev (fun n=>if c then f n else g n) r:=Ev.congr (fun _=>if_neg h) k
theorem ev_pos {α:Type} {c:Prop} [Decidable c] {f g:Nat→Option α} {r:α} (h:c) (k:Ev f r):Ev (fun n=>if c then f n else g n) r:=Ev.congr (fun _=>if_pos h) k
theorem wrapS (i:Int) (h0:0≤i) (h:i≤4611686018427387904):wrap64 (i+1)=i+1:=by unfold wrap64;omega
theorem wrapT (i:Int) (h0:0≤i) (h:i+1≤9223372036854775807):wrap64 (i+1)=i+1:=by unfold wrap64;omega
def I64 (a:Int):Prop:=-9223372036854775808≤a∧a≤9223372036854775807

def madeB (a:Int):Bool:=decide (ownI a≠0)&&decide (ownI a≠1)
def rootB (a:Int):Bool:=decide (1≤a)&&decide (a≤3)
theorem in_f (a b c:Int):spec_l6In.f a b c=some (decide (b≤a)&&decide (a≤c)):=by
 unfold spec_l6In.f
 by_cases h:a≥b
 ·rw [if_pos h];simp [h]
 ·rw [if_neg h];simp [show ¬ b≤a from h]
theorem ownI_out (a:Int) (h:a < 0∨37≤a):ownI a=0:=by
 unfold ownI
 rw [if_neg (by omega)]
theorem small_made:∀ n:Nat,n < 37→(decide (1≤Int.tdiv (n:Int) 10)&&decide (Int.tdiv (n:Int) 10≤3))=true→(decide (1≤Int.tmod (n:Int) 10)&&decide (Int.tmod (n:Int) 10≤6))=madeB n:=by decide
theorem small_unmade:∀ n:Nat,n < 37→(decide (1≤Int.tdiv (n:Int) 10)&&decide (Int.tdiv (n:Int) 10≤3))=false→madeB n=false:=by decide
theorem small_who:∀ n:Nat,n < 37→madeB n=true→ownI n - 1=Int.tdiv (n:Int) 10:=by decide
theorem small_root:∀ n:Nat,n < 37→(decide (ownI n≠0)&&decide (ownI n - 1=0))=rootB n:=by decide
theorem tdiv_wrap (a:Int) (h:I64 a):wrap64 (Int.tdiv a 10)=Int.tdiv a 10:=by
 obtain ⟨h1,h2⟩:=h
 have:Int.tdiv a 10≤9223372036854775807∧-9223372036854775808≤Int.tdiv a 10:=by
  rcases Int.le_total 0 a with h0|h0
  ·rw [Int.tdiv_eq_ediv_of_nonneg h0];omega
  ·have e:Int.tdiv a 10=-(Int.tdiv (-a) 10):=by rw [Int.neg_tdiv,Int.neg_neg]
   rw [e,Int.tdiv_eq_ediv_of_nonneg (by omega)];omega
 unfold wrap64;omega
theorem made_f (a:Int) (h:I64 a):spec_l1Made.f a=some (madeB a):=by
 unfold spec_l1Made.f
 rw [in_f,in_f,tdiv_wrap a h]
 simp only [Option.bind_some]
 by_cases hs:0≤a∧a < 37
 ·obtain ⟨n,rfl⟩:∃ n:Nat,a=n:=⟨a.toNat,by omega⟩
  have hn:n < 37:=by omega
  cases hd:(decide (1≤Int.tdiv (n:Int) 10)&&decide (Int.tdiv (n:Int) 10≤3)) with
  | true=>rw [if_pos rfl,small_made n hn hd]
  | false=>rw [if_neg (by decide),small_unmade n hn hd]
 ·have ho:madeB a=false:=by unfold madeB;rw [ownI_out a (by omega)];rfl
  rw [ho]
  rcases Int.lt_or_le a 0 with h0|h0
  ·have e:Int.tdiv a 10=-(Int.tdiv (-a) 10):=by rw [Int.neg_tdiv,Int.neg_neg]
   have h1:Int.tdiv a 10≤0:=by rw [e,Int.tdiv_eq_ediv_of_nonneg (by omega)];omega
   have h2:decide (1≤Int.tdiv a 10)=false:=df_ (by omega)
   rw [h2]
   simp
  ·have e1:=Int.tdiv_eq_ediv_of_nonneg (b:=10) h0
   have e2:Int.tmod a 10=a % 10:=Int.tmod_eq_emod_of_nonneg h0
   rw [e1,e2]
   by_cases h3:a / 10≤3
   ·have h4:decide (a % 10≤6)=false:=df_ (by omega)
    rw [h4]
    simp
   ·have h4:decide (a / 10≤3)=false:=df_ h3
    rw [h4]
    simp
theorem isMade_f (a:Int):impl_isMade.f a=some (madeB a):=by
 unfold impl_isMade.f impl_RowWho.f madeB
 simp only [Option.bind_some]
 by_cases h0:ownI a=0
 ·rw [if_pos h0];simp [h0]
 ·rw [if_neg h0]
  by_cases h1:ownI a=1
  ·simp [h1]
  ·simp [h0,h1]
   omega
theorem isRoot_f (a:Int):impl_isRoot.f a=some (rootB a):=by
 unfold impl_isRoot.f impl_RowWho.f
 simp only [Option.bind_some]
 by_cases hs:0≤a∧a < 37
 ·obtain ⟨n,rfl⟩:∃ n:Nat,a=n:=⟨a.toNat,by omega⟩
  have:=small_root n (by omega)
  rw [←this]
  by_cases h0:ownI (n:Int)=0
  ·rw [if_pos h0];simp [h0]
  ·rw [if_neg h0]
   by_cases h1:ownI (n:Int) - 1=0 <;> simp [h0,h1]
 ·rw [if_pos (ownI_out a (by omega))]
  have:rootB a=false:=by unfold rootB;simp;omega
  rw [this]
  simp
theorem root_f (a:Int):spec_l1Root.f a=some (rootB a):=by
 unfold spec_l1Root.f
 rw [in_f]
 rfl
def idB (a:Int):Bool:=rootB a || madeB a
theorem id_f (a:Int) (h:I64 a):spec_l3Id.f a=some (idB a):=by
 unfold spec_l3Id.f idB
 rw [root_f,made_f a h]
 simp only [Option.bind_some]
 cases rootB a <;> simp
def placeB (u a:Int):Bool:=idB u&&(decide (a=0) || madeB a)
theorem place_f (u a:Int):impl_placeOk.f u a=some (placeB u a):=by
 unfold impl_placeOk.f placeB idB
 rw [isMade_f,isMade_f,isRoot_f]
 simp only [Option.bind_some]
 by_cases h:a=0
 ·simp only [h,if_true]
  cases madeB u <;> cases rootB u <;> simp
 ·simp only [h,if_false]
  cases madeB u <;> cases rootB u <;> simp
def textFrom (s:ByteArray) (i:Nat):Nat→Bool
 | 0=>true
 | n+1=>decide (97≤bt s i)&&decide (bt s i≤100)&&textFrom s (i+1) n
def textB (s:ByteArray):Bool:=textFrom s 0 s.size&&decide (s.size≤4)
theorem bt_range (s:ByteArray) (i:Int):0≤bt s i∧bt s i≤255:=by
 unfold bt
 split
 ·rename_i h
  have:=(s[i.toNat]'h).toNat_lt
  omega
 ·omega
theorem text_l0 (s:ByteArray) (hs:s.size≤9223372036854775807):∀ (n:Nat) (i:Nat),i+n=s.size→Ev (fun k=>spec_l1Text.l0 k s i) (textFrom s i n&&decide (s.size≤4))
 | 0,i,h=>by
  refine Ev.step (f:=fun _=>some (decide ((s.size:Int)≤4))) (fun k=>?_) ?_
  ·simp only [spec_l1Text.l0];rw [if_neg (by omega)]
  ·have:decide ((s.size:Int)≤4)=(textFrom s i 0&&decide (s.size≤4)):=by simp [textFrom];omega
   rw [this];exact evnow _
 | n+1,i,h=>by
  have hw:wrap64 (bt s i)=bt s i:=by have:=bt_range s i;unfold wrap64;omega
  unfold textFrom
  cases ht:(decide (97≤bt s i)&&decide (bt s i≤100)) with
  | true =>
   rw [Bool.true_and]
   refine Ev.step (fun k=>?_) (text_l0 s hs n (i+1) (by omega))
   simp only [spec_l1Text.l0]
   rw [if_pos (by omega),if_pos (by omega),hw,in_f,ht,Option.bind_some,if_pos rfl,wrapT i (by omega) (by omega)]
   rfl
  | false =>
   rw [Bool.false_and,Bool.false_and]
   refine Ev.step (f:=fun _=>some false) (fun k=>?_) (evnow _)
   simp only [spec_l1Text.l0]
   rw [if_pos (by omega),if_pos (by omega),hw,in_f,ht,Option.bind_some,if_neg (by decide)]
theorem text_f (s:ByteArray) (hs:s.size≤9223372036854775807):Ev (fun k=>spec_l1Text.f k s) (textB s):=text_l0 s hs s.size 0 (by omega)
theorem itext_l0 (s:ByteArray) (hs:s.size≤9223372036854775807):∀ (n:Nat) (i:Nat),i+n=s.size→Ev (fun k=>impl_textOk.l0 k s i) (textFrom s i n)
 | 0,i,h=>by
  refine Ev.step (f:=fun _=>some true) (fun k=>?_) (evnow _)
  simp only [impl_textOk.l0];rw [if_neg (by omega)]
 | n+1,i,h=>by
  unfold textFrom
  by_cases h1:bt s i < 97
  ·have:decide (97≤bt s i)=false:=df_ (by omega)
   rw [this,Bool.false_and,Bool.false_and]
   refine Ev.step (f:=fun _=>some false) (fun k=>?_) (evnow _)
   simp only [impl_textOk.l0]
   rw [if_pos (by omega),if_pos (by omega),if_pos h1]
  ·by_cases h2:bt s i > 100
   ·have:decide (bt s i≤100)=false:=df_ (by omega)
    rw [this,Bool.and_false,Bool.false_and]
    refine Ev.step (f:=fun _=>some false) (fun k=>?_) (evnow _)
    simp only [impl_textOk.l0]
    rw [if_pos (by omega),if_pos (by omega),if_neg h1,if_pos h2]
   ·have e1:decide (97≤bt s i)=true:=dt_ (by omega)
    have e2:decide (bt s i≤100)=true:=dt_ (by omega)
    rw [e1,e2,Bool.true_and,Bool.true_and]
    refine Ev.step (fun k=>?_) (itext_l0 s hs n (i+1) (by omega))
    simp only [impl_textOk.l0]
    rw [if_pos (by omega),if_pos (by omega),if_neg h1,if_neg h2,wrapT i (by omega) (by omega)]
    rfl
theorem itext_f (s:ByteArray) (hs:s.size≤9223372036854775807):Ev (fun k=>impl_textOk.f k s) (textB s):=by
 unfold impl_textOk.f textB
 by_cases h:(s.size:Int) > 4
 ·refine ev_pos h ?_
  have:decide (s.size≤4)=false:=df_ (by omega)
  rw [this,Bool.and_false]
  exact evnow _
 ·refine ev_neg h ?_
  have:decide (s.size≤4)=true:=dt_ (by omega)
  rw [this,Bool.and_true]
  exact itext_l0 s hs s.size 0 (by omega)
theorem text_nil (s:ByteArray) (h:s.toList.isEmpty=true):textB s=true:=by
 have:s.size=0:=by
  have h2:=List.isEmpty_iff.1 h
  have h3:s.toList.length=s.size:=by rw [Go.ByteArray.toList_eq];exact Array.length_toList
  rw [←h3,h2];rfl
 unfold textB
 rw [this]
 rfl
def opB (k i u a:Int) (s:ByteArray):Bool :=
 madeB i&&(if k=1 then placeB u a&&textB s else if k=2 then decide (u=0)&&decide (a=0)&&textB s else if k=3 then placeB u a&&s.toList.isEmpty else false)
theorem opOk_f (k i u a:Int) (s:ByteArray) (hs:s.size≤9223372036854775807):Ev (fun n=>impl_OpOk.f n k i u a s) (opB k i u a s):=by
 unfold impl_OpOk.f impl_changeOf.f opB
 rw [isMade_f]
 simp only [Option.bind_some]
 cases madeB i with
 | false=>simp only [Bool.false_eq_true,if_false,Bool.false_and];exact evnow _
 | true =>
  simp only [if_true,Bool.true_and,place_f,Option.bind_some]
  by_cases h1:k=1
  ·simp only [h1,if_true]
   cases placeB u a with
   | true=>simp only [if_true,Bool.true_and];exact itext_f s hs
   | false=>simp only [Bool.false_eq_true,if_false,Bool.false_and];exact evnow _
  ·simp only [h1,if_false]
   by_cases h2:k=2
   ·simp only [h2,if_true]
    by_cases h3:u=0
    ·by_cases h4:a=0
     ·simp only [h3,h4,if_true,decide_true,Bool.true_and];exact itext_f s hs
     ·simp only [h3,h4,if_true,if_false,decide_true,decide_false,Bool.true_and,Bool.false_and];exact evnow _
    ·simp only [h3,if_false,decide_false,Bool.false_and];exact evnow _
   ·simp only [h2,if_false]
    by_cases h3:k=3
    ·simp only [h3,if_true]
     cases placeB u a with
     | true=>simp only [if_true,Bool.true_and];exact evnow _
     | false=>simp only [Bool.false_eq_true,if_false,Bool.false_and];exact evnow _
    ·simp only [h3,if_false];exact evnow _
theorem sop_f (k i u a:Int) (s:ByteArray) (hi:I64 i) (hu:I64 u) (ha:I64 a) (hs:s.size≤9223372036854775807):Ev (fun n=>spec_OpOk.f n k i u a s) (opB k i u a s):=by
 unfold spec_OpOk.f opB
 rw [made_f i hi]
 simp only [Option.bind_some]
 cases madeB i with
 | false =>
  simp only [Bool.false_eq_true,if_false,Bool.false_and]
  refine Ev.step (f:=fun _=>some false) (fun n=>?_) (evnow _)
  simp only [spec_OpOk.j0,if_true]
 | true =>
  simp only [if_true,Bool.true_and]
  refine Ev.bind (text_f s hs) ?_
  have hp:(idB u&&(decide (a=0) || madeB a))=placeB u a:=rfl
  cases ht:textB s with
  | false =>
   have hne:s.toList.isEmpty=false:=by
    cases he:s.toList.isEmpty with
    | false=>rfl
    | true=>rw [text_nil s he] at ht;cases ht
   refine Ev.step (f:=fun _=>some false) (fun n=>?_) ?_
   ·simp only [spec_OpOk.j0,Bool.not_false,if_true]
   ·simp only [hne,Bool.and_false,ite_self]
    exact evnow _
  | true =>
   refine Ev.step (f:=fun _=>some (if k=1 then placeB u a&&true else if k=2 then decide (u=0)&&decide (a=0)&&true else if k=3 then placeB u a&&s.toList.isEmpty else false)) (fun n=>?_) (evnow _)
   simp only [spec_OpOk.j0,Bool.not_true,Bool.false_eq_true,if_false]
   rw [id_f u hu,made_f a ha]
   simp only [Option.bind_some,Bool.and_true]
   rw [←hp]
   have hnil:(s.toList==([]:List UInt8))=s.toList.isEmpty:=by cases s.toList <;> rfl
   rw [hnil]
   by_cases h1:k=1
   ·simp only [h1,if_true]
    by_cases h4:a=0
    ·simp only [h4,if_true,decide_true,Bool.true_or,Bool.and_true];cases idB u <;> simp
    ·simp only [h4,if_false,decide_false,Bool.false_or];cases idB u <;> simp
   ·simp only [h1,if_false]
    by_cases h2:k=2
    ·simp only [h2,if_true]
     by_cases h3:u=0
     ·simp [h3];by_cases h4:a=0 <;> simp [h4]
     ·simp [h3]
    ·simp only [h2,if_false]
     by_cases h3:k=3
     ·simp only [h3,if_true]
      by_cases h4:a=0
      ·simp only [h4,if_true,decide_true,Bool.true_or,Bool.and_true];cases idB u <;> simp
      ·simp only [h4,if_false,decide_false,Bool.false_or];cases idB u <;> cases madeB a <;> simp
     ·simp only [h3,if_false]
theorem made_small (a:Int) (h:madeB a=true):0≤a∧a < 37:=by
 rcases Int.lt_or_le a 0 with h0|h0
 ·unfold madeB at h;rw [ownI_out a (by omega)] at h;simp at h
 ·rcases Int.lt_or_le a 37 with h1|h1
  ·exact ⟨h0,h1⟩
  ·unfold madeB at h;rw [ownI_out a (by omega)] at h;simp at h
theorem opB_made (k i u a:Int) (s:ByteArray) (h:opB k i u a s=true):madeB i=true:=by
 unfold opB at h
 simp only [Bool.and_eq_true] at h
 exact h.1
def rowB (r:S69):Bool:=if rootB r.f0 then decide (r.f1=0)&&(r.f2.toList==([]:List UInt8)) else madeB r.f0&&(decide (1≤r.f1)&&(decide (r.f1≤18)&&textB r.f2))
theorem itext_any (s:ByteArray):Ev (fun k=>impl_textOk.f k s) (textB s):=by
 by_cases hs:s.size≤9223372036854775807
 ·exact itext_f s hs
 ·have e:textB s=false:=by unfold textB;simp;omega
  rw [e]
  refine Ev.congr (fun k=>?_) (evnow false)
  unfold impl_textOk.f
  exact if_pos (by omega)
theorem row_f (r:S69):Ev (fun k=>impl_RowOk.f k r.f0 r.f1 r.f2) (rowB r):=by
 unfold impl_RowOk.f rowB
 rw [isRoot_f,isMade_f]
 simp only [Option.bind_some]
 cases rootB r.f0 with
 | true =>
  simp only [if_true]
  by_cases h:r.f1=0
  ·simp only [h,if_true,decide_true,Bool.true_and];exact evnow _
  ·simp only [h,if_false,decide_false,Bool.false_and];exact evnow _
 | false =>
  cases madeB r.f0 with
  | false=>simp only [Bool.false_eq_true,if_false,Bool.false_and];exact evnow _
  | true =>
   simp only [Bool.false_eq_true,if_false,if_true,Bool.true_and]
   by_cases h1:1≤r.f1
   ·refine ev_pos h1 ?_
    by_cases h2:r.f1≤18
    ·refine ev_pos h2 ?_
     simp only [h1,h2,decide_true,Bool.true_and]
     exact Ev.bind (itext_any r.f2) (evnow _)
    ·refine ev_neg h2 ?_
     simp only [h1,h2,decide_true,decide_false,Bool.true_and,Bool.false_and]
     exact evnow _
   ·refine ev_neg h1 ?_
    simp only [h1,decide_false,Bool.false_and]
    exact evnow _
theorem srow_f (r:S69) (hi:I64 r.f0) (hs:r.f2.size≤9223372036854775807):Ev (fun k=>spec_RowOk.f k r.f0 r.f1 r.f2) (rowB r):=by
 unfold spec_RowOk.f rowB
 rw [root_f,made_f _ hi,in_f]
 simp only [Option.bind_some]
 cases rootB r.f0 with
 | true =>
  simp only [if_true]
  by_cases h:r.f1=0
  ·simp only [h,if_true,decide_true,Bool.true_and];exact evnow _
  ·simp only [h,if_false,decide_false,Bool.false_and];exact evnow _
 | false =>
  cases madeB r.f0 with
  | false=>simp only [Bool.false_eq_true,if_false,Bool.false_and];exact evnow _
  | true =>
   simp only [Bool.false_eq_true,if_false,if_true,Bool.true_and]
   cases h:(decide (1≤r.f1)&&decide (r.f1≤18)) with
   | true =>
    simp only [Bool.and_eq_true] at h
    rw [h.1,h.2]
    simp only [if_true,Bool.true_and]
    exact Ev.bind (text_f r.f2 hs) (evnow _)
   | false =>
    rw [←Bool.and_assoc,h]
    simp only [Bool.false_eq_true,if_false,Bool.false_and]
    exact evnow _
end Go.Proofs.YtdpklbomhdpimaaDoor.PL
namespace Go.Proofs.YtdpklbomhdpimaaDoor.P
open Go.RowKit Go.Proofs.YtdpklbomhdpimaaDoorW.PrintWords Go.Proofs.YtdpklbomhdpimaaDoorW.PrintLast Go.Proofs.YtdpklbomhdpimaaDoorW.PrintMore Go.Proofs.YtdpklbomhdpimaaDoor.PL
def treeGo (seen:List Int) (roots depth:Int):List S69→Bool
 | []=>decide (roots=3)
 | r::rest=>rowB r&&(decide (r.f0∉seen)&&(decide (r.f1≤depth+1) &&
   (if rootB r.f0 then decide (r.f0=roots+1)&&treeGo (r.f0::seen) (roots+1) r.f1 rest else treeGo (r.f0::seen) roots r.f1 rest)))
def treeB (l:List S69):Bool:=treeGo [] 0 (-1) l
def impl_TreeOk.f (k:Nat) (l0:List S69):Option Bool:=some (treeB l0)
def timesC (seen:List Int):Array Value:=((List.range 37).map fun i:Nat=>Value.int .i64 (if (i:Int)∈seen then 1 else 0)).toArray
theorem timesC_get (seen:List Int) (i:Nat) (hi:i < 37):(timesC seen)[i]?=some (.int .i64 (if (i:Int)∈seen then 1 else 0)):=by
 simp [timesC,hi]
theorem timesC_set (seen:List Int) (i:Nat) (hi:i < 37) (hs:(i:Int)∉seen):(timesC seen).setIfInBounds i (.int .i64 1)=timesC ((i:Int)::seen):=by
 unfold timesC
 rw [List.setIfInBounds_toArray]
 congr 1
 apply List.ext_getElem (by simp)
 intro k h1 h2
 simp only [List.getElem_set,List.getElem_map,List.getElem_range,List.mem_cons]
 by_cases hk:i=k
 ·subst hk;simp
 ·have:¬ ((k:Int)=(i:Int)):=fun e=>hk (by omega)
  rw [if_neg hk]
  simp [this]
theorem rowB_id {r:S69} (h:rowB r=true):0≤r.f0∧r.f0 < 37∧0≤r.f1∧r.f1≤18:=by
 unfold rowB at h
 by_cases hr:rootB r.f0=true
 ·rw [if_pos hr] at h
  unfold rootB at hr
  simp only [Bool.and_eq_true,decide_eq_true_eq] at hr h
  omega
 ·rw [if_neg hr] at h
  simp only [Bool.and_eq_true,decide_eq_true_eq] at h
  have:=made_small _ h.1
  omega
def TreeRel (l0:List S69) (r:Bool) (w:World) (ro dp i:Value) (wr:World):Prop :=
 ∃ (j roots depth:Int) (seen:List Int),0≤j∧j≤l0.length∧i=.int .i64 j∧ro=.int .i64 roots∧dp=.int .i64 depth∧(0≤roots∧roots≤3)∧(-1≤depth∧depth≤18)∧Aside0 (treeGo seen roots depth (l0.drop j.toNat)=r) ∧
  Aside0 (wr.heap[w.heap.size]?=some (.cells (timesC seen) 126 (0,0)))∧Aside0 (Below w.heap.size w wr)
theorem impl_TreeOk.calls (k:Nat) (A0:Option Addr) (c0:Nat) (l0:List S69) (r:Bool) (w:World) (hr0:Kd.C k69 w A0 l0.length l0) (hc0:l0.length≤c0) (h:impl_TreeOk.f k l0=some r) (hG:Glob w) :
  Calls Tryd.prog 45 #[.slice A0 l0.length c0] w fun e w'=>e=.returned (.bool r)∧Below w.heap.size w w':=by
 have hlen:=hr0.2.1
 have HR0:=a_ hr0
 have HG:=a_ hG
 have HH:=a_ (sj_ h)
 clear hr0 hG h
 go_enter Tryd.func45,Tryd.ntmps45
 go_wp2
 go_loopw [4,5,10] (fun ro dp i wr=>TreeRel l0 r w ro dp i wr) (fun _ _ i _=>l0.length - (intOf i).toNat)
 case atStart=>exact ⟨0,0,-1,[],Int.le_refl _,by omega,rfl,rfl,rfl,by omega,by omega,HH,⟨heap_alloc_new w (.cells (timesC []) 126)⟩,⟨below_box0 w _⟩⟩
 case round =>
  obtain ⟨j,roots,depth,seen,hj0,hj,rfl,rfl,rfl,hro,hdp,HGO,HT,HB⟩:=hrel
  clear HH
  by_cases hlt:j < l0.length
  ·have hd1:decide (j < (l0.length:Int))=true:=dt_ hlt
   obtain ⟨ad,e,hx0,hx1,hx2⟩:=at_T69 HR0.out j hj0 hlt
   cases e
   replace hx0:=(cb_ HB.out hx0 :)
   replace hx1:=(cb_ HB.out hx1 :)
   replace hx2:=(cb_ HB.out hx2 :)
   have hu:=Tryd.underlying69
   have hxe:rd_T69 l0 j=l0[j.toNat]'(by omega):=by
    unfold rd_T69
    rw [List.getD_eq_getElem?_getD,List.getElem?_eq_getElem (by omega)]
    rfl
   have htd:=List.drop_eq_getElem_cons (l:=l0) (i:=j.toNat) (by omega)
   rw [←hxe] at htd
   have hgo:=HGO.out
   rw [htd] at hgo
   clear HGO hxe
   generalize rd_T69 l0 j=x at hx0 hx1 hx2 htd hgo
   rw [show j.toNat+1=(j+1).toNat by omega] at htd hgo
   unfold treeGo at hgo
   obtain ⟨kr,hkr⟩:=row_f x
   have HKR:=a_ (hkr kr (Nat.le_refl _))
   have p1:=eq_true hj0
   have q1:=eq_true hlt
   have HGO:=a_ hgo
   have HTD:=a_ htd
   have HJ:=a_ (And.intro hj0 (And.intro hlt (And.intro hro hdp)))
   have HL:=a_ (show w.heap.size < wr.heap.size from blk_lt HT.out)
   have HB1:=a_ (wA_ HB.out (.cells #[.int .i64 x.f0,.int .i64 x.f1,.string x.f2] 69))
   have HT1:=a_ (bA_ HT.out (.cells #[.int .i64 x.f0,.int .i64 x.f1,.string x.f2] 69))
   clear hj0 hlt htd hgo hkr HB HT hro hdp
   by_cases hrow:rowB x=true
   ·have hid:=rowB_id hrow
    rw [hrow] at HKR
    have hgo:=HGO.out
    rw [hrow,Bool.true_and] at hgo
    clear HGO hrow
    obtain ⟨i,hi⟩:=Int.eq_ofNat_of_zero_le hid.1
    have hi37:i < 37:=by omega
    have hne:w.heap.size≠wr.heap.size:=by have:=HL.out;omega
    have hne':wr.heap.size≠w.heap.size:=fun e=>hne e.symm
    have i0:0≤(i:Int):=by omega
    have i37:(i:Int) < 37:=by omega
    have hf1:0≤x.f1:=hid.2.2.1
    have hf18:x.f1≤18:=hid.2.2.2
    have hdp0:-1≤depth:=HJ.out.2.2.2.1
    have hdp1:depth≤18:=HJ.out.2.2.2.2
    rw [hi] at hgo HKR HB1 HT1 hx0
    have HXI:=a_ hi
    clear hi hid
    by_cases hs:(i:Int)∈seen
    ·have HTG:=a_ (show (timesC seen)[i]?=some (.int .i64 1) by rw [timesC_get seen i hi37,if_pos hs])
     have hr:r=false:=by rw [←hgo,df_ (fun h=>h hs)];rfl
     clear hgo hs
     subst hr
     go_wp2_with (go_at_call 97;refine (impl_RowOk.calls kr (i:Int) x.f1 x.f2 true _ HKR.out (HG.out.below HB1.out)).mono ?_;rintro e W2 ⟨rfl,hb⟩;have HB2:=a_ (bS_ HB1.out hb);have HT2:=a_ (blk_below HT1.out hb);have HX2:=a_ (blk_below (blk_new wr _) hb);clear hb;have d0:=(bC_ HX2.out 0).trans rfl;have d1:=(bC_ HX2.out 1).trans rfl;have t0:=(bC_ HT2.out i).trans HTG.out;have tf:=bF_ HT2.out i)
     go_ret
     exact ⟨rfl,HB2.out⟩
    ·have HTG:=a_ (show (timesC seen)[i]?=some (.int .i64 0) by rw [timesC_get seen i hi37,if_neg hs])
     have HTS:=a_ (timesC_set seen i hi37 hs)
     rw [dt_ hs,Bool.true_and] at hgo
     clear hs
     by_cases hdep:x.f1≤depth+1
     ·have hdb:decide (depth+1 < x.f1)=false:=df_ (by omega)
      rw [dt_ hdep,Bool.true_and] at hgo
      clear hdep
      by_cases hroot:rootB (i:Int)=true
      ·have HRF:=a_ (isRoot_f (i:Int))
       rw [hroot] at HRF
       rw [if_pos hroot] at hgo
       have hr3:1≤i∧i≤3:=by unfold rootB at hroot;simp at hroot;omega
       have hro0:0≤roots:=HJ.out.2.2.1.1
       have hro3:roots≤3:=HJ.out.2.2.1.2
       clear hroot
       by_cases hn:(i:Int)=roots+1
       ·have hb1:((i:Int) != roots+1)=false:=bne_eq_false_iff_eq.2 hn
        rw [dt_ hn,Bool.true_and] at hgo
        have HN:=a_ hn
        have HGO:=a_ hgo
        clear hn hgo
        go_wp2_with (first|(go_at_call 97;refine (impl_RowOk.calls kr (i:Int) x.f1 x.f2 true _ HKR.out (HG.out.below HB1.out)).mono ?_;rintro e W2 ⟨rfl,hb⟩;have HB2:=a_ (bS_ HB1.out hb);have HT2:=a_ (blk_below HT1.out hb);have HX2:=a_ (blk_below (blk_new wr _) hb);clear hb;have d0:=(bC_ HX2.out 0).trans rfl;have d1:=(bC_ HX2.out 1).trans rfl;have t0:=(bC_ HT2.out i).trans HTG.out;have tf:=bF_ HT2.out i)|(go_at_call 98;refine (impl_isRoot.calls (i:Int) true _ HRF.out (HG.out.below (wS_ HB2.out (Nat.le_refl _)))).mono ?_;rintro e w' ⟨rfl,⟨nd,rfl⟩⟩))
        have hjj:=HJ.out
        have hww:wrap64 (j+1)=j+1:=by unfold wrap64;omega
        refine ⟨⟨j+1,roots+1,x.f1,(i:Int)::seen,by omega,by omega,by first|rfl|rw [hww],rfl,rfl,by have:=HN.out;omega,by omega,HGO,⟨?_⟩,⟨pw_below_drewN (wS_ HB2.out (Nat.le_refl _)) _⟩⟩,?_⟩
        ·have:=blk_set HT2.out i (.int .i64 1)
         rw [HTS.out] at this
         exact this
        ·first|(show l0.length - (j+1).toNat < l0.length - j.toNat;omega)|(rw [hww];show l0.length - (j+1).toNat < l0.length - j.toNat;omega)
       ·have hb1:((i:Int) != roots+1)=true:=bne_iff_ne.2 hn
        rw [df_ hn,Bool.false_and] at hgo
        subst hgo
        clear hn
        go_wp2_with (first|(go_at_call 97;refine (impl_RowOk.calls kr (i:Int) x.f1 x.f2 true _ HKR.out (HG.out.below HB1.out)).mono ?_;rintro e W2 ⟨rfl,hb⟩;have HB2:=a_ (bS_ HB1.out hb);have HT2:=a_ (blk_below HT1.out hb);have HX2:=a_ (blk_below (blk_new wr _) hb);clear hb;have d0:=(bC_ HX2.out 0).trans rfl;have d1:=(bC_ HX2.out 1).trans rfl;have t0:=(bC_ HT2.out i).trans HTG.out;have tf:=bF_ HT2.out i)|(go_at_call 98;refine (impl_isRoot.calls (i:Int) true _ HRF.out (HG.out.below (wS_ HB2.out (Nat.le_refl _)))).mono ?_;rintro e w' ⟨rfl,⟨nd,rfl⟩⟩))
        go_ret
        exact ⟨rfl,pw_below_drewN (wS_ HB2.out (Nat.le_refl _)) _⟩
      ·have hroot:rootB (i:Int)=false:=by simpa using hroot
       have HRF:=a_ (isRoot_f (i:Int))
       rw [hroot] at HRF
       rw [if_neg (by rw [hroot];decide)] at hgo
       have HGO:=a_ hgo
       clear hroot hgo
       go_wp2_with (first|(go_at_call 97;refine (impl_RowOk.calls kr (i:Int) x.f1 x.f2 true _ HKR.out (HG.out.below HB1.out)).mono ?_;rintro e W2 ⟨rfl,hb⟩;have HB2:=a_ (bS_ HB1.out hb);have HT2:=a_ (blk_below HT1.out hb);have HX2:=a_ (blk_below (blk_new wr _) hb);clear hb;have d0:=(bC_ HX2.out 0).trans rfl;have d1:=(bC_ HX2.out 1).trans rfl;have t0:=(bC_ HT2.out i).trans HTG.out;have tf:=bF_ HT2.out i)|(go_at_call 98;refine (impl_isRoot.calls (i:Int) false _ HRF.out (HG.out.below (wS_ HB2.out (Nat.le_refl _)))).mono ?_;rintro e w' ⟨rfl,⟨nd,rfl⟩⟩))
       have hjj:=HJ.out
       have hww:wrap64 (j+1)=j+1:=by unfold wrap64;omega
       refine ⟨⟨j+1,roots,x.f1,(i:Int)::seen,by omega,by omega,by first|rfl|rw [hww],rfl,rfl,by omega,by omega,HGO,⟨?_⟩,⟨pw_below_drewN (wS_ HB2.out (Nat.le_refl _)) _⟩⟩,?_⟩
       ·have:=blk_set HT2.out i (.int .i64 1)
        rw [HTS.out] at this
        exact this
       ·first|(show l0.length - (j+1).toNat < l0.length - j.toNat;omega)|(rw [hww];show l0.length - (j+1).toNat < l0.length - j.toNat;omega)
     ·have hdb:decide (depth+1 < x.f1)=true:=dt_ (by omega)
      rw [df_ hdep,Bool.false_and] at hgo
      subst hgo
      clear hdep
      go_wp2_with (go_at_call 97;refine (impl_RowOk.calls kr (i:Int) x.f1 x.f2 true _ HKR.out (HG.out.below HB1.out)).mono ?_;rintro e W2 ⟨rfl,hb⟩;have HB2:=a_ (bS_ HB1.out hb);have HT2:=a_ (blk_below HT1.out hb);have HX2:=a_ (blk_below (blk_new wr _) hb);clear hb;have d0:=(bC_ HX2.out 0).trans rfl;have d1:=(bC_ HX2.out 1).trans rfl;have t0:=(bC_ HT2.out i).trans HTG.out;have tf:=bF_ HT2.out i)
      go_ret
      exact ⟨rfl,HB2.out⟩
   ·have hrow:rowB x=false:=by simpa using hrow
    rw [hrow] at HKR
    have hgo:=HGO.out
    rw [hrow,Bool.false_and] at hgo
    subst hgo
    clear hrow HGO
    go_wp2_with (go_at_call 97;refine (impl_RowOk.calls kr x.f0 x.f1 x.f2 false _ HKR.out (HG.out.below HB1.out)).mono ?_;rintro e W2 ⟨rfl,hb⟩;have HB2:=a_ (bS_ HB1.out hb);have HT2:=a_ (blk_below HT1.out hb);have HX2:=a_ (blk_below (blk_new wr _) hb);clear hb;have d0:=(bC_ HX2.out 0).trans rfl;have d1:=(bC_ HX2.out 1).trans rfl)
    go_ret
    exact ⟨rfl,HB2.out⟩
  ·have hd1:decide (j < (l0.length:Int))=false:=df_ hlt
   have hgo:=HGO.out
   rw [List.drop_eq_nil_of_le (by omega)] at hgo
   unfold treeGo at hgo
   have HGO2:=a_ hgo
   clear hgo HGO hlt
   by_cases h3:roots=3
   ·subst h3
    go_wp2
    go_ret
    exact ⟨by rw [←HGO2.out];rfl,HB.out⟩
   ·have hb3:(roots==3)=false:=beq_eq_false_iff_ne.2 h3
    have HGO3:=a_ (df_ h3)
    clear h3
    go_wp2
    go_ret
    exact ⟨by rw [←HGO2.out,HGO3.out];rfl,HB.out⟩
end Go.Proofs.YtdpklbomhdpimaaDoor.P
namespace Go.Proofs.YtdpklbomhdpimaaDoor.P
open Go.RowKit Go.Proofs.YtdpklbomhdpimaaDoorW.PrintWords Go.Proofs.YtdpklbomhdpimaaDoorW.PrintLast
mutual
def impl_ClientOk.j0:Nat→Bool→Int→Int→List (S69)→List (S44)→Int→Int→Option (Bool)
 | 0,_,_,_,_,_,_,_=>none
 | k+1,x24,x1137000,x1137001,x1137002,x1137003,x1137004,x1137005=>if x24=true then (some false) else (if x1137004 < 0 then (impl_ClientOk.j1 k true x1137000 x1137001 x1137002 x1137003 x1137004 x1137005) else (if x1137004 > x1137001 then (impl_ClientOk.j1 k true x1137000 x1137001 x1137002 x1137003 x1137004 x1137005) else (if (x1137003.length:Int) > (wrap64 (40 - x1137004)) then (impl_ClientOk.j1 k true x1137000 x1137001 x1137002 x1137003 x1137004 x1137005) else (if x1137005 < 0 then (impl_ClientOk.j1 k true x1137000 x1137001 x1137002 x1137003 x1137004 x1137005) else (impl_ClientOk.j1 k (decide (x1137005 > 6)) x1137000 x1137001 x1137002 x1137003 x1137004 x1137005)))))
def impl_ClientOk.j1:Nat→Bool→Int→Int→List (S69)→List (S44)→Int→Int→Option (Bool)
 | 0,_,_,_,_,_,_,_=>none
 | k+1,x53,x1137000,x1137001,x1137002,x1137003,x1137004,x1137005=>if x53=true then (some false) else (impl_ClientOk.l0 k x1137003 (x1137003.length:Int) 0 x1137000 x1137001 x1137002 x1137003 x1137004 x1137005)
def impl_ClientOk.l0:Nat→List (S44)→Int→Int→Int→Int→List (S69)→List (S44)→Int→Int→Option (Bool)
 | 0,_,_,_,_,_,_,_,_,_=>none
 | k+1,x55,x56,x57,x1137000,x1137001,x1137002,x1137003,x1137004,x1137005=>if x57 < x56 then (if 0≤x57 then (if x57 < (x55.length:Int) then ((impl_EntryOk.f k ((rd_T44 x55 x57).f0) ((rd_T44 x55 x57).f1) ((rd_T44 x55 x57).f2.f0) ((rd_T44 x55 x57).f2.f1) ((rd_T44 x55 x57).f2.f2) ((rd_T44 x55 x57).f2.f3) ((rd_T44 x55 x57).f2.f4)).bind fun t1141=>(if t1141=true then (if ((rd_T44 x55 x57).f0)=x1137000 then (impl_ClientOk.j3 k x55 x56 x57 (((rd_T44 x55 x57).f1) != (wrap64 ((wrap64 (x1137004+x57))+1))) x1137000 x1137001 x1137002 x1137003 x1137004 x1137005 ((rd_T44 x55 x57).f0) ((rd_T44 x55 x57).f1) ((rd_T44 x55 x57).f2.f0) ((rd_T44 x55 x57).f2.f1) ((rd_T44 x55 x57).f2.f2) ((rd_T44 x55 x57).f2.f3) ((rd_T44 x55 x57).f2.f4)) else (impl_ClientOk.j3 k x55 x56 x57 true x1137000 x1137001 x1137002 x1137003 x1137004 x1137005 ((rd_T44 x55 x57).f0) ((rd_T44 x55 x57).f1) ((rd_T44 x55 x57).f2.f0) ((rd_T44 x55 x57).f2.f1) ((rd_T44 x55 x57).f2.f2) ((rd_T44 x55 x57).f2.f3) ((rd_T44 x55 x57).f2.f4))) else (impl_ClientOk.j3 k x55 x56 x57 true x1137000 x1137001 x1137002 x1137003 x1137004 x1137005 ((rd_T44 x55 x57).f0) ((rd_T44 x55 x57).f1) ((rd_T44 x55 x57).f2.f0) ((rd_T44 x55 x57).f2.f1) ((rd_T44 x55 x57).f2.f2) ((rd_T44 x55 x57).f2.f3) ((rd_T44 x55 x57).f2.f4)))) else (none)) else (none)) else (some true)
def impl_ClientOk.j3:Nat→List (S44)→Int→Int→Bool→Int→Int→List (S69)→List (S44)→Int→Int→Int→Int→Int→Int→Int→Int→ByteArray→Option (Bool)
 | 0,_,_,_,_,_,_,_,_,_,_,_,_,_,_,_,_,_=>none
 | k+1,x55,x56,x57,x81,x1137000,x1137001,x1137002,x1137003,x1137004,x1137005,x1141000,x1141001,x1141002,x1141003,x1141004,x1141005,x1141006=>if x81=true then (some false) else (if x1141002=1 then (if x1141003 > (wrap64 ((wrap64 (10 * x1137000))+x1137005)) then (some false) else (impl_ClientOk.l0 k x55 x56 (wrap64 (x57+1)) x1137000 x1137001 x1137002 x1137003 x1137004 x1137005)) else (impl_ClientOk.l0 k x55 x56 (wrap64 (x57+1)) x1137000 x1137001 x1137002 x1137003 x1137004 x1137005))
end
def impl_ClientOk.f (k:Nat) (a0_0:Int) (a0_1:Int) (l0_2:List (S69)) (l0_3:List (S44)) (a0_4:Int) (a0_5:Int):Option (Bool):=(impl_whoOk.f a0_0).bind fun t1137=>(if t1137=true then (if a0_1 < 0 then (impl_ClientOk.j0 k true a0_0 a0_1 l0_2 l0_3 a0_4 a0_5) else (if a0_1 > 40 then (impl_ClientOk.j0 k true a0_0 a0_1 l0_2 l0_3 a0_4 a0_5) else ((impl_TreeOk.f k l0_2).bind fun t1138=>(impl_ClientOk.j0 k (!t1138) a0_0 a0_1 l0_2 l0_3 a0_4 a0_5)))) else (impl_ClientOk.j0 k true a0_0 a0_1 l0_2 l0_3 a0_4 a0_5))
theorem impl_ClientOk.calls (k:Nat) (a0_0:Int) (a0_1:Int) (A0_2:Option Addr) (c0_2:Nat) (l0_2:List (S69)) (A0_3:Option Addr) (c0_3:Nat) (l0_3:List (S44)) (a0_4:Int) (a0_5:Int) (r:Bool) (w:World) (hr0_2:Kd.C k69 w A0_2 l0_2.length l0_2) (hc0_2:l0_2.length≤c0_2) (hr0_3:Kd.C k44 w A0_3 l0_3.length l0_3) (hc0_3:l0_3.length≤c0_3) (h:impl_ClientOk.f k a0_0 a0_1 l0_2 l0_3 a0_4 a0_5=some r) (hG:Glob w) :
  Calls Tryd.prog 60 #[.agg #[.int .i64 a0_0,.int .i64 a0_1,.slice A0_2 l0_2.length c0_2,.slice A0_3 l0_3.length c0_3,.int .i64 a0_4,.int .i64 a0_5]] w fun e w'=>e=.returned (.bool r)∧Below w.heap.size w w':=by
 have hu77:=Tryd.underlying77
 have hu44:=Tryd.underlying44
 have HR0_2:=a_ hr0_2
 have HC0_2:=a_ hc0_2
 clear hr0_2 hc0_2
 have HR0_3:=a_ hr0_3
 have HC0_3:=a_ hc0_3
 clear hr0_3 hc0_3
 have HB:=a_ (Below.refl w.heap.size w)
 have HG:=a_ hG
 clear hG
 unfold impl_ClientOk.f at h
 have H:=h
 clear h
 have HC2:=a_ H
 clear H
 go_enter Tryd.func60,Tryd.ntmps60
 go_upto_region 1 with (first|((with_reducible refine gD_ (N:=1) rfl ?_);refine bx_ 1 (#[.int .i64 a0_0,.int .i64 a0_1,.slice A0_2 l0_2.length c0_2,.slice A0_3 l0_3.length c0_3,.int .i64 a0_4,.int .i64 a0_5]) 77 ?_;intro gb1136 hg w3 hbox hb;have n0_:=a_ (bS_ (bel_) hb);have n1_:=a_ (hbox);have n2_:=a_ ((by rw [hg];exact (below_size (bel_)):w.heap.size≤gb1136));have n3_:=a_ ((by rw [hg];exact (below_size (bel_)):w.heap.size≤gb1136));clear HB;have HB:=n0_;have BK1136:=n1_;have GW1136:=n2_;have GE1136:=n3_;clear n0_ n1_ n2_ n3_;clear hb hbox hg))
 (try simp only [Act.put,List.setIfInBounds_toArray,List.set_cons_zero,List.set_cons_succ])
 go_cut [24] (fun v24 wc=>∃ (kq:Nat) (x24_1:Bool),v24=.bool x24_1∧Aside0 (impl_ClientOk.j0 kq x24_1 a0_0 a0_1 l0_2 l0_3 a0_4 a0_5=some r)∧Aside0 (kq≤k)∧Aside0 (wc.heap[gb1136]?=some (.cells #[.int .i64 a0_0,.int .i64 a0_1,(.slice A0_2 l0_2.length c0_2),(.slice A0_3 l0_3.length c0_3),.int .i64 a0_4,.int .i64 a0_5] 77 (0,0)))∧Aside0 (Below w.heap.size w wc))
 case first =>
  have H:=HC2.out
  clear HC2
  replace H:=bs_ H
  obtain ⟨t1137,A40,H⟩:=H
  try dsimp only at H
  have A4:=a_ A40
  clear A40
  by_cases c5:t1137=true
  ·subst c5
   have H1:(if a0_1 < 0 then (impl_ClientOk.j0 k true a0_0 a0_1 l0_2 l0_3 a0_4 a0_5) else (if a0_1 > 40 then (impl_ClientOk.j0 k true a0_0 a0_1 l0_2 l0_3 a0_4 a0_5) else ((impl_TreeOk.f k l0_2).bind fun t1138=>(impl_ClientOk.j0 k (!t1138) a0_0 a0_1 l0_2 l0_3 a0_4 a0_5))))=some r:=by rw [if_pos rfl] at H;exact H
   clear H
   have H:=H1
   clear H1
   by_cases c6:a0_1 < 0
   ·rw [if_pos c6] at H
    have c6b0:decide (a0_1 < 0)=true:=dt_ c6
    clear c6
    (first|rw [c6b0]|(simp only [i64_w,i32_w];rw [c6b0])|skip)
    have H':=a_ H
    clear H
    obtain ⟨Z7_0,Z7_1,Z7_2,Z7_3,Z7_4,Z7_5,Y7_0,Y7_1,Y7_2,Y7_3,Y7_4,Y7_5⟩:=op6_ BK1136.out
    go_wp2_with (first|((with_reducible refine gC_ (f:=104) rfl ?_);refine gl_ 7 Tryd.func104 #[.int .i64 a0_0] ?_;(with_reducible refine (impl_whoOk.calls a0_0 true _ A4.out).mono ?_);rintro e w' ⟨rfl,⟨nd,rfl⟩⟩;refine ⟨_,rfl,?_⟩))
    go_meet
    case rel=>exact ⟨_,(true),(si_),H',⟨by first|omega|exact Nat.le_refl _⟩,⟨bp_ BK1136.out⟩,⟨bel_⟩⟩
   ·rw [if_neg c6] at H
    have c6b0:decide (a0_1 < 0)=false:=df_ c6
    clear c6
    (first|rw [c6b0]|(simp only [i64_w,i32_w];rw [c6b0])|skip)
    by_cases c8:a0_1 > 40
    ·rw [if_pos c8] at H
     have c8b0:decide (40 < a0_1)=true:=dt_ c8
     clear c8
     have H':=a_ H
     clear H
     obtain ⟨Z9_0,Z9_1,Z9_2,Z9_3,Z9_4,Z9_5,Y9_0,Y9_1,Y9_2,Y9_3,Y9_4,Y9_5⟩:=op6_ BK1136.out
     go_wp2_with (first|((with_reducible refine gC_ (f:=104) rfl ?_);refine gl_ 7 Tryd.func104 #[.int .i64 a0_0] ?_;(with_reducible refine (impl_whoOk.calls a0_0 true _ A4.out).mono ?_);rintro e w' ⟨rfl,⟨nd,rfl⟩⟩;refine ⟨_,rfl,?_⟩))
     go_meet
     case rel=>exact ⟨_,(true),(si_),H',⟨by first|omega|exact Nat.le_refl _⟩,⟨bp_ BK1136.out⟩,⟨bel_⟩⟩
    ·rw [if_neg c8] at H
     have c8b0:decide (40 < a0_1)=false:=df_ c8
     clear c8
     replace H:=bs_ H
     obtain ⟨t1138,A100,H⟩:=H
     try dsimp only at H
     have A10:=a_ A100
     clear A100
     have H':=a_ H
     clear H
     obtain ⟨Z11_0,Z11_1,Z11_2,Z11_3,Z11_4,Z11_5,Y11_0,Y11_1,Y11_2,Y11_3,Y11_4,Y11_5⟩:=op6_ BK1136.out
     go_wp2_with (first|((with_reducible refine gC_ (f:=104) rfl ?_);refine gl_ 7 Tryd.func104 #[.int .i64 a0_0] ?_;(with_reducible refine (impl_whoOk.calls a0_0 true _ A4.out).mono ?_);rintro e w' ⟨rfl,⟨nd,rfl⟩⟩;refine ⟨_,rfl,?_⟩)|(go_at_call 45;(with_reducible refine (impl_TreeOk.calls k _ _ l0_2 t1138 _ ?side1 ?side2 A10.out ?side3).mono ?_);(case side1=>repeat (first|exact (Kd.C_below HR0_2.out (bel_))|(with_reducible refine Kd.C_alloc ?_ _)|(with_reducible refine Kd.C_drewN ?_ _)|(with_reducible refine Kd.C_drew ?_)));(case side2=>exact HC0_2.out);(case side3=>exact Glob.below HG.out (bel_));rintro e w12 ⟨rfl,hb⟩;replace HB:=a_ (bS_ (bel_) hb);replace BK1136:=a_ (bb_ BK1136.out hb);(try clear hb)))
     go_meet
     case rel=>exact ⟨_,(!t1138),(si_),H',⟨by first|omega|exact Nat.le_refl _⟩,⟨bp_ BK1136.out⟩,⟨bel_⟩⟩
  ·replace c5:=Bool.eq_false_iff.mpr c5
   subst c5
   have H1:(impl_ClientOk.j0 k true a0_0 a0_1 l0_2 l0_3 a0_4 a0_5)=some r:=by rw [if_neg (show ¬ (false=true) by decide)] at H;exact H
   clear H
   have H:=H1
   clear H1
   have H':=a_ H
   clear H
   obtain ⟨Z13_0,Z13_1,Z13_2,Z13_3,Z13_4,Z13_5,Y13_0,Y13_1,Y13_2,Y13_3,Y13_4,Y13_5⟩:=op6_ BK1136.out
   go_wp2_with (first|((with_reducible refine gC_ (f:=104) rfl ?_);refine gl_ 7 Tryd.func104 #[.int .i64 a0_0] ?_;(with_reducible refine (impl_whoOk.calls a0_0 false _ A4.out).mono ?_);rintro e w' ⟨rfl,⟨nd,rfl⟩⟩;refine ⟨_,rfl,?_⟩))
   go_meet
   case rel=>exact ⟨_,(true),(si_),H',⟨by first|omega|exact Nat.le_refl _⟩,⟨bp_ BK1136.out⟩,⟨bel_⟩⟩
 case rest =>
  clear HC2
  try clear c1
  try clear p2
  try clear c5
  try clear c6
  try clear c6b0
  try clear c8
  try clear c8b0
  try clear c10
  try clear Z11_0 Z11_1 Z11_2 Z11_3 Z11_4 Z11_5 Y11_0 Y11_1 Y11_2 Y11_3 Y11_4 Y11_5
  try clear Z13_0 Z13_1 Z13_2 Z13_3 Z13_4 Z13_5 Y13_0 Y13_1 Y13_2 Y13_3 Y13_4 Y13_5
  try clear Z7_0 Z7_1 Z7_2 Z7_3 Z7_4 Z7_5 Y7_0 Y7_1 Y7_2 Y7_3 Y7_4 Y7_5
  try clear Z9_0 Z9_1 Z9_2 Z9_3 Z9_4 Z9_5 Y9_0 Y9_1 Y9_2 Y9_3 Y9_4 Y9_5
  obtain ⟨kq,x24_1,rfl,HA,HJ1,BK1136,HB⟩:=hcut
  cases kq with
  | zero=>exact absurd HA.out (by simp [impl_ClientOk.j0])
  | succ kj1 =>
   have H:=HA.out
   clear HA
   simp only [impl_ClientOk.j0] at H
   by_cases c14:x24_1=true
   ·subst c14
    have H1:(some false)=some r:=by rw [if_pos rfl] at H;exact H
    clear H
    have H:=H1
    clear H1
    obtain rfl:=sj_ H
    go_wp2
    go_ret
    exact ⟨fi_,bel_⟩
   ·replace c14:=Bool.eq_false_iff.mpr c14
    subst c14
    have H1:(if a0_4 < 0 then (impl_ClientOk.j1 kj1 true a0_0 a0_1 l0_2 l0_3 a0_4 a0_5) else (if a0_4 > a0_1 then (impl_ClientOk.j1 kj1 true a0_0 a0_1 l0_2 l0_3 a0_4 a0_5) else (if (l0_3.length:Int) > (wrap64 (40 - a0_4)) then (impl_ClientOk.j1 kj1 true a0_0 a0_1 l0_2 l0_3 a0_4 a0_5) else (if a0_5 < 0 then (impl_ClientOk.j1 kj1 true a0_0 a0_1 l0_2 l0_3 a0_4 a0_5) else (impl_ClientOk.j1 kj1 (decide (a0_5 > 6)) a0_0 a0_1 l0_2 l0_3 a0_4 a0_5)))))=some r:=by rw [if_neg (show ¬ (false=true) by decide)] at H;exact H
    clear H
    have H:=H1
    clear H1
    have HC15:=a_ H
    clear H
    go_upto_region 3 with (fail)
    go_cut [53] (fun v53 wc=>∃ (kq:Nat) (x53_14:Bool),v53=.bool x53_14∧Aside0 (impl_ClientOk.j1 kq x53_14 a0_0 a0_1 l0_2 l0_3 a0_4 a0_5=some r)∧Aside0 (kq≤kj1)∧Aside0 (wc.heap[gb1136]?=some (.cells #[.int .i64 a0_0,.int .i64 a0_1,(.slice A0_2 l0_2.length c0_2),(.slice A0_3 l0_3.length c0_3),.int .i64 a0_4,.int .i64 a0_5] 77 (0,0)))∧Aside0 (Below w.heap.size w wc))
    case first =>
     have H:=HC15.out
     clear HC15
     by_cases c16:a0_4 < 0
     ·rw [if_pos c16] at H
      have c16b0:decide (a0_4 < 0)=true:=dt_ c16
      clear c16
      (first|rw [c16b0]|(simp only [i64_w,i32_w];rw [c16b0])|skip)
      have H':=a_ H
      clear H
      obtain ⟨Z17_0,Z17_1,Z17_2,Z17_3,Z17_4,Z17_5,Y17_0,Y17_1,Y17_2,Y17_3,Y17_4,Y17_5⟩:=op6_ (W:=wc) BK1136.out
      go_wp2
      go_meet
      case rel=>exact ⟨_,(true),(si_),H',⟨by have:=HJ1.out;first|omega|exact Nat.le_refl _⟩,⟨bp_ BK1136.out⟩,⟨bel_⟩⟩
     ·rw [if_neg c16] at H
      have c16b0:decide (a0_4 < 0)=false:=df_ c16
      clear c16
      (first|rw [c16b0]|(simp only [i64_w,i32_w];rw [c16b0])|skip)
      by_cases c18:a0_4 > a0_1
      ·rw [if_pos c18] at H
       have c18b0:decide (a0_1 < a0_4)=true:=dt_ c18
       clear c18
       have H':=a_ H
       clear H
       obtain ⟨Z19_0,Z19_1,Z19_2,Z19_3,Z19_4,Z19_5,Y19_0,Y19_1,Y19_2,Y19_3,Y19_4,Y19_5⟩:=op6_ (W:=wc) BK1136.out
       go_wp2
       go_meet
       case rel=>exact ⟨_,(true),(si_),H',⟨by have:=HJ1.out;first|omega|exact Nat.le_refl _⟩,⟨bp_ BK1136.out⟩,⟨bel_⟩⟩
      ·rw [if_neg c18] at H
       have c18b0:decide (a0_1 < a0_4)=false:=df_ c18
       clear c18
       by_cases c20:(l0_3.length:Int) > (wrap64 (40 - a0_4))
       ·rw [if_pos c20] at H
        have c20b0:decide ((wrap64 (40 - a0_4)) < (l0_3.length:Int))=true:=dt_ c20
        clear c20
        have H':=a_ H
        clear H
        obtain ⟨Z21_0,Z21_1,Z21_2,Z21_3,Z21_4,Z21_5,Y21_0,Y21_1,Y21_2,Y21_3,Y21_4,Y21_5⟩:=op6_ (W:=wc) BK1136.out
        go_wp2
        go_meet
        case rel=>exact ⟨_,(true),(si_),H',⟨by have:=HJ1.out;first|omega|exact Nat.le_refl _⟩,⟨bp_ BK1136.out⟩,⟨bel_⟩⟩
       ·rw [if_neg c20] at H
        have c20b0:decide ((wrap64 (40 - a0_4)) < (l0_3.length:Int))=false:=df_ c20
        clear c20
        by_cases c22:a0_5 < 0
        ·rw [if_pos c22] at H
         have c22b0:decide (a0_5 < 0)=true:=dt_ c22
         clear c22
         have H':=a_ H
         clear H
         obtain ⟨Z23_0,Z23_1,Z23_2,Z23_3,Z23_4,Z23_5,Y23_0,Y23_1,Y23_2,Y23_3,Y23_4,Y23_5⟩:=op6_ (W:=wc) BK1136.out
         go_wp2
         go_meet
         case rel=>exact ⟨_,(true),(si_),H',⟨by have:=HJ1.out;first|omega|exact Nat.le_refl _⟩,⟨bp_ BK1136.out⟩,⟨bel_⟩⟩
        ·rw [if_neg c22] at H
         have c22b0:decide (a0_5 < 0)=false:=df_ c22
         clear c22
         have H':=a_ H
         clear H
         obtain ⟨Z24_0,Z24_1,Z24_2,Z24_3,Z24_4,Z24_5,Y24_0,Y24_1,Y24_2,Y24_3,Y24_4,Y24_5⟩:=op6_ (W:=wc) BK1136.out
         go_wp2
         go_meet
         case rel=>exact ⟨_,(decide (a0_5 > 6)),(si_),H',⟨by have:=HJ1.out;first|omega|exact Nat.le_refl _⟩,⟨bp_ BK1136.out⟩,⟨bel_⟩⟩
    case rest =>
     clear HC15
     try clear c1
     try clear c2
     try clear p2
     try clear c5
     try clear c6
     try clear c6b0
     try clear p6
     try clear c8
     try clear c8b0
     try clear c10
     try clear c14
     try clear c16
     try clear c16b0
     try clear c18
     try clear c18b0
     try clear c20
     try clear c20b0
     try clear c22
     try clear c22b0
     try clear p2
     try clear Z11_0 Z11_1 Z11_2 Z11_3 Z11_4 Z11_5 Y11_0 Y11_1 Y11_2 Y11_3 Y11_4 Y11_5
     try clear Z13_0 Z13_1 Z13_2 Z13_3 Z13_4 Z13_5 Y13_0 Y13_1 Y13_2 Y13_3 Y13_4 Y13_5
     try clear Z17_0 Z17_1 Z17_2 Z17_3 Z17_4 Z17_5 Y17_0 Y17_1 Y17_2 Y17_3 Y17_4 Y17_5
     try clear Z19_0 Z19_1 Z19_2 Z19_3 Z19_4 Z19_5 Y19_0 Y19_1 Y19_2 Y19_3 Y19_4 Y19_5
     try clear Z21_0 Z21_1 Z21_2 Z21_3 Z21_4 Z21_5 Y21_0 Y21_1 Y21_2 Y21_3 Y21_4 Y21_5
     try clear Z23_0 Z23_1 Z23_2 Z23_3 Z23_4 Z23_5 Y23_0 Y23_1 Y23_2 Y23_3 Y23_4 Y23_5
     try clear Z24_0 Z24_1 Z24_2 Z24_3 Z24_4 Z24_5 Y24_0 Y24_1 Y24_2 Y24_3 Y24_4 Y24_5
     try clear Z7_0 Z7_1 Z7_2 Z7_3 Z7_4 Z7_5 Y7_0 Y7_1 Y7_2 Y7_3 Y7_4 Y7_5
     try clear Z9_0 Z9_1 Z9_2 Z9_3 Z9_4 Z9_5 Y9_0 Y9_1 Y9_2 Y9_3 Y9_4 Y9_5
     obtain ⟨kq,x53_14,rfl,HA,HJ14,BK1136,HB⟩:=hcut
     cases kq with
     | zero=>exact absurd HA.out (by simp [impl_ClientOk.j1])
     | succ kj14 =>
      have H:=HA.out
      clear HA
      simp only [impl_ClientOk.j1] at H
      by_cases c25:x53_14=true
      ·subst c25
       have H1:(some false)=some r:=by rw [if_pos rfl] at H;exact H
       clear H
       have H:=H1
       clear H1
       obtain rfl:=sj_ H
       go_wp2
       go_ret
       exact ⟨fi_,bel_⟩
      ·replace c25:=Bool.eq_false_iff.mpr c25
       subst c25
       have H1:(impl_ClientOk.l0 kj14 l0_3 (l0_3.length:Int) 0 a0_0 a0_1 l0_2 l0_3 a0_4 a0_5)=some r:=by rw [if_neg (show ¬ (false=true) by decide)] at H;exact H
       clear H
       have H:=H1
       clear H1
       have H':=a_ H
       clear H
       obtain ⟨Z26_0,Z26_1,Z26_2,Z26_3,Z26_4,Z26_5,Y26_0,Y26_1,Y26_2,Y26_3,Y26_4,Y26_5⟩:=op6_ (W:=wc) BK1136.out
       go_wp2
       go_loopg [57] kj14 (fun kq v57 w'=>∃ (x57_3:Int),v57=.int .i64 x57_3∧Aside0 (impl_ClientOk.l0 kq l0_3 (l0_3.length:Int) x57_3 a0_0 a0_1 l0_2 l0_3 a0_4 a0_5=some r)∧Aside0 (kq≤kj14)∧Aside0 (w'.heap[gb1136]?=some (.cells #[.int .i64 a0_0,.int .i64 a0_1,(.slice A0_2 l0_2.length c0_2),(.slice A0_3 l0_3.length c0_3),.int .i64 a0_4,.int .i64 a0_5] 77 (0,0)))∧Aside0 (Below w.heap.size w w'))
       case atStart=>exact ⟨(0),(si_),H',⟨Nat.le_refl _⟩,⟨bp_ BK1136.out⟩,⟨bel_⟩⟩
       case round =>
        clear H'
        try clear c1
        try clear c2
        try clear p2
        try clear c5
        try clear c6
        try clear c6b0
        try clear p6
        try clear c8
        try clear c8b0
        try clear c10
        try clear c14
        try clear c16
        try clear c16b0
        try clear c18
        try clear c18b0
        try clear c20
        try clear c20b0
        try clear c22
        try clear c22b0
        try clear c25
        try clear p2
        try clear p6
        try clear Z11_0 Z11_1 Z11_2 Z11_3 Z11_4 Z11_5 Y11_0 Y11_1 Y11_2 Y11_3 Y11_4 Y11_5
        try clear Z13_0 Z13_1 Z13_2 Z13_3 Z13_4 Z13_5 Y13_0 Y13_1 Y13_2 Y13_3 Y13_4 Y13_5
        try clear Z17_0 Z17_1 Z17_2 Z17_3 Z17_4 Z17_5 Y17_0 Y17_1 Y17_2 Y17_3 Y17_4 Y17_5
        try clear Z19_0 Z19_1 Z19_2 Z19_3 Z19_4 Z19_5 Y19_0 Y19_1 Y19_2 Y19_3 Y19_4 Y19_5
        try clear Z21_0 Z21_1 Z21_2 Z21_3 Z21_4 Z21_5 Y21_0 Y21_1 Y21_2 Y21_3 Y21_4 Y21_5
        try clear Z23_0 Z23_1 Z23_2 Z23_3 Z23_4 Z23_5 Y23_0 Y23_1 Y23_2 Y23_3 Y23_4 Y23_5
        try clear Z24_0 Z24_1 Z24_2 Z24_3 Z24_4 Z24_5 Y24_0 Y24_1 Y24_2 Y24_3 Y24_4 Y24_5
        try clear Z26_0 Z26_1 Z26_2 Z26_3 Z26_4 Z26_5 Y26_0 Y26_1 Y26_2 Y26_3 Y26_4 Y26_5
        try clear Z7_0 Z7_1 Z7_2 Z7_3 Z7_4 Z7_5 Y7_0 Y7_1 Y7_2 Y7_3 Y7_4 Y7_5
        try clear Z9_0 Z9_1 Z9_2 Z9_3 Z9_4 Z9_5 Y9_0 Y9_1 Y9_2 Y9_3 Y9_4 Y9_5
        obtain ⟨x57_3,rfl,HA,HK3,BK1136,HB⟩:=hrel
        cases gk with
        | zero=>exact absurd HA.out (by simp [impl_ClientOk.l0])
        | succ k3 =>
         have H:=HA.out
         clear HA
         simp only [impl_ClientOk.l0] at H
         by_cases c27:x57_3 < (l0_3.length:Int)
         ·rw [if_pos c27] at H
          have c27b0:decide (x57_3 < (l0_3.length:Int))=true:=dt_ c27
          clear c27
          by_cases c28:0≤x57_3
          ·rw [if_pos c28] at H
           have c28b0:decide (0≤x57_3)=true:=dt_ c28
           clear c28
           by_cases c29:x57_3 < (l0_3.length:Int)
           ·rw [if_pos c29] at H
            have c29b0:decide (x57_3 < (l0_3.length:Int))=true:=dt_ c29
            clear c29
            have HC30:=a_ H
            clear H
            have p1139:0≤(x57_3:Int):=od_
            have q1139:x57_3 < (l0_3.length:Int):=od_
            obtain ⟨ad1139,e1139,hx1139_0,hx1139_1,hx1139_2,hx1139_3,hx1139_4,hx1139_5,hx1139_6⟩:=at_T44 HR0_3.out x57_3 p1139 q1139
            cases e1139
            replace hx1139_0:=(cb_ HB.out hx1139_0 :)
            replace hx1139_1:=(cb_ HB.out hx1139_1 :)
            replace hx1139_2:=(cb_ HB.out hx1139_2 :)
            replace hx1139_3:=(cb_ HB.out hx1139_3 :)
            replace hx1139_4:=(cb_ HB.out hx1139_4 :)
            replace hx1139_5:=(cb_ HB.out hx1139_5 :)
            replace hx1139_6:=(cb_ HB.out hx1139_6 :)
            replace p1139:=eq_true p1139
            replace q1139:=eq_true q1139
            go_upto_region 8 with (first|((with_reducible refine gD_ (N:=4) rfl ?_);refine bx_ 4 (#[.int .i64 0,.int .i64 0,.int .i64 0,.int .i64 0,.int .i64 0,.int .i64 0,.string (⟨#[]⟩:ByteArray)]) 44 ?_;intro gb1140 hg w31 hbox hb;have n0_:=a_ (bb_ BK1136.out hb);have n1_:=a_ (bS_ (bel_) hb);have n2_:=a_ (hbox);have n3_:=a_ ((by rw [hg];exact (below_size (bel_)):w.heap.size≤gb1140));have n4_:=a_ ((by rw [hg];exact (below_size (bel_)):w.heap.size≤gb1140));have n5_:=a_ ((by rw [hg];exact Nat.ne_of_lt (blk_lt (g:=gb1136) (o:=.cells #[.int .i64 a0_0,.int .i64 a0_1,.slice A0_2 l0_2.length c0_2,.slice (some ad1139) l0_3.length c0_3,.int .i64 a0_4,.int .i64 a0_5] 77 (0,0)) (bp_ BK1136.out)):gb1136≠gb1140));have n6_:=a_ ((by rw [hg];exact Nat.ne_of_gt (blk_lt (g:=gb1136) (o:=.cells #[.int .i64 a0_0,.int .i64 a0_1,.slice A0_2 l0_2.length c0_2,.slice (some ad1139) l0_3.length c0_3,.int .i64 a0_4,.int .i64 a0_5] 77 (0,0)) (bp_ BK1136.out)):gb1140≠gb1136));clear BK1136;clear HB;have BK1136:=n0_;have HB:=n1_;have BK1140:=n2_;have GW1140:=n3_;have GE1140:=n4_;have NB1136_1140:=n5_;have NB1140_1136:=n6_;clear n0_ n1_ n2_ n3_ n4_ n5_ n6_;clear hb hbox hg;have hnb32:=NB1140_1136.out;have hnc32:=NB1136_1140.out;obtain ⟨Z33_0,Z33_1,Z33_2,Z33_3,Z33_4,Z33_5,Z33_6,Y33_0,Y33_1,Y33_2,Y33_3,Y33_4,Y33_5,Y33_6⟩:=op7_ BK1140.out))
            (try simp only [Act.put,List.setIfInBounds_toArray,List.set_cons_zero,List.set_cons_succ])
            go_cut [81] (fun v81 wc=>∃ (kq:Nat) (x81_29:Bool),v81=.bool x81_29∧Aside0 (impl_ClientOk.j3 kq l0_3 (l0_3.length:Int) x57_3 x81_29 a0_0 a0_1 l0_2 l0_3 a0_4 a0_5 ((rd_T44 l0_3 x57_3).f0) ((rd_T44 l0_3 x57_3).f1) ((rd_T44 l0_3 x57_3).f2.f0) ((rd_T44 l0_3 x57_3).f2.f1) ((rd_T44 l0_3 x57_3).f2.f2) ((rd_T44 l0_3 x57_3).f2.f3) ((rd_T44 l0_3 x57_3).f2.f4)=some r)∧Aside0 (kq≤k3)∧Aside0 (wc.heap[gb1136]?=some (.cells #[.int .i64 a0_0,.int .i64 a0_1,(.slice A0_2 l0_2.length c0_2),(.slice (some ad1139) l0_3.length c0_3),.int .i64 a0_4,.int .i64 a0_5] 77 (0,0)))∧Aside0 (wc.heap[gb1140]?=some (.cells #[.int .i64 ((rd_T44 l0_3 x57_3).f0),.int .i64 ((rd_T44 l0_3 x57_3).f1),.int .i64 ((rd_T44 l0_3 x57_3).f2.f0),.int .i64 ((rd_T44 l0_3 x57_3).f2.f1),.int .i64 ((rd_T44 l0_3 x57_3).f2.f2),.int .i64 ((rd_T44 l0_3 x57_3).f2.f3),.string ((rd_T44 l0_3 x57_3).f2.f4)] 44 (0,0)))∧Aside0 (Below w.heap.size w wc))
            case first =>
             have H:=HC30.out
             clear HC30
             replace H:=bs_ H
             obtain ⟨t1141,A340,H⟩:=H
             try dsimp only at H
             have A34:=a_ A340
             clear A340
             by_cases c35:t1141=true
             ·subst c35
              have H1:(if ((rd_T44 l0_3 x57_3).f0)=a0_0 then (impl_ClientOk.j3 k3 l0_3 (l0_3.length:Int) x57_3 (((rd_T44 l0_3 x57_3).f1) != (wrap64 ((wrap64 (a0_4+x57_3))+1))) a0_0 a0_1 l0_2 l0_3 a0_4 a0_5 ((rd_T44 l0_3 x57_3).f0) ((rd_T44 l0_3 x57_3).f1) ((rd_T44 l0_3 x57_3).f2.f0) ((rd_T44 l0_3 x57_3).f2.f1) ((rd_T44 l0_3 x57_3).f2.f2) ((rd_T44 l0_3 x57_3).f2.f3) ((rd_T44 l0_3 x57_3).f2.f4)) else (impl_ClientOk.j3 k3 l0_3 (l0_3.length:Int) x57_3 true a0_0 a0_1 l0_2 l0_3 a0_4 a0_5 ((rd_T44 l0_3 x57_3).f0) ((rd_T44 l0_3 x57_3).f1) ((rd_T44 l0_3 x57_3).f2.f0) ((rd_T44 l0_3 x57_3).f2.f1) ((rd_T44 l0_3 x57_3).f2.f2) ((rd_T44 l0_3 x57_3).f2.f3) ((rd_T44 l0_3 x57_3).f2.f4)))=some r:=by rw [if_pos rfl] at H;exact H
              clear H
              have H:=H1
              clear H1
              by_cases c36:((rd_T44 l0_3 x57_3).f0)=a0_0
              ·rw [if_pos c36] at H
               have c36b0:(((rd_T44 l0_3 x57_3).f0)==a0_0)=true:=beq_iff_eq.mpr c36
               have c36b1:(((rd_T44 l0_3 x57_3).f0) != a0_0)=false:=be_ c36
               clear c36
               (first|rw [c36b0]|(simp only [i64_w,i32_w];rw [c36b0])|skip)
               have H':=a_ H
               clear H
               have hnb37:=NB1140_1136.out
               have hnc37:=NB1136_1140.out
               obtain ⟨Z38_0,Z38_1,Z38_2,Z38_3,Z38_4,Z38_5,Z38_6,Y38_0,Y38_1,Y38_2,Y38_3,Y38_4,Y38_5,Y38_6⟩:=op7_ BK1140.out
               go_wp2_with (first|((with_reducible refine gC_ (f:=78) rfl ?_);refine gl_ 63 Tryd.func78 #[.agg #[.int .i64 ((rd_T44 l0_3 x57_3).f0),.int .i64 ((rd_T44 l0_3 x57_3).f1),.int .i64 ((rd_T44 l0_3 x57_3).f2.f0),.int .i64 ((rd_T44 l0_3 x57_3).f2.f1),.int .i64 ((rd_T44 l0_3 x57_3).f2.f2),.int .i64 ((rd_T44 l0_3 x57_3).f2.f3),.string ((rd_T44 l0_3 x57_3).f2.f4)]] ?_;(with_reducible refine (impl_EntryOk.calls k3 ((rd_T44 l0_3 x57_3).f0) ((rd_T44 l0_3 x57_3).f1) ((rd_T44 l0_3 x57_3).f2.f0) ((rd_T44 l0_3 x57_3).f2.f1) ((rd_T44 l0_3 x57_3).f2.f2) ((rd_T44 l0_3 x57_3).f2.f3) ((rd_T44 l0_3 x57_3).f2.f4) true _ A34.out ?side1).mono ?_);(case side1=>exact Glob.below HG.out (bel_));rintro e w39 ⟨rfl,hb⟩;refine ⟨_,rfl,?_⟩;have n0_:=a_ (blk_below (g:=gb1136) (o:=.cells #[.int .i64 a0_0,.int .i64 a0_1,.slice A0_2 l0_2.length c0_2,.slice (some ad1139) l0_3.length c0_3,.int .i64 a0_4,.int .i64 a0_5] 77 (0,0)) (fp1_ NB1136_1140.out BK1136.out) hb);have n1_:=a_ (blk_below (g:=gb1140) (o:=.cells #[.int .i64 ((rd_T44 l0_3 x57_3).f0),.int .i64 ((rd_T44 l0_3 x57_3).f1),.int .i64 ((rd_T44 l0_3 x57_3).f2.f0),.int .i64 ((rd_T44 l0_3 x57_3).f2.f1),.int .i64 ((rd_T44 l0_3 x57_3).f2.f2),.int .i64 ((rd_T44 l0_3 x57_3).f2.f3),.string ((rd_T44 l0_3 x57_3).f2.f4)] 44 (0,0)) (k7p_ BK1140.out) hb);have n2_:=a_ (bS_ (bel_) hb);clear BK1136;clear BK1140;clear HB;have BK1136:=n0_;have BK1140:=n1_;have HB:=n2_;clear n0_ n1_ n2_;(try clear hb);obtain ⟨Z40_0,Z40_1,Z40_2,Z40_3,Z40_4,Z40_5,Z40_6,Y40_0,Y40_1,Y40_2,Y40_3,Y40_4,Y40_5,Y40_6⟩:=op7_ BK1140.out;obtain ⟨Z41_0,Z41_1,Z41_2,Z41_3,Z41_4,Z41_5,Y41_0,Y41_1,Y41_2,Y41_3,Y41_4,Y41_5⟩:=op6_ BK1136.out))
               go_meet
               case rel=>exact ⟨_,((((rd_T44 l0_3 x57_3).f1) != (wrap64 ((wrap64 (a0_4+x57_3))+1)))),(si_),H',⟨by have:=HJ1.out;have:=HJ14.out;have:=HK3.out;first|omega|exact Nat.le_refl _⟩,⟨bp_ BK1136.out⟩,⟨bp_ BK1140.out⟩,⟨bel_⟩⟩
              ·rw [if_neg c36] at H
               have c36b0:(((rd_T44 l0_3 x57_3).f0)==a0_0)=false:=bn_ c36
               have c36b1:(((rd_T44 l0_3 x57_3).f0) != a0_0)=true:=bne_iff_ne.mpr c36
               (first|rw [c36b0]|(simp only [i64_w,i32_w];rw [c36b0])|skip)
               have H':=a_ H
               clear H
               have hnb42:=NB1140_1136.out
               have hnc42:=NB1136_1140.out
               obtain ⟨Z43_0,Z43_1,Z43_2,Z43_3,Z43_4,Z43_5,Z43_6,Y43_0,Y43_1,Y43_2,Y43_3,Y43_4,Y43_5,Y43_6⟩:=op7_ BK1140.out
               go_wp2_with (first|((with_reducible refine gC_ (f:=78) rfl ?_);refine gl_ 63 Tryd.func78 #[.agg #[.int .i64 ((rd_T44 l0_3 x57_3).f0),.int .i64 ((rd_T44 l0_3 x57_3).f1),.int .i64 ((rd_T44 l0_3 x57_3).f2.f0),.int .i64 ((rd_T44 l0_3 x57_3).f2.f1),.int .i64 ((rd_T44 l0_3 x57_3).f2.f2),.int .i64 ((rd_T44 l0_3 x57_3).f2.f3),.string ((rd_T44 l0_3 x57_3).f2.f4)]] ?_;(with_reducible refine (impl_EntryOk.calls k3 ((rd_T44 l0_3 x57_3).f0) ((rd_T44 l0_3 x57_3).f1) ((rd_T44 l0_3 x57_3).f2.f0) ((rd_T44 l0_3 x57_3).f2.f1) ((rd_T44 l0_3 x57_3).f2.f2) ((rd_T44 l0_3 x57_3).f2.f3) ((rd_T44 l0_3 x57_3).f2.f4) true _ A34.out ?side1).mono ?_);(case side1=>exact Glob.below HG.out (bel_));rintro e w44 ⟨rfl,hb⟩;refine ⟨_,rfl,?_⟩;have n0_:=a_ (blk_below (g:=gb1136) (o:=.cells #[.int .i64 a0_0,.int .i64 a0_1,.slice A0_2 l0_2.length c0_2,.slice (some ad1139) l0_3.length c0_3,.int .i64 a0_4,.int .i64 a0_5] 77 (0,0)) (fp1_ NB1136_1140.out BK1136.out) hb);have n1_:=a_ (blk_below (g:=gb1140) (o:=.cells #[.int .i64 ((rd_T44 l0_3 x57_3).f0),.int .i64 ((rd_T44 l0_3 x57_3).f1),.int .i64 ((rd_T44 l0_3 x57_3).f2.f0),.int .i64 ((rd_T44 l0_3 x57_3).f2.f1),.int .i64 ((rd_T44 l0_3 x57_3).f2.f2),.int .i64 ((rd_T44 l0_3 x57_3).f2.f3),.string ((rd_T44 l0_3 x57_3).f2.f4)] 44 (0,0)) (k7p_ BK1140.out) hb);have n2_:=a_ (bS_ (bel_) hb);clear BK1136;clear BK1140;clear HB;have BK1136:=n0_;have BK1140:=n1_;have HB:=n2_;clear n0_ n1_ n2_;(try clear hb);obtain ⟨Z45_0,Z45_1,Z45_2,Z45_3,Z45_4,Z45_5,Z45_6,Y45_0,Y45_1,Y45_2,Y45_3,Y45_4,Y45_5,Y45_6⟩:=op7_ BK1140.out;obtain ⟨Z46_0,Z46_1,Z46_2,Z46_3,Z46_4,Z46_5,Y46_0,Y46_1,Y46_2,Y46_3,Y46_4,Y46_5⟩:=op6_ BK1136.out))
               go_meet
               case rel=>exact ⟨_,(true),(si_),H',⟨by have:=HJ1.out;have:=HJ14.out;have:=HK3.out;first|omega|exact Nat.le_refl _⟩,⟨bp_ BK1136.out⟩,⟨bp_ BK1140.out⟩,⟨bel_⟩⟩
             ·replace c35:=Bool.eq_false_iff.mpr c35
              subst c35
              have H1:(impl_ClientOk.j3 k3 l0_3 (l0_3.length:Int) x57_3 true a0_0 a0_1 l0_2 l0_3 a0_4 a0_5 ((rd_T44 l0_3 x57_3).f0) ((rd_T44 l0_3 x57_3).f1) ((rd_T44 l0_3 x57_3).f2.f0) ((rd_T44 l0_3 x57_3).f2.f1) ((rd_T44 l0_3 x57_3).f2.f2) ((rd_T44 l0_3 x57_3).f2.f3) ((rd_T44 l0_3 x57_3).f2.f4))=some r:=by rw [if_neg (show ¬ (false=true) by decide)] at H;exact H
              clear H
              have H:=H1
              clear H1
              have H':=a_ H
              clear H
              have hnb47:=NB1140_1136.out
              have hnc47:=NB1136_1140.out
              obtain ⟨Z48_0,Z48_1,Z48_2,Z48_3,Z48_4,Z48_5,Z48_6,Y48_0,Y48_1,Y48_2,Y48_3,Y48_4,Y48_5,Y48_6⟩:=op7_ BK1140.out
              go_wp2_with (first|((with_reducible refine gC_ (f:=78) rfl ?_);refine gl_ 63 Tryd.func78 #[.agg #[.int .i64 ((rd_T44 l0_3 x57_3).f0),.int .i64 ((rd_T44 l0_3 x57_3).f1),.int .i64 ((rd_T44 l0_3 x57_3).f2.f0),.int .i64 ((rd_T44 l0_3 x57_3).f2.f1),.int .i64 ((rd_T44 l0_3 x57_3).f2.f2),.int .i64 ((rd_T44 l0_3 x57_3).f2.f3),.string ((rd_T44 l0_3 x57_3).f2.f4)]] ?_;(with_reducible refine (impl_EntryOk.calls k3 ((rd_T44 l0_3 x57_3).f0) ((rd_T44 l0_3 x57_3).f1) ((rd_T44 l0_3 x57_3).f2.f0) ((rd_T44 l0_3 x57_3).f2.f1) ((rd_T44 l0_3 x57_3).f2.f2) ((rd_T44 l0_3 x57_3).f2.f3) ((rd_T44 l0_3 x57_3).f2.f4) false _ A34.out ?side1).mono ?_);(case side1=>exact Glob.below HG.out (bel_));rintro e w49 ⟨rfl,hb⟩;refine ⟨_,rfl,?_⟩;have n0_:=a_ (blk_below (g:=gb1136) (o:=.cells #[.int .i64 a0_0,.int .i64 a0_1,.slice A0_2 l0_2.length c0_2,.slice (some ad1139) l0_3.length c0_3,.int .i64 a0_4,.int .i64 a0_5] 77 (0,0)) (fp1_ NB1136_1140.out BK1136.out) hb);have n1_:=a_ (blk_below (g:=gb1140) (o:=.cells #[.int .i64 ((rd_T44 l0_3 x57_3).f0),.int .i64 ((rd_T44 l0_3 x57_3).f1),.int .i64 ((rd_T44 l0_3 x57_3).f2.f0),.int .i64 ((rd_T44 l0_3 x57_3).f2.f1),.int .i64 ((rd_T44 l0_3 x57_3).f2.f2),.int .i64 ((rd_T44 l0_3 x57_3).f2.f3),.string ((rd_T44 l0_3 x57_3).f2.f4)] 44 (0,0)) (k7p_ BK1140.out) hb);have n2_:=a_ (bS_ (bel_) hb);clear BK1136;clear BK1140;clear HB;have BK1136:=n0_;have BK1140:=n1_;have HB:=n2_;clear n0_ n1_ n2_;(try clear hb)))
              go_meet
              case rel=>exact ⟨_,(true),(si_),H',⟨by have:=HJ1.out;have:=HJ14.out;have:=HK3.out;first|omega|exact Nat.le_refl _⟩,⟨bp_ BK1136.out⟩,⟨bp_ BK1140.out⟩,⟨bel_⟩⟩
            case rest =>
             clear HC30
             try clear c1
             try clear p1
             try clear q1
             try clear hx1
             try clear c2
             try clear p2
             try clear c3
             try clear c4
             try clear c5
             try clear c6
             try clear c6b0
             try clear p6
             try clear c7
             try clear c8
             try clear c8b0
             try clear c10
             try clear p11
             try clear q11
             try clear hx11
             try clear c14
             try clear c16
             try clear c16b0
             try clear c18
             try clear c18b0
             try clear c20
             try clear c20b0
             try clear c22
             try clear c22b0
             try clear c25
             try clear c27
             try clear c27b0
             try clear c28
             try clear c28b0
             try clear c29
             try clear c29b0
             try clear c32
             try clear c35
             try clear c36
             try clear c36b0
             try clear c36b1
             try clear c37
             try clear c42
             try clear c47
             try clear hx1139_0
             try clear hx1139_1
             try clear hx1139_2
             try clear hx1139_3
             try clear hx1139_4
             try clear hx1139_5
             try clear hx1139_6
             try clear p1139
             try clear p2
             try clear p6
             try clear q1139
             try clear Z11_0 Z11_1 Z11_2 Z11_3 Z11_4 Z11_5 Y11_0 Y11_1 Y11_2 Y11_3 Y11_4 Y11_5
             try clear Z13_0 Z13_1 Z13_2 Z13_3 Z13_4 Z13_5 Y13_0 Y13_1 Y13_2 Y13_3 Y13_4 Y13_5
             try clear Z17_0 Z17_1 Z17_2 Z17_3 Z17_4 Z17_5 Y17_0 Y17_1 Y17_2 Y17_3 Y17_4 Y17_5
             try clear Z19_0 Z19_1 Z19_2 Z19_3 Z19_4 Z19_5 Y19_0 Y19_1 Y19_2 Y19_3 Y19_4 Y19_5
             try clear Z21_0 Z21_1 Z21_2 Z21_3 Z21_4 Z21_5 Y21_0 Y21_1 Y21_2 Y21_3 Y21_4 Y21_5
             try clear Z23_0 Z23_1 Z23_2 Z23_3 Z23_4 Z23_5 Y23_0 Y23_1 Y23_2 Y23_3 Y23_4 Y23_5
             try clear Z24_0 Z24_1 Z24_2 Z24_3 Z24_4 Z24_5 Y24_0 Y24_1 Y24_2 Y24_3 Y24_4 Y24_5
             try clear Z26_0 Z26_1 Z26_2 Z26_3 Z26_4 Z26_5 Y26_0 Y26_1 Y26_2 Y26_3 Y26_4 Y26_5
             try clear Z33_0 Z33_1 Z33_2 Z33_3 Z33_4 Z33_5 Z33_6 Y33_0 Y33_1 Y33_2 Y33_3 Y33_4 Y33_5 Y33_6
             try clear Z38_0 Z38_1 Z38_2 Z38_3 Z38_4 Z38_5 Z38_6 Y38_0 Y38_1 Y38_2 Y38_3 Y38_4 Y38_5 Y38_6
             try clear Z40_0 Z40_1 Z40_2 Z40_3 Z40_4 Z40_5 Z40_6 Y40_0 Y40_1 Y40_2 Y40_3 Y40_4 Y40_5 Y40_6
             try clear Z41_0 Z41_1 Z41_2 Z41_3 Z41_4 Z41_5 Y41_0 Y41_1 Y41_2 Y41_3 Y41_4 Y41_5
             try clear Z43_0 Z43_1 Z43_2 Z43_3 Z43_4 Z43_5 Z43_6 Y43_0 Y43_1 Y43_2 Y43_3 Y43_4 Y43_5 Y43_6
             try clear Z45_0 Z45_1 Z45_2 Z45_3 Z45_4 Z45_5 Z45_6 Y45_0 Y45_1 Y45_2 Y45_3 Y45_4 Y45_5 Y45_6
             try clear Z46_0 Z46_1 Z46_2 Z46_3 Z46_4 Z46_5 Y46_0 Y46_1 Y46_2 Y46_3 Y46_4 Y46_5
             try clear Z48_0 Z48_1 Z48_2 Z48_3 Z48_4 Z48_5 Z48_6 Y48_0 Y48_1 Y48_2 Y48_3 Y48_4 Y48_5 Y48_6
             try clear Z7_0 Z7_1 Z7_2 Z7_3 Z7_4 Z7_5 Y7_0 Y7_1 Y7_2 Y7_3 Y7_4 Y7_5
             try clear Z9_0 Z9_1 Z9_2 Z9_3 Z9_4 Z9_5 Y9_0 Y9_1 Y9_2 Y9_3 Y9_4 Y9_5
             obtain ⟨kq,x81_29,rfl,HA,HJ29,BK1136,BK1140,HB⟩:=hcut
             cases kq with
             | zero=>exact absurd HA.out (by simp [impl_ClientOk.j3])
             | succ kj29 =>
              have H:=HA.out
              clear HA
              simp only [impl_ClientOk.j3] at H
              by_cases c50:x81_29=true
              ·subst c50
               have H1:(some false)=some r:=by rw [if_pos rfl] at H;exact H
               clear H
               have H:=H1
               clear H1
               obtain rfl:=sj_ H
               go_wp2
               go_ret
               exact ⟨fi_,bel_⟩
              ·replace c50:=Bool.eq_false_iff.mpr c50
               subst c50
               have H1:(if ((rd_T44 l0_3 x57_3).f2.f0)=1 then (if ((rd_T44 l0_3 x57_3).f2.f1) > (wrap64 ((wrap64 (10 * a0_0))+a0_5)) then (some false) else (impl_ClientOk.l0 kj29 l0_3 (l0_3.length:Int) (wrap64 (x57_3+1)) a0_0 a0_1 l0_2 l0_3 a0_4 a0_5)) else (impl_ClientOk.l0 kj29 l0_3 (l0_3.length:Int) (wrap64 (x57_3+1)) a0_0 a0_1 l0_2 l0_3 a0_4 a0_5))=some r:=by rw [if_neg (show ¬ (false=true) by decide)] at H;exact H
               clear H
               have H:=H1
               clear H1
               by_cases c51:((rd_T44 l0_3 x57_3).f2.f0)=1
               ·rw [if_pos c51] at H
                have c51b0:(((rd_T44 l0_3 x57_3).f2.f0)==1)=true:=beq_iff_eq.mpr c51
                have c51b1:(((rd_T44 l0_3 x57_3).f2.f0) != 1)=false:=be_ c51
                clear c51
                by_cases c52:((rd_T44 l0_3 x57_3).f2.f1) > (wrap64 ((wrap64 (10 * a0_0))+a0_5))
                ·rw [if_pos c52] at H
                 have c52b0:decide ((wrap64 ((wrap64 (10 * a0_0))+a0_5)) < ((rd_T44 l0_3 x57_3).f2.f1))=true:=dt_ c52
                 clear c52
                 obtain rfl:=sj_ H
                 have hnb53:=NB1140_1136.out
                 have hnc53:=NB1136_1140.out
                 obtain ⟨Z54_0,Z54_1,Z54_2,Z54_3,Z54_4,Z54_5,Z54_6,Y54_0,Y54_1,Y54_2,Y54_3,Y54_4,Y54_5,Y54_6⟩:=op7_ (W:=wc) BK1140.out
                 obtain ⟨Z55_0,Z55_1,Z55_2,Z55_3,Z55_4,Z55_5,Y55_0,Y55_1,Y55_2,Y55_3,Y55_4,Y55_5⟩:=op6_ (W:=wc) BK1136.out
                 go_wp2
                 go_ret
                 exact ⟨fi_,bel_⟩
                ·rw [if_neg c52] at H
                 have c52b0:decide ((wrap64 ((wrap64 (10 * a0_0))+a0_5)) < ((rd_T44 l0_3 x57_3).f2.f1))=false:=df_ c52
                 clear c52
                 have H':=a_ H
                 clear H
                 have hnb56:=NB1140_1136.out
                 have hnc56:=NB1136_1140.out
                 obtain ⟨Z57_0,Z57_1,Z57_2,Z57_3,Z57_4,Z57_5,Z57_6,Y57_0,Y57_1,Y57_2,Y57_3,Y57_4,Y57_5,Y57_6⟩:=op7_ (W:=wc) BK1140.out
                 obtain ⟨Z58_0,Z58_1,Z58_2,Z58_3,Z58_4,Z58_5,Y58_0,Y58_1,Y58_2,Y58_3,Y58_4,Y58_5⟩:=op6_ (W:=wc) BK1136.out
                 go_wp2
                 go_roundg kj29
                 case measure=>have:=HJ1.out;have:=HJ14.out;have:=HK3.out;have:=HJ29.out;omega
                 case rel=>exact ⟨(wrap64 (x57_3+1)),(si_),H',⟨by have:=HJ1.out;have:=HJ14.out;have:=HK3.out;have:=HJ29.out;omega⟩,⟨bp_ BK1136.out⟩,⟨bel_⟩⟩
               ·rw [if_neg c51] at H
                have c51b0:(((rd_T44 l0_3 x57_3).f2.f0)==1)=false:=bn_ c51
                have c51b1:(((rd_T44 l0_3 x57_3).f2.f0) != 1)=true:=bne_iff_ne.mpr c51
                have H':=a_ H
                clear H
                have hnb59:=NB1140_1136.out
                have hnc59:=NB1136_1140.out
                obtain ⟨Z60_0,Z60_1,Z60_2,Z60_3,Z60_4,Z60_5,Z60_6,Y60_0,Y60_1,Y60_2,Y60_3,Y60_4,Y60_5,Y60_6⟩:=op7_ (W:=wc) BK1140.out
                go_wp2
                go_roundg kj29
                case measure=>have:=HJ1.out;have:=HJ14.out;have:=HK3.out;have:=HJ29.out;omega
                case rel=>exact ⟨(wrap64 (x57_3+1)),(si_),H',⟨by have:=HJ1.out;have:=HJ14.out;have:=HK3.out;have:=HJ29.out;omega⟩,⟨bp_ BK1136.out⟩,⟨bel_⟩⟩
           ·rw [if_neg c29] at H
            exact absurd H (by simp)
          ·rw [if_neg c28] at H
           exact absurd H (by simp)
         ·rw [if_neg c27] at H
          have c27b0:decide (x57_3 < (l0_3.length:Int))=false:=df_ c27
          clear c27
          obtain rfl:=sj_ H
          go_wp2
          go_ret
          exact ⟨fi_,bel_⟩

mutual
def spec_TreeOk.l0:Nat→List (S69)→Int→Int→Option (Bool)
 | 0,_,_,_=>none
 | k+1,x0,x3,x4=>if x4 < (x0.length:Int) then (if 0≤x4 then ((spec_RowOk.f k ((rd_T69 x0 x4).f0) ((rd_T69 x0 x4).f1) ((rd_T69 x0 x4).f2)).bind fun t1194=>(if t1194=true then (if x4 > 0 then (if 0≤(wrap64 (x4 - 1)) then (if (wrap64 (x4 - 1)) < (x0.length:Int) then (spec_TreeOk.j1 k x0 x3 x4 (decide (((rd_T69 x0 x4).f1) > (wrap64 (((rd_T69 x0 (wrap64 (x4 - 1))).f1)+1))))) else (none)) else (none)) else (spec_TreeOk.j1 k x0 x3 x4 false)) else (spec_TreeOk.j1 k x0 x3 x4 true))) else (none)) else (if x3=3 then (if 0 < (x0.length:Int) then (some (((rd_T69 x0 0).f0)==1)) else (none)) else (some false))
def spec_TreeOk.j1:Nat→List (S69)→Int→Int→Bool→Option (Bool)
 | 0,_,_,_,_=>none
 | k+1,x0,x3,x4,x36=>if x36=true then (some false) else (if 0≤x4 then (if x4 < (x0.length:Int) then ((spec_l1Root.f ((rd_T69 x0 x4).f0)).bind fun t1198=>(if t1198=true then (if ((rd_T69 x0 x4).f0)=(wrap64 (x3+1)) then (spec_TreeOk.j2 k x0 (wrap64 (x3+1)) x4) else (some false)) else (spec_TreeOk.j2 k x0 x3 x4))) else (none)) else (none))
def spec_TreeOk.j2:Nat→List (S69)→Int→Int→Option (Bool)
 | 0,_,_,_=>none
 | k+1,x0,x3,x4=>spec_TreeOk.l1 k x0 x3 x4 0
def spec_TreeOk.l1:Nat→List (S69)→Int→Int→Int→Option (Bool)
 | 0,_,_,_,_=>none
 | k+1,x0,x3,x4,x5=>if x5 < x4 then (if 0≤x5 then (if x5 < (x0.length:Int) then (if 0≤x4 then (if x4 < (x0.length:Int) then (if ((rd_T69 x0 x5).f0)=((rd_T69 x0 x4).f0) then (some false) else (spec_TreeOk.l1 k x0 x3 x4 (wrap64 (x5+1)))) else (none)) else (none)) else (none)) else (none)) else (spec_TreeOk.l0 k x0 x3 (wrap64 (x4+1)))
end
def spec_TreeOk.f (k:Nat) (l0:List (S69)):Option (Bool):=spec_TreeOk.l0 k l0 0 0
def spec_TreeOk.T5:Bool×List (List Nat×List Nat):=(true,[([],[]),([],[]),([0,1],[0,1]),([2],[2]),([3],[3]),([4],[4]),([5,4],[5]),([6],[6]),([7,6],[6,7]),([8,6,6],[6,8]),([9],[9]),([9],[9]),([10,11,9],[9,10,11]),([12,9],[9,12]),([13,9],[9,13]),([9],[9]),([9],[9]),([16,9],[9,16]),([15,17,9],[9,15,17]),([18,9],[9,18]),([19,9],[9,19]),([20,9],[9,20]),([14,21,9],[9,14,21]),([9,22,6],[6,9,22]),([6,23],[6,23])])
def spec_TreeOk.B5:List Nat:=[0,0,3,7,15,31,63,127,255,511,1023,1023,4095,8191,16383,1023,1023,66559,230399,492543,1016831,2065407,4194303,8388607,16777215]
theorem spec_TreeOk.tab5:rtab .any (opsOf Tryd.f110 5)=spec_TreeOk.T5:=by kernel_rfl
theorem spec_TreeOk.bits5:waitsOk spec_TreeOk.T5.2 spec_TreeOk.B5=true:=by kernel_rfl
def spec_TreeOk.T14:Bool×List (List Nat×List Nat):=(true,[([],[]),([],[]),([0,1],[0,1]),([2],[2]),([3],[3]),([],[]),([],[]),([5,6],[5,6]),([7],[7]),([8],[8]),([4,9],[4,9])])
def spec_TreeOk.B14:List Nat:=[0,0,3,7,15,0,0,96,224,480,1023]
theorem spec_TreeOk.tab14:rtab .any (opsOf Tryd.f110 14)=spec_TreeOk.T14:=by kernel_rfl
theorem spec_TreeOk.bits14:waitsOk spec_TreeOk.T14.2 spec_TreeOk.B14=true:=by kernel_rfl
end Go.Proofs.YtdpklbomhdpimaaDoor.P
