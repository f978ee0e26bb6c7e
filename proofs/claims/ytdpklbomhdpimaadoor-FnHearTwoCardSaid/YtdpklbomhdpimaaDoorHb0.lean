/- Joined by a program (wip/shake.py): the declarations that 'YtdpklbomhdpimaaDoorCardFnHearAgain' reaches. -/
import Derived.Below
import Derived.Deep.Draws
import Derived.Deep.AppendLies
import Derived.Maps.AppendAt
import Derived.OwnWalk
import Derived.Laws.BytesArg
import Derived.Laws.MakeOwn
import Derived.Laws.OwnMore
import Derived.Deep.OwnRows
import Derived.Tactics
import Derived.Lib.ConvBytes
import Derived.Laws.Slices
import Derived.WalkKit
import Derived.KernelRfl
import Derived.RowKit3
import Derived.Deep.LoopGhost
import Derived.Deep.QuietTactic
import Derived.BigQuiet
import Derived.WideLaws
import Derived.Deep.DeepCutAuto
import Derived.Deep.CutBlock
import Derived.Deep.RegionHeld3
import Derived.Laws.Rows
import Derived.Lib.AppendStr
import Derived.ArgAppend
import Derived.Laws.IdiomCopy
import Derived.OrdersHeld
import Derived.Laws.BitsLemmas
import Derived.RowKit
import Derived.WalkSpells
import Derived.Lib.LaidTab
import Derived.Deep.CutRange
import Derived.Lib.Hide
import Derived.Maps.OwnOps
import Derived.Maps.OwnSet
import Derived.Outline
import Derived.LoopTactic
import Derived.RegionTactic
import Derived.LaidEqlPtr
import Derived.RangeFuncFrom
import Derived.RangeFuncNested
import Derived.RangeFuncBound
import Derived.RangeFuncCalls
import Derived.RangeFuncLeaves
import Derived.Shelf.Abstract
import Derived.Shelf.RegionOpen
import Derived.OwnWalkIn
import Derived.TacticsInMore
import Derived.LoopNIn
import Derived.LoopIn
import Derived.RangeFuncWrites
import Derived.LaidMore
import Derived.LaidLaws
import Derived.ProofKit
import Derived.ChangeVars
import Derived.ChangeSame
import Derived.OpenShut
import Derived.ShutString
import Derived.ChangeOld
import Derived.SizedLaws
import Derived.SevenTiedAt
import Derived.Test.YtdpklbomhdpimaaDoorCards
import Derived.Test.YtdpklbomhdpimaaDoorRows
import Derived.Test.YtdpklbomhdpimaaDoorTie
import Derived.Test.YtdpklbomhdpimaaDoorHbV
import Derived.Test.YtdpklbomhdpimaaDoorWSized
set_option linter.unusedVariables false
set_option linter.unusedSimpArgs false
set_option linter.unusedSectionVars false
set_option maxHeartbeats 8000000
set_option maxRecDepth 100000
namespace Go.Proofs.YtdpklbomhdpimaaDoor.P
open Go.RowKit Go.Proofs.YtdpklbomhdpimaaDoorW.PrintWords Go.Proofs.YtdpklbomhdpimaaDoorW.PrintLast Go.Proofs.YtdpklbomhdpimaaDoorW.PrintMore
theorem a_ {p:Prop} (h:p):Aside0 p:=⟨h⟩
theorem dt_ {p:Prop} [Decidable p] (h:p):decide p=true:=decide_eq_true h
theorem df_ {p:Prop} [Decidable p] (h:¬ p):decide p=false:=decide_eq_false h
theorem bs_ {α β:Type} {o:Option α} {f:α→Option β} {b:β} (h:o.bind f=some b):∃ a,o=some a∧f a=some b:=Option.bind_eq_some_iff.mp h
theorem sj_ {α:Type} {a b:α} (h:some a=some b):a=b:=Option.some.inj h
theorem bl_ (w:World) (a:Addr) {v:Value} (h:w.cell? a=some v):a.block < w.heap.size:=World.block_lt_of_cell? w a h
theorem bn_ {α:Type} [BEq α] [LawfulBEq α] {a b:α} (h:a≠b):(a==b)=false:=beq_eq_false_iff_ne.mpr h
theorem be_ {α:Type} [BEq α] [LawfulBEq α] {a b:α} (h:a=b):(a != b)=false:=bne_eq_false_iff_eq.mpr h
theorem bel_ {p:Prop} (h:p:=by repeat (first|(with_reducible first|exact HB.out|apply wA_|apply pw_below_drewN|apply below_drew1|refine wS_ ?_ (Aside0.out (by assumption))|refine wS_ ?_ (IsS145.ge (Aside0.out (by assumption))))|exact HB.out)):p:=h
theorem bp_ {p q:Prop} (h:p) (f:p→q:=by intro h_;(with_reducible repeat (first|refine bN_ ?_ _|refine bD_ ?_|refine bA_ ?_ _));exact h_):q:=f h
theorem rp_ {p q:Prop} (h:p) (f:p→q:=by intro h_;(with_reducible repeat (first|apply Kd.R_alloc|apply Kd.R_drewN|apply Kd.R_drew));exact h_):q:=f h
theorem ar_ {p:Prop} (h:p:=by (try simp only [List.map_toArray,List.map_cons,List.map_nil]);first|done|rfl|(simp only [List.length_drop,List.length_take];rfl)):p:=h
theorem fi_ {p:Prop} (h:p:=by first|rfl|(simp [errW_none,errW_some] <;> rfl)|(simp [*,errW_none,errW_some] <;> rfl)):p:=h
theorem cp_ {p q:Prop} (h:p) (f:p→q:=by intro h_;repeat (first|exact (Kd.C_below h_ HB.out)|(with_reducible refine Kd.C_alloc ?_ _)|(with_reducible refine Kd.C_drewN ?_ _)|(with_reducible refine Kd.C_drew ?_))):q:=f h
theorem ke_ {p:Prop} (h:p:=by repeat (first|(with_reducible first|exact HK.out|apply KeepBut.set_|apply keep_drewN|apply keep_drew|apply keep_alloc)|exact HK.out)):p:=h
theorem kf_ {w w1 W:World} {g:Nat} {row:Option Nat} (h0:KeepBut w w1 g row) (h:KeepBut w W g row:=by repeat (first|(with_reducible first|exact HK.out|apply KeepBut.set_|apply keep_drewN|apply keep_drew|apply keep_alloc|refine keep_far ?_ (Aside0.out (by assumption)) _)|exact HK.out)):KeepBut w W g row:=h
theorem qp_ {p q:Prop} (h:p) (f:p→q:=by intro h_;(with_reducible repeat (first|apply Kd.Q_alloc|apply Kd.Q_drewN|apply Kd.Q_drew));exact h_):q:=f h
theorem cz_ {W:World} {g:Nat} {t:TypeId} {cs:Array Value} (h:W.heap[g]?=some (.cells cs t (0,0))) (i:Nat) (v:Value) (hv:cs[i]?=some v:=by exact rfl):W.cell? ⟨g,i,none⟩=some v:=(bC_ h i).trans hv
theorem kb_ {w w1 W0:World} {g g':Nat} {o:Obj} (hk:KeepBut w w1 g none) (h0:W0.heap[g']?=some o) (hn:g'≠g) (f:W0.heap[g']?=some o→w.heap[g']?=some o:=by intro h_;(with_reducible repeat (first|refine bN_ ?_ _|refine bD_ ?_|refine bA_ ?_ _));exact h_):w1.heap[g']?=some o:=hk.blk (f h0) hn (by simp)
theorem bb_ {w w1 W0:World} {g:Nat} {o:Obj} (h0:W0.heap[g]?=some o) (hb:Below w.heap.size w w1) (f:W0.heap[g]?=some o→w.heap[g]?=some o:=by intro h_;(with_reducible repeat (first|refine bN_ ?_ _|refine bD_ ?_|refine bA_ ?_ _));exact h_):w1.heap[g]?=some o:=blk_below (f h0) hb
theorem bx_ {P:Program} {ops:Array Oper} {Q:Exit→Act→World→Prop} {rest:List Oper} {o:Oper} {a:Act} {W:World} (N:Tmp) (cs:Array Value) (t:TypeId)
    (h:∀ g,g=W.heap.size→∀ w1,w1.heap[g]?=some (.cells cs t (0,0))→Below W.heap.size W w1→wpList P ops Q rest (a.put o.dst (.pointer (some ⟨g,0,none⟩))) w1) (hd:o.dst=some N:=by exact rfl) (hg:o.guard=none:=by exact rfl)
    (hr:(execOp a.eval o).run P W=.ok (.value (.pointer (some ⟨W.heap.size,0,none⟩))) (W.alloc (.cells cs t (0,0))):=by first|(go_simp;done)|(go_simp;rfl)):wpList P ops Q (o::rest) a W:=box_event hg hd hr h
theorem cx_ {p q:Prop} (h:p) (f:p→q:=by intro h_;repeat (first|exact h_|(with_reducible refine Kd.C_alloc ?_ _)|(with_reducible refine Kd.C_drewN ?_ _)|(with_reducible refine Kd.C_drew ?_))):q:=f h
theorem hg_ {p:Prop} (h:p:=by repeat (first|(with_reducible first|exact HG.out|apply Glob.drewN|apply Glob.drew)|exact HG.out)):p:=h
theorem od_ {p:Prop} [d:Decidable p] (h:decide p=true:=by first|(with_reducible assumption)|assumption):p:=of_decide_eq_true h
theorem si_ {p:Prop} (h:p:=by first|rfl|(simp;done)|(simp [*];done)):p:=h
theorem cb_ {w w':World} {p:Addr} {v:Value} (hb:Below w.heap.size w w') (h:w.cell? p=some v):w'.cell? p=some v:=(hb.cell (bl_ w _ h)).trans h
theorem gl_ {P:Program} {ops:Array Oper} {Q:Exit→Act→World→Prop} {rest:List Oper} {oi:Oper} {a:Act} {w:World} (n:Tmp) {f:FuncId} {fn:Func} (hf:P.funcs[f]?=some fn) (args:Array Value) {as_:Array Operand} {ts:Array TypeId}
    (h:Calls P f args w fun e w'=>∃ v,e=.returned v∧wpList P ops Q rest (a.put (some n) v) w') (hd:oi.dst=some n:=by exact rfl) (hg:oi.guard=none:=by exact rfl)
    (hname:(fn.name == "runtime.NumGoroutine")=false:=by kernel_rfl) (hb:fn.body.isSome=true:=by exact rfl) (hop:oi.op=.call { callee:=.value (.func f),args:=as_,argTypes:=ts }:=by exact rfl)
    (hargs:as_.map a.eval=args:=by (try simp only [List.map_toArray,List.map_cons,List.map_nil]);first|done|rfl|(simp only [List.length_drop,List.length_take];rfl)):wpList P ops Q (oi::rest) a w:=goesL_ (some n) hd hg hf hname hb args hop hargs h
theorem pa_ {P:Program} {md:Region.Mode} {ops:Array Oper} {Q:Exit→Act→World→Prop} {S:World→Prop} {ds:List Nat} (i:Nat) (n:Tmp) {oi:Oper} {v:Value} {fuel:Nat} {l:Array Bool} {a:Act} {w:World} {a':Act}
    (h:wpAnyLast P md ops Q S ds fuel (l.setIfInBounds i true) a' w) (hi:ops[i]?=some oi:=by exact rfl) (hN:oi.dst=some n:=by exact rfl) (hc:anyB md ops l (l.setIfInBounds i true) i=true:=by exact any_of HT_.out (by kernel_rfl))
    (hQ:∀ c a w,Q (.panic c) (a.put oi.dst v) w→Q (.panic c) a w:=by exact fun _ _ _ h=>h) (hy:Yields P ops oi v a:=by exact Or.inl ⟨by rfl,by intro w';go_simp;with_reducible rfl⟩)
    (ha:a.put (some n) v=a':=by simp only [Act.put,List.setIfInBounds_toArray,List.set_cons_zero,List.set_cons_succ,i64_w,i32_w];rfl):wpAnyLast P md ops Q S ds (fuel+1) l a w:=pure_ _ hi hN hc hQ hy ha h
theorem po_ {P:Program} {md:Region.Mode} {ops:Array Oper} {Q:Exit→Act→World→Prop} {S:World→Prop} {ds:List Nat} (i:Nat) (n:Tmp) {oi:Oper} {fuel:Nat} {l:Array Bool} {a:Act} {w:World} {a':Act}
    (h:wpAnyLast P md ops Q S ds fuel (l.setIfInBounds i true) a' w) (hi:ops[i]?=some oi:=by exact rfl) (hN:oi.dst=some n:=by exact rfl) (hc:anyB md ops l (l.setIfInBounds i true) i=true:=by exact any_of HT_.out (by kernel_rfl))
    (hQ:∀ c a w,Q (.panic c) (a.put oi.dst undef) w→Q (.panic c) a w:=by exact fun _ _ _ h=>h) (hy:Yields P ops oi undef a:=by exact Or.inr ⟨by rfl,rfl⟩)
    (ha:a.put (some n) undef=a':=by simp only [Act.put,List.setIfInBounds_toArray,List.set_cons_zero,List.set_cons_succ,i64_w,i32_w];rfl):wpAnyLast P md ops Q S ds (fuel+1) l a w:=pure_ _ hi hN hc hQ hy ha h
theorem on_ {P:Program} {md:Region.Mode} {ops:Array Oper} {Q:Exit→Act→World→Prop} {S:World→Prop} {ds:List Nat} (i:Nat) (n:Tmp) {oi:Oper} {fuel:Nat} {l:Array Bool} {a:Act} {w:World}
    (h:∀ K:Act→World→Prop,Shut (∀ a' w',S w'→(S w'→wpAnyLast P md ops Q S ds fuel (l.setIfInBounds i true) a' w')→K a' w')→if Region.wanted oi (yielded ops a.tmps)=true then Oper.wp P oi a w K Q else K (a.put (some n) undef) w)
    (hi:ops[i]?=some oi:=by exact rfl) (hN:oi.dst=some n:=by exact rfl) (hc:readyB md ops l (l.setIfInBounds i true) i=true:=by exact one_of HT_.out (by kernel_rfl)) (hd:i∉ds:=by decide):wpAnyLast P md ops Q S ds (fuel+1) l a w:=one_ _ hi hN hc hd h
theorem no_ (n:Tmp) {P:Program} {md:Region.Mode} {ops:Array Oper} {Q:Exit→Act→World→Prop} {S:World→Prop} {ds:List Nat} {fuel:Nat} {l:Array Bool} {a a':Act} {v:Value} {w:World} (h:wpAnyLast P md ops Q S ds fuel l a' w)
    (ha:a.put (some n) v=a':=by simp only [Act.put,List.setIfInBounds_toArray,List.set_cons_zero,List.set_cons_succ,i64_w,i32_w];rfl):wpAnyLast P md ops Q S ds fuel l (a.put (some n) v) w:=norm_ ha h
theorem ta5_ {P:Program} {md:Region.Mode} {ops:Array Oper} {Q:Exit→Act→World→Prop} {S:World→Prop} {ds:List Nat} (i:Nat) (n:Tmp) {oi:Oper} {v:Value} {fuel:Nat} {l:Array Bool} {a:Act} {w:World} {a':Act} (hS:S w)
    (h:wpAnyLast P md ops Q S ds fuel (l.setIfInBounds i true) a' w) (hi:ops[i]?=some oi:=by exact rfl) (hN:oi.dst=some n:=by exact rfl) (hc:takeB md ops ds l (l.setIfInBounds i true) i=true:=by exact take_ofW HT_.out HW_.out (by kernel_rfl))
    (hQ:∀ c a w,Q (.panic c) (a.put oi.dst v) w→Q (.panic c) a w:=by exact fun _ _ _ h=>h) (hy:YieldsIf P ops S oi v a:=by exact Or.inl ⟨by rfl,by rintro w' ⟨s0,s1,s2,s3,s4⟩;go_simp;with_reducible rfl⟩)
    (ha:a.put (some n) v=a':=by simp only [Act.put,List.setIfInBounds_toArray,List.set_cons_zero,List.set_cons_succ,i64_w,i32_w];rfl):wpAnyLast P md ops Q S ds (fuel+1) l a w:=take_ _ hi hN hc hQ hy hS ha h
theorem ta7_ {P:Program} {md:Region.Mode} {ops:Array Oper} {Q:Exit→Act→World→Prop} {S:World→Prop} {ds:List Nat} (i:Nat) (n:Tmp) {oi:Oper} {v:Value} {fuel:Nat} {l:Array Bool} {a:Act} {w:World} {a':Act} (hS:S w)
    (h:wpAnyLast P md ops Q S ds fuel (l.setIfInBounds i true) a' w) (hi:ops[i]?=some oi:=by exact rfl) (hN:oi.dst=some n:=by exact rfl) (hc:takeB md ops ds l (l.setIfInBounds i true) i=true:=by exact take_ofW HT_.out HW_.out (by kernel_rfl))
    (hQ:∀ c a w,Q (.panic c) (a.put oi.dst v) w→Q (.panic c) a w:=by exact fun _ _ _ h=>h) (hy:YieldsIf P ops S oi v a:=by exact Or.inl ⟨by rfl,by rintro w' ⟨s0,s1,s2,s3,s4,s5,s6⟩;go_simp;with_reducible rfl⟩)
    (ha:a.put (some n) v=a':=by simp only [Act.put,List.setIfInBounds_toArray,List.set_cons_zero,List.set_cons_succ,i64_w,i32_w];rfl):wpAnyLast P md ops Q S ds (fuel+1) l a w:=take_ _ hi hN hc hQ hy hS ha h
theorem ta10_ {P:Program} {md:Region.Mode} {ops:Array Oper} {Q:Exit→Act→World→Prop} {S:World→Prop} {ds:List Nat} (i:Nat) (n:Tmp) {oi:Oper} {v:Value} {fuel:Nat} {l:Array Bool} {a:Act} {w:World} {a':Act} (hS:S w)
    (h:wpAnyLast P md ops Q S ds fuel (l.setIfInBounds i true) a' w) (hi:ops[i]?=some oi:=by exact rfl) (hN:oi.dst=some n:=by exact rfl) (hc:takeB md ops ds l (l.setIfInBounds i true) i=true:=by exact take_ofW HT_.out HW_.out (by kernel_rfl))
    (hQ:∀ c a w,Q (.panic c) (a.put oi.dst v) w→Q (.panic c) a w:=by exact fun _ _ _ h=>h) (hy:YieldsIf P ops S oi v a:=by exact Or.inl ⟨by rfl,by rintro w' ⟨s0,s1,s2,s3,s4,s5,s6,s7,s8,s9⟩;go_simp;with_reducible rfl⟩)
    (ha:a.put (some n) v=a':=by simp only [Act.put,List.setIfInBounds_toArray,List.set_cons_zero,List.set_cons_succ,i64_w,i32_w];rfl):wpAnyLast P md ops Q S ds (fuel+1) l a w:=take_ _ hi hN hc hQ hy hS ha h
theorem ta21_ {P:Program} {md:Region.Mode} {ops:Array Oper} {Q:Exit→Act→World→Prop} {S:World→Prop} {ds:List Nat} (i:Nat) (n:Tmp) {oi:Oper} {v:Value} {fuel:Nat} {l:Array Bool} {a:Act} {w:World} {a':Act} (hS:S w)
    (h:wpAnyLast P md ops Q S ds fuel (l.setIfInBounds i true) a' w) (hi:ops[i]?=some oi:=by exact rfl) (hN:oi.dst=some n:=by exact rfl) (hc:takeB md ops ds l (l.setIfInBounds i true) i=true:=by exact take_ofW HT_.out HW_.out (by kernel_rfl))
    (hQ:∀ c a w,Q (.panic c) (a.put oi.dst v) w→Q (.panic c) a w:=by exact fun _ _ _ h=>h) (hy:YieldsIf P ops S oi v a:=by exact Or.inl ⟨by rfl,by rintro w' ⟨s0,s1,s2,s3,s4,s5,s6,s7,s8,s9,s10,s11,s12,s13,s14,s15,s16,s17,s18,s19,s20⟩;go_simp;with_reducible rfl⟩)
    (ha:a.put (some n) v=a':=by simp only [Act.put,List.setIfInBounds_toArray,List.set_cons_zero,List.set_cons_succ,i64_w,i32_w];rfl):wpAnyLast P md ops Q S ds (fuel+1) l a w:=take_ _ hi hN hc hQ hy hS ha h
theorem op3_ {W:World} {g:Nat} {t:TypeId} {v0 v1 v2:Value} (h:W.heap[g]?=some (.cells #[v0,v1,v2] t (0,0))):W.cell? ⟨g,0,none⟩=some v0∧W.cell? ⟨g,1,none⟩=some v1∧W.cell? ⟨g,2,none⟩=some v2∧W.frozen? ⟨g,0,none⟩=false∧W.frozen? ⟨g,1,none⟩=false∧W.frozen? ⟨g,2,none⟩=false:=⟨(bC_ h 0).trans rfl,(bC_ h 1).trans rfl,(bC_ h 2).trans rfl,bF_ h 0,bF_ h 1,bF_ h 2⟩
theorem op5_ {W:World} {g:Nat} {t:TypeId} {v0 v1 v2 v3 v4:Value} (h:W.heap[g]?=some (.cells #[v0,v1,v2,v3,v4] t (0,0))):W.cell? ⟨g,0,none⟩=some v0∧W.cell? ⟨g,1,none⟩=some v1∧W.cell? ⟨g,2,none⟩=some v2∧W.cell? ⟨g,3,none⟩=some v3∧W.cell? ⟨g,4,none⟩=some v4∧W.frozen? ⟨g,0,none⟩=false∧W.frozen? ⟨g,1,none⟩=false∧W.frozen? ⟨g,2,none⟩=false∧W.frozen? ⟨g,3,none⟩=false∧W.frozen? ⟨g,4,none⟩=false:=⟨(bC_ h 0).trans rfl,(bC_ h 1).trans rfl,(bC_ h 2).trans rfl,(bC_ h 3).trans rfl,(bC_ h 4).trans rfl,bF_ h 0,bF_ h 1,bF_ h 2,bF_ h 3,bF_ h 4⟩
theorem op7_ {W:World} {g:Nat} {t:TypeId} {v0 v1 v2 v3 v4 v5 v6:Value} (h:W.heap[g]?=some (.cells #[v0,v1,v2,v3,v4,v5,v6] t (0,0))):W.cell? ⟨g,0,none⟩=some v0∧W.cell? ⟨g,1,none⟩=some v1∧W.cell? ⟨g,2,none⟩=some v2∧W.cell? ⟨g,3,none⟩=some v3∧W.cell? ⟨g,4,none⟩=some v4∧W.cell? ⟨g,5,none⟩=some v5∧W.cell? ⟨g,6,none⟩=some v6∧W.frozen? ⟨g,0,none⟩=false∧W.frozen? ⟨g,1,none⟩=false∧W.frozen? ⟨g,2,none⟩=false∧W.frozen? ⟨g,3,none⟩=false∧W.frozen? ⟨g,4,none⟩=false∧W.frozen? ⟨g,5,none⟩=false∧W.frozen? ⟨g,6,none⟩=false:=⟨(bC_ h 0).trans rfl,(bC_ h 1).trans rfl,(bC_ h 2).trans rfl,(bC_ h 3).trans rfl,(bC_ h 4).trans rfl,(bC_ h 5).trans rfl,(bC_ h 6).trans rfl,bF_ h 0,bF_ h 1,bF_ h 2,bF_ h 3,bF_ h 4,bF_ h 5,bF_ h 6⟩
theorem bk3_ {W:World} {g:Nat} {t:TypeId} {a0 a1 a2 b0 b1 b2:Value} (h:W.heap[g]?=some (.cells #[b0,b1,b2] t (0,0))):(((W.setCell ⟨g,0,none⟩ a0).setCell ⟨g,1,none⟩ a1).setCell ⟨g,2,none⟩ a2).heap[g]?=some (.cells #[a0,a1,a2] t (0,0)):=blk_put (cs:=#[a0,a1,b2]) (blk_put (cs:=#[a0,b1,b2]) (blk_put (cs:=#[b0,b1,b2]) h 0 _ rfl) 1 _ rfl) 2 _ rfl
theorem bk5_ {W:World} {g:Nat} {t:TypeId} {a0 a1 a2 a3 a4 b0 b1 b2 b3 b4:Value} (h:W.heap[g]?=some (.cells #[b0,b1,b2,b3,b4] t (0,0))):(((((W.setCell ⟨g,0,none⟩ a0).setCell ⟨g,1,none⟩ a1).setCell ⟨g,2,none⟩ a2).setCell ⟨g,3,none⟩ a3).setCell ⟨g,4,none⟩ a4).heap[g]?=some (.cells #[a0,a1,a2,a3,a4] t (0,0)):=blk_put (cs:=#[a0,a1,a2,a3,b4]) (blk_put (cs:=#[a0,a1,a2,b3,b4]) (blk_put (cs:=#[a0,a1,b2,b3,b4]) (blk_put (cs:=#[a0,b1,b2,b3,b4]) (blk_put (cs:=#[b0,b1,b2,b3,b4]) h 0 _ rfl) 1 _ rfl) 2 _ rfl) 3 _ rfl) 4 _ rfl
theorem bk7_ {W:World} {g:Nat} {t:TypeId} {a0 a1 a2 a3 a4 a5 a6 b0 b1 b2 b3 b4 b5 b6:Value} (h:W.heap[g]?=some (.cells #[b0,b1,b2,b3,b4,b5,b6] t (0,0))):(((((((W.setCell ⟨g,0,none⟩ a0).setCell ⟨g,1,none⟩ a1).setCell ⟨g,2,none⟩ a2).setCell ⟨g,3,none⟩ a3).setCell ⟨g,4,none⟩ a4).setCell ⟨g,5,none⟩ a5).setCell ⟨g,6,none⟩ a6).heap[g]?=some (.cells #[a0,a1,a2,a3,a4,a5,a6] t (0,0)):=blk_put (cs:=#[a0,a1,a2,a3,a4,a5,b6]) (blk_put (cs:=#[a0,a1,a2,a3,a4,b5,b6]) (blk_put (cs:=#[a0,a1,a2,a3,b4,b5,b6]) (blk_put (cs:=#[a0,a1,a2,b3,b4,b5,b6]) (blk_put (cs:=#[a0,a1,b2,b3,b4,b5,b6]) (blk_put (cs:=#[a0,b1,b2,b3,b4,b5,b6]) (blk_put (cs:=#[b0,b1,b2,b3,b4,b5,b6]) h 0 _ rfl) 1 _ rfl) 2 _ rfl) 3 _ rfl) 4 _ rfl) 5 _ rfl) 6 _ rfl
theorem fp1_ {p q m0:Prop} (a0:m0) (h:p) (f:p→m0→q:=by intro h_ n0_;(with_reducible repeat (first|refine bN_ ?_ _|refine bD_ ?_|refine bA_ ?_ _|refine blk_far ?_ n0_ _));exact h_):q:=f h a0
theorem k3p_ {p q:Prop} (h:p) (f:p→q:=by intro h_;(with_reducible repeat (first|refine bN_ ?_ _|refine bD_ ?_|refine bA_ ?_ _));apply bk3_;(with_reducible repeat (first|refine bN_ ?_ _|refine bD_ ?_|refine bA_ ?_ _));exact h_):q:=f h
theorem k3p1_ {p q m0:Prop} (a0:m0) (h:p) (f:p→m0→q:=by intro h_ n0_;(with_reducible repeat (first|refine bN_ ?_ _|refine bD_ ?_|refine bA_ ?_ _|refine blk_far ?_ n0_ _));apply bk3_;(with_reducible repeat (first|refine bN_ ?_ _|refine bD_ ?_|refine bA_ ?_ _|refine blk_far ?_ n0_ _));exact h_):q:=f h a0
theorem k5p_ {p q:Prop} (h:p) (f:p→q:=by intro h_;(with_reducible repeat (first|refine bN_ ?_ _|refine bD_ ?_|refine bA_ ?_ _));apply bk5_;(with_reducible repeat (first|refine bN_ ?_ _|refine bD_ ?_|refine bA_ ?_ _));exact h_):q:=f h
theorem k5p1_ {p q m0:Prop} (a0:m0) (h:p) (f:p→m0→q:=by intro h_ n0_;(with_reducible repeat (first|refine bN_ ?_ _|refine bD_ ?_|refine bA_ ?_ _|refine blk_far ?_ n0_ _));apply bk5_;(with_reducible repeat (first|refine bN_ ?_ _|refine bD_ ?_|refine bA_ ?_ _|refine blk_far ?_ n0_ _));exact h_):q:=f h a0
theorem k7p_ {p q:Prop} (h:p) (f:p→q:=by intro h_;(with_reducible repeat (first|refine bN_ ?_ _|refine bD_ ?_|refine bA_ ?_ _));apply bk7_;(with_reducible repeat (first|refine bN_ ?_ _|refine bD_ ?_|refine bA_ ?_ _));exact h_):q:=f h
theorem k7p1_ {p q m0:Prop} (a0:m0) (h:p) (f:p→m0→q:=by intro h_ n0_;(with_reducible repeat (first|refine bN_ ?_ _|refine bD_ ?_|refine bA_ ?_ _|refine blk_far ?_ n0_ _));apply bk7_;(with_reducible repeat (first|refine bN_ ?_ _|refine bD_ ?_|refine bA_ ?_ _|refine blk_far ?_ n0_ _));exact h_):q:=f h a0
theorem rf3_ {α:Type} {d:Kd α} {e:Nat} {w:World} {base:Nat} {ok:Nat → Prop} {v:Value} {xs:List α} {g:Nat} (h:d.R e w base ok v xs) (hok:∀ k,ok k → k≠g) (u0 u1 u2:Value):d.R e (((w.setCell ⟨g,0,none⟩ u0).setCell ⟨g,1,none⟩ u1).setCell ⟨g,2,none⟩ u2) base ok v xs:=Kd.R_far (p:=⟨g,2,none⟩) (Kd.R_far (p:=⟨g,1,none⟩) (Kd.R_far (p:=⟨g,0,none⟩) h hok u0) hok u1) hok u2
theorem rf5_ {α:Type} {d:Kd α} {e:Nat} {w:World} {base:Nat} {ok:Nat → Prop} {v:Value} {xs:List α} {g:Nat} (h:d.R e w base ok v xs) (hok:∀ k,ok k → k≠g) (u0 u1 u2 u3 u4:Value):d.R e (((((w.setCell ⟨g,0,none⟩ u0).setCell ⟨g,1,none⟩ u1).setCell ⟨g,2,none⟩ u2).setCell ⟨g,3,none⟩ u3).setCell ⟨g,4,none⟩ u4) base ok v xs:=Kd.R_far (p:=⟨g,4,none⟩) (Kd.R_far (p:=⟨g,3,none⟩) (Kd.R_far (p:=⟨g,2,none⟩) (Kd.R_far (p:=⟨g,1,none⟩) (Kd.R_far (p:=⟨g,0,none⟩) h hok u0) hok u1) hok u2) hok u3) hok u4
theorem rf7_ {α:Type} {d:Kd α} {e:Nat} {w:World} {base:Nat} {ok:Nat → Prop} {v:Value} {xs:List α} {g:Nat} (h:d.R e w base ok v xs) (hok:∀ k,ok k → k≠g) (u0 u1 u2 u3 u4 u5 u6:Value):d.R e (((((((w.setCell ⟨g,0,none⟩ u0).setCell ⟨g,1,none⟩ u1).setCell ⟨g,2,none⟩ u2).setCell ⟨g,3,none⟩ u3).setCell ⟨g,4,none⟩ u4).setCell ⟨g,5,none⟩ u5).setCell ⟨g,6,none⟩ u6) base ok v xs:=Kd.R_far (p:=⟨g,6,none⟩) (Kd.R_far (p:=⟨g,5,none⟩) (Kd.R_far (p:=⟨g,4,none⟩) (Kd.R_far (p:=⟨g,3,none⟩) (Kd.R_far (p:=⟨g,2,none⟩) (Kd.R_far (p:=⟨g,1,none⟩) (Kd.R_far (p:=⟨g,0,none⟩) h hok u0) hok u1) hok u2) hok u3) hok u4) hok u5) hok u6
theorem cf3_ {w:World} {a:Addr} {v:Option Value} {g:Nat} {i0 i1 i2:Nat} {u0 u1 u2:Value} (n:a.block≠g) (h:w.cell? a=v):(((w.setCell ⟨g,i0,none⟩ u0).setCell ⟨g,i1,none⟩ u1).setCell ⟨g,i2,none⟩ u2).cell? a=v:=(cF_ (p:=⟨g,i2,none⟩) n u2).trans ((cF_ (p:=⟨g,i1,none⟩) n u1).trans ((cF_ (p:=⟨g,i0,none⟩) n u0).trans h))
theorem cf7_ {w:World} {a:Addr} {v:Option Value} {g:Nat} {i0 i1 i2 i3 i4 i5 i6:Nat} {u0 u1 u2 u3 u4 u5 u6:Value} (n:a.block≠g) (h:w.cell? a=v):(((((((w.setCell ⟨g,i0,none⟩ u0).setCell ⟨g,i1,none⟩ u1).setCell ⟨g,i2,none⟩ u2).setCell ⟨g,i3,none⟩ u3).setCell ⟨g,i4,none⟩ u4).setCell ⟨g,i5,none⟩ u5).setCell ⟨g,i6,none⟩ u6).cell? a=v:=(cF_ (p:=⟨g,i6,none⟩) n u6).trans ((cF_ (p:=⟨g,i5,none⟩) n u5).trans ((cF_ (p:=⟨g,i4,none⟩) n u4).trans ((cF_ (p:=⟨g,i3,none⟩) n u3).trans ((cF_ (p:=⟨g,i2,none⟩) n u2).trans ((cF_ (p:=⟨g,i1,none⟩) n u1).trans ((cF_ (p:=⟨g,i0,none⟩) n u0).trans h))))))
end Go.Proofs.YtdpklbomhdpimaaDoor.P
namespace Go.Proofs.YtdpklbomhdpimaaDoor.P
open Go.RowKit Go.Proofs.YtdpklbomhdpimaaDoorW.PrintWords Go.Proofs.YtdpklbomhdpimaaDoorW.PrintLast
def errW:Option Int→Value
 | none=>.nilIface
 | some c=>.iface 0 (.int .i64 c)
theorem errW_none:errW none=.nilIface:=rfl
theorem errW_some (c:Int):errW (some c)=.iface 0 (.int .i64 c):=rfl

theorem info3:(Tryd.prog.info? 3).map (fun i=>(i.zero,i.size,i.bytes))=some (some (.int .i64 0),1,8):=by kernel_rfl
theorem info5:(Tryd.prog.info? 5).map (fun i=>(i.zero,i.size,i.bytes))=some (some (.int .u8 0),1,1):=by kernel_rfl
theorem info44:(Tryd.prog.info? 44).map (fun i=>(i.zero,i.size,i.bytes))=some (some (.agg #[(.int .i64 0),(.int .i64 0),(.int .i64 0),(.int .i64 0),(.int .i64 0),(.int .i64 0),(.string ⟨#[]⟩)]),7,64):=by kernel_rfl
theorem info69:(Tryd.prog.info? 69).map (fun i=>(i.zero,i.size,i.bytes))=some (some (.agg #[(.int .i64 0),(.int .i64 0),(.string ⟨#[]⟩)]),3,32):=by kernel_rfl
structure S42 where
 f0:Int
 f1:Int
 f2:Int
 f3:Int
 f4:ByteArray
def z42:S42:=⟨(0:Int),(0:Int),(0:Int),(0:Int),(⟨#[]⟩:ByteArray)⟩
def k42:Kd S42:=Kd.iso (Kd.pair (Kd.int .i64) (Kd.pair (Kd.int .i64) (Kd.pair (Kd.int .i64) (Kd.pair (Kd.int .i64) Kd.string)))) (fun x:S42=>(x.f0,x.f1,x.f2,x.f3,x.f4))
theorem k42_open {w:World} {x:S42} {cs:List Value} (h:k42.K w x cs):cs=[.int .i64 x.f0,.int .i64 x.f1,.int .i64 x.f2,.int .i64 x.f3,.string x.f4]:=by
 obtain ⟨_,_,rfl,rfl,⟨_,_,rfl,rfl,⟨_,_,rfl,rfl,⟨_,_,rfl,rfl,rfl⟩⟩⟩⟩:=h
 exact rfl
theorem k42_openM {w:World} {base:Nat} {ok:Nat→Prop} {x:S42} {cs:List Value} (h:k42.M w base ok x cs):cs=[.int .i64 x.f0,.int .i64 x.f1,.int .i64 x.f2,.int .i64 x.f3,.string x.f4]:=by
 obtain ⟨_,_,rfl,rfl,⟨_,_,rfl,rfl,⟨_,_,rfl,rfl,⟨_,_,rfl,rfl,rfl⟩⟩⟩⟩:=h
 exact rfl
theorem k42_mkM (w:World) (base:Nat) (ok:Nat→Prop) (x:S42)  : k42.M w base ok x [.int .i64 x.f0,.int .i64 x.f1,.int .i64 x.f2,.int .i64 x.f3,.string x.f4]:=⟨[.int .i64 x.f0],[.int .i64 x.f1,.int .i64 x.f2,.int .i64 x.f3,.string x.f4],rfl,rfl,⟨[.int .i64 x.f1],[.int .i64 x.f2,.int .i64 x.f3,.string x.f4],rfl,rfl,⟨[.int .i64 x.f2],[.int .i64 x.f3,.string x.f4],rfl,rfl,⟨[.int .i64 x.f3],[.string x.f4],rfl,rfl,rfl⟩⟩⟩⟩
structure S44 where
 f0:Int
 f1:Int
 f2:S42
def z44:S44:=⟨(0:Int),(0:Int),z42⟩
def k44:Kd S44:=Kd.iso (Kd.pair (Kd.int .i64) (Kd.pair (Kd.int .i64) k42)) (fun x:S44=>(x.f0,x.f1,x.f2))
theorem k44_open {w:World} {x:S44} {cs:List Value} (h:k44.K w x cs):cs=[.int .i64 x.f0,.int .i64 x.f1,.int .i64 x.f2.f0,.int .i64 x.f2.f1,.int .i64 x.f2.f2,.int .i64 x.f2.f3,.string x.f2.f4]:=by
 obtain ⟨_,_,rfl,rfl,⟨_,_,rfl,rfl,s2⟩⟩:=h
 obtain rfl:=k42_open s2
 exact rfl
theorem k44_openM {w:World} {base:Nat} {ok:Nat→Prop} {x:S44} {cs:List Value} (h:k44.M w base ok x cs):cs=[.int .i64 x.f0,.int .i64 x.f1,.int .i64 x.f2.f0,.int .i64 x.f2.f1,.int .i64 x.f2.f2,.int .i64 x.f2.f3,.string x.f2.f4]:=by
 obtain ⟨_,_,rfl,rfl,⟨_,_,rfl,rfl,s2⟩⟩:=h
 obtain rfl:=k42_openM s2
 exact rfl
theorem k44_mkM (w:World) (base:Nat) (ok:Nat→Prop) (x:S44)  : k44.M w base ok x [.int .i64 x.f0,.int .i64 x.f1,.int .i64 x.f2.f0,.int .i64 x.f2.f1,.int .i64 x.f2.f2,.int .i64 x.f2.f3,.string x.f2.f4]:=⟨[.int .i64 x.f0],[.int .i64 x.f1,.int .i64 x.f2.f0,.int .i64 x.f2.f1,.int .i64 x.f2.f2,.int .i64 x.f2.f3,.string x.f2.f4],rfl,rfl,⟨[.int .i64 x.f1],[.int .i64 x.f2.f0,.int .i64 x.f2.f1,.int .i64 x.f2.f2,.int .i64 x.f2.f3,.string x.f2.f4],rfl,rfl,(k42_mkM w base ok x.f2 )⟩⟩
def rd_T44 (xs:List S44) (i:Int):S44:=xs.getD i.toNat z44
theorem at_T44 {w:World} {A:Option Addr} {n:Nat} {xs:List S44} (h:Kd.C k44 w A n xs) (i:Int) (h0:0≤i) (h1:i < n):∃ ad ,A=some ad∧w.cell? (ad.add (i.toNat * 7))=some (.int .i64 (rd_T44 xs i).f0)∧w.cell? ⟨(ad.add (i.toNat * 7)).block,(ad.add (i.toNat * 7)).off+1,none⟩=some (.int .i64 (rd_T44 xs i).f1)∧w.cell? ⟨(ad.add (i.toNat * 7)).block,(ad.add (i.toNat * 7)).off+2,none⟩=some (.int .i64 (rd_T44 xs i).f2.f0)∧w.cell? ⟨(ad.add (i.toNat * 7)).block,(ad.add (i.toNat * 7)).off+3,none⟩=some (.int .i64 (rd_T44 xs i).f2.f1)∧w.cell? ⟨(ad.add (i.toNat * 7)).block,(ad.add (i.toNat * 7)).off+4,none⟩=some (.int .i64 (rd_T44 xs i).f2.f2)∧w.cell? ⟨(ad.add (i.toNat * 7)).block,(ad.add (i.toNat * 7)).off+5,none⟩=some (.int .i64 (rd_T44 xs i).f2.f3)∧w.cell? ⟨(ad.add (i.toNat * 7)).block,(ad.add (i.toNat * 7)).off+6,none⟩=some (.string (rd_T44 xs i).f2.f4):=by
 obtain ⟨ad,c,e,_,hK,hc0⟩:=Kd.C_get h z44 i h0 h1
 have hc:∀ j u,c[j]?=some u→w.cell? (ad.add (i.toNat * 7+j))=some u:=hc0
 obtain rfl:=k44_open hK
 exact ⟨ad,e,hc 0 _ rfl,by rw [←add_field _ _ 1 (by omega)];exact hc 1 _ rfl,by rw [←add_field _ _ 2 (by omega)];exact hc 2 _ rfl,by rw [←add_field _ _ 3 (by omega)];exact hc 3 _ rfl,by rw [←add_field _ _ 4 (by omega)];exact hc 4 _ rfl,by rw [←add_field _ _ 5 (by omega)];exact hc 5 _ rfl,by rw [←add_field _ _ 6 (by omega)];exact hc 6 _ rfl⟩

structure S69 where
 f0:Int
 f1:Int
 f2:ByteArray
def z69:S69:=⟨(0:Int),(0:Int),(⟨#[]⟩:ByteArray)⟩
def k69:Kd S69:=Kd.iso (Kd.pair (Kd.int .i64) (Kd.pair (Kd.int .i64) Kd.string)) (fun x:S69=>(x.f0,x.f1,x.f2))
theorem k69_open {w:World} {x:S69} {cs:List Value} (h:k69.K w x cs):cs=[.int .i64 x.f0,.int .i64 x.f1,.string x.f2]:=by
 obtain ⟨_,_,rfl,rfl,⟨_,_,rfl,rfl,rfl⟩⟩:=h
 exact rfl
theorem k69_openM {w:World} {base:Nat} {ok:Nat→Prop} {x:S69} {cs:List Value} (h:k69.M w base ok x cs):cs=[.int .i64 x.f0,.int .i64 x.f1,.string x.f2]:=by
 obtain ⟨_,_,rfl,rfl,⟨_,_,rfl,rfl,rfl⟩⟩:=h
 exact rfl
theorem k69_mkM (w:World) (base:Nat) (ok:Nat→Prop) (x:S69)  : k69.M w base ok x [.int .i64 x.f0,.int .i64 x.f1,.string x.f2]:=⟨[.int .i64 x.f0],[.int .i64 x.f1,.string x.f2],rfl,rfl,⟨[.int .i64 x.f1],[.string x.f2],rfl,rfl,rfl⟩⟩
def rd_T69 (xs:List S69) (i:Int):S69:=xs.getD i.toNat z69
theorem at_T69 {w:World} {A:Option Addr} {n:Nat} {xs:List S69} (h:Kd.C k69 w A n xs) (i:Int) (h0:0≤i) (h1:i < n):∃ ad ,A=some ad∧w.cell? (ad.add (i.toNat * 3))=some (.int .i64 (rd_T69 xs i).f0)∧w.cell? ⟨(ad.add (i.toNat * 3)).block,(ad.add (i.toNat * 3)).off+1,none⟩=some (.int .i64 (rd_T69 xs i).f1)∧w.cell? ⟨(ad.add (i.toNat * 3)).block,(ad.add (i.toNat * 3)).off+2,none⟩=some (.string (rd_T69 xs i).f2):=by
 obtain ⟨ad,c,e,_,hK,hc0⟩:=Kd.C_get h z69 i h0 h1
 have hc:∀ j u,c[j]?=some u→w.cell? (ad.add (i.toNat * 3+j))=some u:=hc0
 obtain rfl:=k69_open hK
 exact ⟨ad,e,hc 0 _ rfl,by rw [←add_field _ _ 1 (by omega)];exact hc 1 _ rfl,by rw [←add_field _ _ 2 (by omega)];exact hc 2 _ rfl⟩

end Go.Proofs.YtdpklbomhdpimaaDoor.P
namespace Go.Proofs.YtdpklbomhdpimaaDoor.P
open Go.RowKit Go.Proofs.YtdpklbomhdpimaaDoorW.PrintWords Go.Proofs.YtdpklbomhdpimaaDoorW.PrintLast Go.Proofs.YtdpklbomhdpimaaDoorW.PrintMore
def impl_Entry_85.f (l0:List S44):Option (List S44):=if l0.length < 2199023255552 then some l0 else none
theorem impl_Entry_85.calls (A0:Option Addr) (c0:Nat) (l0:List S44) (r:List S44) (w:World) (hr0:Kd.C k44 w A0 l0.length l0) (hc0:l0.length≤c0)
  (h:impl_Entry_85.f l0=some r) :
  Calls Tryd.prog 85 #[.slice A0 l0.length c0] w fun e w'=>∃ v0_:Value,e=.returned (v0_)∧Kd.R k44 44 w' w.heap.size (fun _=>True) v0_ r∧Below w.heap.size w w':=by
 unfold impl_Entry_85.f at h
 by_cases hlim:l0.length < 2199023255552
 ·rw [if_pos hlim] at h
  obtain rfl:=sj_ h
  clear h
  cases A0 with
  | none =>
   have hl:l0=[]:=by
    rcases Nat.eq_zero_or_pos l0.length with h0|h0
    ·exact List.length_eq_zero_iff.1 h0
    ·obtain ⟨ad,e,_⟩:=hr0.2.2 h0
     cases e
   subst hl
   simp only [List.length_nil]
   have hne:=fun (W:World)=>Lib.run_eql_slice_nil (P:=Tryd.prog) W 23 44 none 0 c0 0 0 Tryd.underlying23
   simp only [Option.isNone_none] at hne
   clear hr0 hlim hc0
   go_enter Tryd.func85,Tryd.ntmps85
   go_wp2
   go_ret
   exact ⟨_,rfl,Kd.R_nil _ _ _ _ _,Below.refl _ _⟩
  | some a =>
   have hne:=fun (W:World)=>Lib.run_eql_slice_nil (P:=Tryd.prog) W 23 44 (some a) l0.length c0 0 0 Tryd.underlying23
   simp only [Option.isNone_some] at hne
   have HR0:=a_ hr0
   have LM:=a_ hlim
   clear hr0 hlim
   have HB:=a_ (Below.refl w.heap.size w)
   go_enter Tryd.func85,Tryd.ntmps85
   go_wp2_with (first
    | ((with_reducible refine gD_ (N:=5) rfl ?_);refine Kd.R_lit k44 _ 44 ?hg (N:=5) ?hd (xs:=([]:List S44)) (inner:=[]) (ok:=fun _=>True) (okp:=fun _=>True) ?hr ?hp (fun _ hk=>hk) trivial (Below.refl _ _) (Nat.le_refl _) (by simp) ?_;(case hd=>rfl);(case hg=>rfl);(case hr=>first|(go_simp;done)|(go_simp;rfl));(case hp=>exact (Reps.none _ _));intro v200 w5 ho6 hb hg_ hnew_;clear hg_ hnew_;have HO:=a_ ho6;replace HB:=a_ (bS_ HB.out hb);clear hb ho6)
    | ((with_reducible refine gate_builtin (b:=.append) (xs:=#[.tmp 5,.tmp 6]) rfl ?_);at_builtin;refine Kd.R_append_rows k44 (w0:=w) w.heap.size rfl (.tmp 5) (.tmp 6) 23 44 (.agg #[(.int .i64 0),(.int .i64 0),(.int .i64 0),(.int .i64 0),(.int .i64 0),(.int .i64 0),(.string ⟨#[]⟩)]) 64 rfl Tryd.underlying23 info44 rfl (by decide) (by omega) _ ([]:List S44) l0 _ _ _ (fun _=>True) (fun _=>False) rfl rfl ?aO ?aR (fun _ _ h=>h) (fun _ h=>h.elim) ?aF ?aB ?aS ?aL ?_;(case aR=>exact Kd.C_below HR0.out HB.out);(case aB=>exact HB.out);(case aF=>exact (fun _ _=>trivial));(case aO=>exact HO.out);(case aS=>exact below_size HB.out);(case aL=>have:=LM.out;simp;omega);intro v203 w9 ho hb hg hat;clear HB HO;have HB:=a_ hb;have HO:=a_ ho;clear ho hb hg hat;obtain ⟨Ao10,co10,eo10⟩:=Kd.R_slice HO.out;subst eo10))
   go_ret
   exact ⟨_,rfl,HO.out,HB.out⟩
 ·rw [if_neg hlim] at h
  cases h
def Mach (w:World) (base g:Nat) (l:List S44) (q:Value) (s:Int) (u:Bool):Prop :=
 ∃ (A:Option Addr) (c:Nat),w.heap[g]?=some (.cells #[.slice A l.length c,q,.int .i64 s,.bool u] 107 (0,0))∧Kd.R k44 44 w base (fun k=>k≠g) (.slice A l.length c) l∧base≤g
theorem impl_machineOf.calls (A0:Option Addr) (c0:Nat) (l0:List S44) (a1:Int) (a2:Bool) (w:World) (hr0:Kd.C k44 w A0 l0.length l0) (hc0:l0.length≤c0) (hl:l0.length < 2199023255552) :
  Calls Tryd.prog 79 #[.agg #[.slice A0 l0.length c0,.int .i64 a1,.bool a2]] w fun e w'=>∃ g:Nat,e=.returned (.pointer (some ⟨g,0,none⟩))∧Mach w' w.heap.size g l0 (.slice none 0 0) a1 a2∧Below w.heap.size w w':=by
 have hf:impl_Entry_85.f l0=some l0:=if_pos hl
 have HF:=a_ hf
 have HR0:=a_ hr0
 have HC0:=a_ hc0
 clear hr0 hc0 hf hl
 have hu1:=Tryd.underlying25
 have hu2:=Tryd.underlying107
 have hu3:=Tryd.underlying103
 go_enter Tryd.func79,Tryd.ntmps79
 go_wp2
 have HB0:=a_ ((Below.refl w.heap.size w).alloc (Nat.le_refl _) (.cells #[.slice A0 l0.length c0,.int .i64 a1,.bool a2] 25))
 obtain ⟨W1,hW1⟩:∃ W1,W1=w.alloc (.cells #[.slice A0 l0.length c0,.int .i64 a1,.bool a2] 25):=⟨_,rfl⟩
 have hn0:W1.heap[w.heap.size]?=some (.cells #[.slice A0 l0.length c0,.int .i64 a1,.bool a2] 25 (0,0)):=by rw [hW1];simpa using heap_alloc_new w _
 have HN0:=a_ hn0
 rw [←hW1] at HB0 ⊢
 clear hW1 hn0
 have hs0:W1.cell? ⟨w.heap.size,0,none⟩=some (.slice A0 l0.length c0):=(bC_ HN0.out 0).trans rfl
 have hs1:W1.cell? ⟨w.heap.size,1,none⟩=some (.int .i64 a1):=(bC_ HN0.out 1).trans rfl
 have hs2:W1.cell? ⟨w.heap.size,2,none⟩=some (.bool a2):=(bC_ HN0.out 2).trans rfl
 have HBd:=a_ (below_drew1 HB0.out)
 have HNd:=a_ (bD_ HN0.out)
 clear HB0 HN0
 go_region_with (go_at_call 85;refine (impl_Entry_85.calls _ _ _ l0 _ (Kd.C_below HR0.out HBd.out) HC0.out HF.out).mono ?_;rintro e w2 ⟨v2,rfl,ho2,hb2⟩;obtain ⟨A2,c2,rfl⟩:=Kd.R_slice ho2;have HB2:=a_ (bS_ HBd.out hb2);have HN2:=a_ (blk_below HNd.out hb2);have HO2:=a_ ho2;clear hb2 ho2;have hd1:=(bC_ HN2.out 1).trans rfl;have hd2:=(bC_ HN2.out 2).trans rfl)
 all_goals go_wp2
 all_goals go_ret
 all_goals refine ⟨w2.heap.size,rfl,⟨A2,c2,by simpa using heap_alloc_new w2 _,Kd.R_mono (Kd.R_alloc (Kd.R_elderB (Kd.R_lower HO2.out HBd.out.size) _ (Nat.le_refl _)) _) (fun _ hk=>hk.2),HB2.out.size⟩,wA_ HB2.out _⟩
theorem impl_mserver.callsC (g:Nat) (A:Option Addr) (c:Nat) (l0:List S44) (q:Value) (a1:Int) (a2:Bool) (w:World) (hb:w.heap[g]?=some (.cells #[.slice A l0.length c,q,.int .i64 a1,.bool a2] 107 (0,0))) (hr0:Kd.C k44 w A l0.length l0) (hc0:l0.length≤c) (hl:l0.length < 2199023255552) :
  Calls Tryd.prog 82 #[.pointer (some ⟨g,0,none⟩)] w fun e w'=>∃ v0_:Value,e=.returned (.agg #[v0_,.int .i64 a1,.bool a2])∧Kd.R k44 44 w' w.heap.size (fun _=>True) v0_ l0∧Below w.heap.size w w':=by
 have hf:impl_Entry_85.f l0=some l0:=if_pos hl
 have HF:=a_ hf
 have HR0:=a_ hr0
 have HC0:=a_ hc0
 have HBK:=a_ hb
 clear hr0 hc0 hf hl hb
 have hu1:=Tryd.underlying25
 have hu2:=Tryd.underlying107
 have hu3:=Tryd.underlying103
 have HR1:=a_ (Below.refl w.heap.size w)
 go_enter Tryd.func82,Tryd.ntmps82
 go_wp2
 have HB0:=a_ ((Below.refl w.heap.size w).alloc (Nat.le_refl _) (.cells #[.slice none 0 0,.int .i64 0,.bool false] 25))
 have HK0:=a_ (bA_ HBK.out (.cells #[.slice none 0 0,.int .i64 0,.bool false] 25))
 obtain ⟨W1,hW1⟩:∃ W1,W1=w.alloc (.cells #[.slice none 0 0,.int .i64 0,.bool false] 25):=⟨_,rfl⟩
 have hn0:W1.heap[w.heap.size]?=some (.cells #[.slice none 0 0,.int .i64 0,.bool false] 25 (0,0)):=by rw [hW1];simpa using heap_alloc_new w _
 have HN0:=a_ hn0
 rw [←hW1] at HB0 HK0 ⊢
 clear hW1 hn0
 have hs0:W1.cell? ⟨g,0,none⟩=some (.slice A l0.length c):=(bC_ HK0.out 0).trans rfl
 have hs2:W1.cell? ⟨g,2,none⟩=some (.int .i64 a1):=(bC_ HK0.out 2).trans rfl
 have hs3:W1.cell? ⟨g,3,none⟩=some (.bool a2):=(bC_ HK0.out 3).trans rfl
 have HBd:=a_ (below_drew1 HB0.out)
 have HNd:=a_ (bD_ HN0.out)
 have HKd:=a_ (bD_ HK0.out)
 clear HB0 HN0 HK0
 go_region_with (go_at_call 85;refine (impl_Entry_85.calls _ _ _ l0 _ (Kd.C_below HR0.out HBd.out) HC0.out HF.out).mono ?_;rintro e w2 ⟨v2,rfl,ho2,hb2⟩;obtain ⟨A2,c2,rfl⟩:=Kd.R_slice ho2;have HB2:=a_ (bS_ HBd.out hb2);have HN2:=a_ (blk_below HNd.out hb2);have HK2:=a_ (blk_below HKd.out hb2);have HO2:=a_ ho2;clear hb2 ho2;have hd0:=(bC_ HK2.out 0).trans rfl;have hd2:=(bC_ HK2.out 2).trans rfl;have hd3:=(bC_ HK2.out 3).trans rfl;have he0:=(bC_ HN2.out 0).trans rfl;have he1:=(bC_ HN2.out 1).trans rfl;have he2:=(bC_ HN2.out 2).trans rfl;have hf0:=bF_ HN2.out 0;have hf1:=bF_ HN2.out 1;have hf2:=bF_ HN2.out 2)
 all_goals have hrb:=Kd.R_newB HO2.out HNd.out
 all_goals go_wp2
 all_goals (try simp only [Exit.inBlock,Exit.then])
 all_goals refine bodyPost_ret (results_cell_row rfl _ _ w.heap.size 25 #[.slice A2 l0.length c2,.int .i64 a1,.bool a2] (0,0) _ rfl ((blk_set (blk_set (blk_set HN2.out 0 _) 1 _) 2 _).trans rfl) Tryd.underlying25 rfl (by kernel_rfl)) rfl ?_
 all_goals refine ⟨_,rfl,?_,wS_ (wS_ (wS_ HB2.out (Nat.le_refl _)) (Nat.le_refl _)) (Nat.le_refl _)⟩
 all_goals exact Kd.R_mono (Kd.R_far (Kd.R_far (Kd.R_far (Kd.R_lower hrb HBd.out.size) (p:=⟨w.heap.size,0,none⟩) (fun _ hk=>hk.2) _) (p:=⟨w.heap.size,1,none⟩) (fun _ hk=>hk.2) _) (p:=⟨w.heap.size,2,none⟩) (fun _ hk=>hk.2) _) (fun _ _=>trivial)
theorem impl_mserver.calls (base g:Nat) (l0:List S44) (q:Value) (a1:Int) (a2:Bool) (w:World) (hM:Mach w base g l0 q a1 a2) (hl:l0.length < 2199023255552) :
  Calls Tryd.prog 82 #[.pointer (some ⟨g,0,none⟩)] w fun e w'=>∃ v0_:Value,e=.returned (.agg #[v0_,.int .i64 a1,.bool a2])∧Kd.R k44 44 w' w.heap.size (fun _=>True) v0_ l0∧Below w.heap.size w w':=by
 obtain ⟨A,c,hb,hr,hbase⟩:=hM
 obtain ⟨_,hc0,hr0⟩:=Kd.R_reads' hr
 exact impl_mserver.callsC g A c l0 q a1 a2 w hb hr0 hc0 hl
end Go.Proofs.YtdpklbomhdpimaaDoor.P
namespace Go.Proofs.YtdpklbomhdpimaaDoor.P
open Go.RowKit Go.Proofs.YtdpklbomhdpimaaDoorW.PrintWords Go.Proofs.YtdpklbomhdpimaaDoorW.PrintLast
def IsS145 (w0 W:World) (g:Nat) (f0:List Int) (f1:Int):Prop:=∃ A0 c0,W.heap[g]?=some (.cells #[.slice A0 f0.length c0,.int .i64 f1] 145 (0,0))∧w0.heap.size≤g∧Kd.C (Kd.int .u8) w0 A0 f0.length f0
theorem IsS145.grown {w0 W:World} {g:Nat} {f0:List Int} {f1:Int} {W1:World} {row:Option Nat} (h:IsS145 w0 W g f0 f1) (hw:W.grownBy W1 row) (hne:some g≠row):IsS145 w0 W1 g f0 f1:=by
 obtain ⟨A0,c0,hb,hg,hr0⟩:=h
 exact ⟨A0,c0,blk_grown hb hw hne,hg,hr0⟩
theorem IsS145.kept {w0 W:World} {g:Nat} {f0:List Int} {f1:Int} {W1:World} {S:Nat→Prop} (h:IsS145 w0 W g f0 f1) (hk:Kept W W1 S) (hne:¬ S g):IsS145 w0 W1 g f0 f1:=by
 obtain ⟨A0,c0,hb,hg,hr0⟩:=h
 exact ⟨A0,c0,blk_kept hb hk hne,hg,hr0⟩
theorem IsS145.below {w0 W:World} {g:Nat} {f0:List Int} {f1:Int} {W1:World} (h:IsS145 w0 W g f0 f1) (hw:Below W.heap.size W W1):IsS145 w0 W1 g f0 f1:=h.grown (grown_of_below hw none) (by simp)
theorem IsS145.alloc {w0 W:World} {g:Nat} {f0:List Int} {f1:Int} (h:IsS145 w0 W g f0 f1) (o:Obj):IsS145 w0 (W.alloc o) g f0 f1:=h.below (wA_ (Below.refl _ _) o)
theorem IsS145.drewN {w0 W:World} {g:Nat} {f0:List Int} {f1:Int} (h:IsS145 w0 W g f0 f1) (m:Nat):IsS145 w0 (W.drewN m) g f0 f1:=h
theorem IsS145.drew {w0 W:World} {g:Nat} {f0:List Int} {f1:Int} (h:IsS145 w0 W g f0 f1):IsS145 w0 W.drew g f0 f1:=h
theorem IsS145.at_ {w0 W:World} {g:Nat} {f0:List Int} {f1:Int} {w':World} {m:Nat} (hq:W.drewN m=w') (h:IsS145 w0 W g f0 f1):IsS145 w0 w' g f0 f1:=by subst hq;exact IsS145.drewN h m
theorem IsS145.apart {w0 W:World} {g:Nat} {f0:List Int} {f1:Int} {α:Type} {d:Kd α} {e:Nat} {base:Nat} {ok:Nat→Prop} {v:Value} {xs:List α} (h:IsS145 w0 W g f0 f1) (ho:d.R e W base ok v xs) (ht:∀ q,q∈e::d.E→q≠145):d.R e W base (fun k=>ok k∧k≠g) v xs:=by
 obtain ⟨A0,c0,hb,hg,hr0⟩:=h
 exact Kd.R_types ho hb ht
theorem IsS145.own_ne {w0 W:World} {g:Nat} {f0:List Int} {f1:Int} {α:Type} {d:Kd α} {e:Nat} {base:Nat} {ok:Nat→Prop} {v:Value} {xs:List α} (h:IsS145 w0 W g f0 f1) (ho:d.R e W base ok v xs) (ht:e≠145):some g≠v.ownBlock:=by
 obtain ⟨A0,c0,hb,hg,hr0⟩:=h
 exact Kd.R_ne ho hb ht
theorem IsS145.lt {w0 W:World} {g:Nat} {f0:List Int} {f1:Int} (h:IsS145 w0 W g f0 f1):g < W.heap.size:=by
 obtain ⟨A0,c0,hb,hg,hr0⟩:=h
 exact blk_lt hb
theorem IsS145.ge {w0 W:World} {g:Nat} {f0:List Int} {f1:Int} (h:IsS145 w0 W g f0 f1):w0.heap.size≤g:=by
 obtain ⟨A0,c0,hb,hg,hr0⟩:=h
 exact hg
theorem IsS145.ne_blk {w0 W:World} {g:Nat} {f0:List Int} {f1:Int} {a:Nat} {cs:Array Value} {t:TypeId} {fr:Nat×Nat} (h:IsS145 w0 W g f0 f1) (hb2:W.heap[a]?=some (.cells cs t fr)) (ht:t≠145):g≠a:=by
 obtain ⟨A0,c0,hb,hg,hr0⟩:=h
 rintro rfl
 rw [hb] at hb2
 injection hb2 with hb2
 injection hb2 with _ ht2
 exact ht ht2.symm
theorem IsS145.far {w0 W:World} {g:Nat} {f0:List Int} {f1:Int} {p:Addr} (h:IsS145 w0 W g f0 f1) (hne:g≠p.block) (u:Value):IsS145 w0 (W.setCell p u) g f0 f1:=by
 obtain ⟨A0,c0,hb,hg,hr0⟩:=h
 exact ⟨A0,c0,blk_far hb hne u,hg,hr0⟩
theorem cellS145_0 {W:World} {g:Nat} {A0:Option Addr} {c0:Nat} {f0:List Int} {f1:Int} (h:W.heap[g]?=some (.cells #[.slice A0 f0.length c0,.int .i64 f1] 145 (0,0))):W.cell? ⟨g,0,none⟩=some (.slice A0 f0.length c0):=(bC_ h 0).trans rfl
theorem cellS145_1 {W:World} {g:Nat} {A0:Option Addr} {c0:Nat} {f0:List Int} {f1:Int} (h:W.heap[g]?=some (.cells #[.slice A0 f0.length c0,.int .i64 f1] 145 (0,0))):W.cell? ⟨g,1,none⟩=some (.int .i64 f1):=(bC_ h 1).trans rfl
theorem IsS145.set_1 {w0 W:World} {g:Nat} {f0:List Int} {f1:Int} (h:IsS145 w0 W g f0 f1) (x:Int):IsS145 w0 (W.setCell ⟨g,1,none⟩ (.int .i64 x)) g f0 x:=by
 obtain ⟨A0,c0,hb,hg,hr0⟩:=h
 exact ⟨A0,c0,by simpa using blk_set hb 1 (.int .i64 x),hg,hr0⟩
theorem IsS145.new (w0 W:World) (A0:Option Addr) (c0:Nat) (f0:List Int) (f1:Int) (hB:Below w0.heap.size w0 W) (hr0:Kd.C (Kd.int .u8) w0 A0 f0.length f0):IsS145 w0 (W.alloc (.cells #[.slice A0 f0.length c0,.int .i64 f1] 145)) W.heap.size f0 f1:=⟨A0,c0,by simpa using heap_alloc_new W _,hB.size,hr0⟩

theorem is_HI0 {p:Prop} (h:p:=by repeat (first|(with_reducible first|exact HI0.out|apply IsS145.alloc|apply IsS145.drewN|apply IsS145.drew|apply IsS145.set_1|refine IsS145.far ?_ (Aside0.out (by assumption)) _)|exact HI0.out)):p:=h
theorem is_HI667 {p:Prop} (h:p:=by repeat (first|(with_reducible first|exact HI667.out|apply IsS145.alloc|apply IsS145.drewN|apply IsS145.drew|apply IsS145.set_1|refine IsS145.far ?_ (Aside0.out (by assumption)) _)|exact HI667.out)):p:=h
theorem is_HI694 {p:Prop} (h:p:=by repeat (first|(with_reducible first|exact HI694.out|apply IsS145.alloc|apply IsS145.drewN|apply IsS145.drew|apply IsS145.set_1|refine IsS145.far ?_ (Aside0.out (by assumption)) _)|exact HI694.out)):p:=h
theorem is_HI719 {p:Prop} (h:p:=by repeat (first|(with_reducible first|exact HI719.out|apply IsS145.alloc|apply IsS145.drewN|apply IsS145.drew|apply IsS145.set_1|refine IsS145.far ?_ (Aside0.out (by assumption)) _)|exact HI719.out)):p:=h
theorem rk145_ {w0 W:World} {g:Nat} {f0:List Int} {f1:Int} {α:Type} {d:Kd α} {e:Nat} {base:Nat} {ok:Nat→Prop} {v:Value} {xs:List α} (h:IsS145 w0 W g f0 f1) (ho:d.R e W base ok v xs) {W1:World} (hk:KeepBut W W1 g none) (ht:∀ q,q∈e::d.E→q≠145:=by decide):Aside0 (d.R e W1 base ok v xs):=a_ (Kd.R_mono (Kd.R_keep (IsS145.apart h ho ht) hk (fun _ h=>h.2)) (fun _ h=>h.1))
def spec_l6Open.f (l0:List Int):Option (List Int×Int):=if (l0.length:Int) > 2000 then (if 2000≤(l0.length:Int) then (some (l0.take 2000,0)) else (none)) else (some (l0,0))
theorem spec_l6Open.calls (A0:Option Addr) (c0:Nat) (l0:List Int) (r1:List Int) (r2:Int) (w0 w:World) (hB:Below w0.heap.size w0 w) (hr0:Kd.C (Kd.int .u8) w0 A0 l0.length l0) (hc0:l0.length≤c0) (h:spec_l6Open.f l0=some (r1,r2)) :
  Calls Tryd.prog 72 #[.slice A0 l0.length c0] w fun e w'=>∃ g_:Nat,e=.returned (.pointer (some ⟨g_,0,none⟩))∧IsS145 w0 w' g_ r1 r2∧Below w0.heap.size w0 w'∧Below w.heap.size w w':=by
 have hu145:=Tryd.underlying145
 have HR0:=a_ hr0
 have HC0:=a_ hc0
 clear hr0 hc0
 have HBW:=a_ (Below.refl w.heap.size w)
 have HW0:=a_ hB.size
 have HB:=a_ hB
 clear hB
 unfold spec_l6Open.f at h
 have H:=h
 clear h
 by_cases c2:(l0.length:Int) > 2000
 ·rw [if_pos c2] at H
  have c2b0:decide (2000 < (l0.length:Int))=true:=dt_ c2
  have c2b1:decide (2000 < l0.length)=true:=dt_ (by omega)
  clear c2
  by_cases c3:2000≤(l0.length:Int)
  ·rw [if_pos c3] at H
   have c3b0:=eq_true c3
   have c3b1:decide (2000≤(l0.length:Int))=true:=dt_ c3
   clear c3
   simp only [Option.some.injEq,Prod.mk.injEq] at H
   obtain ⟨rfl,rfl⟩:=H
   obtain ⟨i04,hi04,_,hsz4,_⟩:=info_parts info5
   obtain ⟨hcut4,hA4,hC4⟩:=print_take_of (P:=Tryd.prog) (Value.int .u8) 0 22 5 .i64 Tryd.underlying22 hi04 hsz4 A0 c0 l0 2000 (by omega) (od_) HC0.out
   have HR101:=a_ (Kd.C_of_reads (h1:=fun _=>rfl) (hA4 _ (Kd.reads_of_C HR0.out)))
   have HC101:=a_ hC4
   clear hA4 hC4 hi04 hsz4
   go_enter Tryd.func72,Tryd.ntmps72
   go_wp2_with (first|((with_reducible refine gD_ (N:=10) rfl ?_);refine bx_ 10 (#[.slice A0 (l0.take 2000).length c0,.int .i64 0]) 145 ?_;intro gb102 hg w5 hbox hb;have n0_:=a_ (bS_ HBW.out hb);have n1_:=a_ (bS_ (bel_) hb);have n2_:=a_ (hbox);have n3_:=a_ ((by rw [hg];exact (below_size (by repeat (first|(with_reducible first|exact HBW.out|apply wA_|apply pw_below_drewN|apply below_drew1)|exact HBW.out))):w.heap.size≤gb102));have n4_:=a_ ((Nat.le_trans HW0.out (by rw [hg];exact (below_size (by repeat (first|(with_reducible first|exact HBW.out|apply wA_|apply pw_below_drewN|apply below_drew1)|exact HBW.out))):w.heap.size≤gb102):w0.heap.size≤gb102));clear HBW;clear HB;have HBW:=n0_;have HB:=n1_;have BK102:=n2_;have GW102:=n3_;have GE102:=n4_;clear n0_ n1_ n2_ n3_ n4_;clear hb hbox hg))
   go_ret
   exact ⟨_,rfl,(show IsS145 w0 _ gb102 (l0.take 2000) 0 from ⟨_,_,bp_ BK102.out,GE102.out,HR101.out⟩),bel_,by repeat (first|(with_reducible first|exact HBW.out|apply wA_|apply pw_below_drewN|apply below_drew1|refine wS_ ?_ GW102.out)|exact HBW.out)⟩
  ·rw [if_neg c3] at H
   exact absurd H (by simp)
 ·rw [if_neg c2] at H
  have c2b0:decide (2000 < (l0.length:Int))=false:=df_ c2
  have c2b1:decide (2000 < l0.length)=false:=df_ (by omega)
  clear c2
  simp only [Option.some.injEq,Prod.mk.injEq] at H
  obtain ⟨rfl,rfl⟩:=H
  go_enter Tryd.func72,Tryd.ntmps72
  go_wp2_with (first|((with_reducible refine gD_ (N:=10) rfl ?_);refine bx_ 10 (#[.slice A0 l0.length c0,.int .i64 0]) 145 ?_;intro gb103 hg w6 hbox hb;have n0_:=a_ (bS_ HBW.out hb);have n1_:=a_ (bS_ (bel_) hb);have n2_:=a_ (hbox);have n3_:=a_ ((by rw [hg];exact (below_size (by repeat (first|(with_reducible first|exact HBW.out|apply wA_|apply pw_below_drewN|apply below_drew1)|exact HBW.out))):w.heap.size≤gb103));have n4_:=a_ ((Nat.le_trans HW0.out (by rw [hg];exact (below_size (by repeat (first|(with_reducible first|exact HBW.out|apply wA_|apply pw_below_drewN|apply below_drew1)|exact HBW.out))):w.heap.size≤gb103):w0.heap.size≤gb103));clear HBW;clear HB;have HBW:=n0_;have HB:=n1_;have BK103:=n2_;have GW103:=n3_;have GE103:=n4_;clear n0_ n1_ n2_ n3_ n4_;clear hb hbox hg))
  go_ret
  exact ⟨_,rfl,(show IsS145 w0 _ gb103 l0 0 from ⟨_,_,bp_ BK103.out,GE103.out,HR0.out⟩),bel_,by repeat (first|(with_reducible first|exact HBW.out|apply wA_|apply pw_below_drewN|apply below_drew1|refine wS_ ?_ GW103.out)|exact HBW.out)⟩

def spec_l6Rd_pick.j0:Nat→Int→Bool→List Int→Int→Option (Int×Int)
 | 0,_,_,_,_=>none
 | k+1,x1,x24,x1000,x1001=>if x24=true then (some (0,x1001)) else (if (wrap64 (x1001 - 1)) < (x1000.length:Int) then (if 0≤(wrap64 (x1001 - 1)) then (if x1=0 then (none) else (some (Int.tmod (wrap64 (rd x1000 (wrap64 (x1001 - 1)))) x1,x1001))) else (none)) else (if (x1000.length:Int)=0 then (none) else (if 0≤(Int.tmod (wrap64 (x1001 - 1)) (x1000.length:Int)) then (if (Int.tmod (wrap64 (x1001 - 1)) (x1000.length:Int)) < (x1000.length:Int) then (if 0≤(Int.tmod (wrap64 ((wrap64 ((wrap64 (x1001 - 1)) * 7))+3)) (x1000.length:Int)) then (if (Int.tmod (wrap64 ((wrap64 ((wrap64 (x1001 - 1)) * 7))+3)) (x1000.length:Int)) < (x1000.length:Int) then (if x1=0 then (none) else (some (Int.tmod (Go.bits .xor .i64 (wrap64 ((wrap64 ((wrap64 ((wrap64 ((wrap64 (rd x1000 (Int.tmod (wrap64 (x1001 - 1)) (x1000.length:Int)))) * 131))+(wrap64 ((wrap64 (rd x1000 (Int.tmod (wrap64 ((wrap64 ((wrap64 (x1001 - 1)) * 7))+3)) (x1000.length:Int)))) * 1117))))+(wrap64 ((wrap64 (x1001 - 1)) * 29))))+(wrap64 ((wrap64 (Int.tdiv (wrap64 (x1001 - 1)) (x1000.length:Int))) * 53)))) (wrap64 (Int.tdiv (wrap64 ((wrap64 ((wrap64 ((wrap64 ((wrap64 (rd x1000 (Int.tmod (wrap64 (x1001 - 1)) (x1000.length:Int)))) * 131))+(wrap64 ((wrap64 (rd x1000 (Int.tmod (wrap64 ((wrap64 ((wrap64 (x1001 - 1)) * 7))+3)) (x1000.length:Int)))) * 1117))))+(wrap64 ((wrap64 (x1001 - 1)) * 29))))+(wrap64 ((wrap64 (Int.tdiv (wrap64 (x1001 - 1)) (x1000.length:Int))) * 53)))) 64))) x1,x1001))) else (none)) else (none)) else (none)) else (none))))
def spec_l6Rd_pick.f (k:Nat) (s0_0:List Int) (s0_1:Int) (a1:Int):Option (Int×Int):=if a1 < 1 then (spec_l6Rd_pick.j0 k a1 true s0_0 (wrap64 (s0_1+1))) else (spec_l6Rd_pick.j0 k a1 ((s0_0.length:Int)==0) s0_0 (wrap64 (s0_1+1)))
theorem spec_l6Rd_pick.mono_l:∀ k,(∀ y0 y1 y2 y3,LeO (spec_l6Rd_pick.j0 k y0 y1 y2 y3) (spec_l6Rd_pick.j0 (k+1) y0 y1 y2 y3))
 | 0=>fun _ _ _ _ r h=>by simp [spec_l6Rd_pick.j0] at h
 | k+1=>by
  have ih0:=spec_l6Rd_pick.mono_l k
  ·intro y0 y1 y2 y3
   unfold spec_l6Rd_pick.j0
   repeat' first
   | (with_reducible exact ih0 _ _ _ _)
   | (with_reducible exact LeO.refl _)
   | (with_reducible exact LeO.none _)
   | (with_reducible refine LeO.ite ?_ ?_)
   | (with_reducible refine LeO.bind ?_ (fun _=>?_))
theorem spec_l6Rd_pick.mono:∀ a0 a1 a2 k,LeO (spec_l6Rd_pick.f k a0 a1 a2) (spec_l6Rd_pick.f (k+1) a0 a1 a2):=by
 intro a0 a1 a2 k
 have ih0:=spec_l6Rd_pick.mono_l k
 unfold spec_l6Rd_pick.f
 repeat' first
   | (with_reducible exact ih0 _ _ _ _)
   | (with_reducible exact LeO.refl _)
   | (with_reducible exact LeO.none _)
   | (with_reducible refine LeO.ite ?_ ?_)
   | (with_reducible refine LeO.bind ?_ (fun _=>?_))
theorem spec_l6Rd_pick.calls (k:Nat) (g:Nat) (s0_0:List Int) (s0_1:Int) (a1:Int) (r1:Int) (r2:Int) (w0 w:World) (hI:IsS145 w0 w g s0_0 s0_1) (hB:Below w0.heap.size w0 w) (h:spec_l6Rd_pick.f k s0_0 s0_1 a1=some (r1,r2)) :
  Calls Tryd.prog 74 #[.pointer (some ⟨g,0,none⟩),.int .i64 a1] w fun e w'=>e=.returned (.int .i64 r1)∧IsS145 w0 w' g s0_0 r2∧Below w0.heap.size w0 w'∧KeepBut w w' g none:=by
 have HI0:=a_ hI
 have HK:=a_ (KeepBut.refl w g none)
 have HL:=a_ hB.size
 clear hI
 have HW0:=a_ hB.size
 have HB:=a_ hB
 clear hB
 unfold spec_l6Rd_pick.f at h
 have H:=h
 clear h
 have HC3:=a_ H
 clear H
 obtain ⟨ASz4_0,cSz4_0,HGz4,hgz4,HSz4_0⟩:=HI0.out
 have Z4_0:=cellS145_0 HGz4
 have Z4_1:=cellS145_1 HGz4
 have Y4_1:=bF_ HGz4 1
 clear HGz4 hgz4
 go_enter Tryd.func74,Tryd.ntmps74
 go_upto_region 2 with (fail)
 repeat (go_quiet (fail);go_upto_region 2 with (fail))
 go_cut [24] (fun v24 wc=>∃ (kq:Nat) (x24_2:Bool),v24=.bool x24_2∧Aside0 (spec_l6Rd_pick.j0 kq a1 x24_2 s0_0 (wrap64 (s0_1+1))=some (r1,r2))∧Aside0 (kq≤k)∧Aside0 (IsS145 w0 wc g s0_0 (wrap64 (s0_1+1)))∧Aside0 (KeepBut w wc g none)∧Aside0 (Below w0.heap.size w0 wc))
 case first =>
  have H:=HC3.out
  clear HC3
  by_cases c5:a1 < 1
  ·rw [if_pos c5] at H
   have c5b0:decide (a1 < 1)=true:=dt_ c5
   clear c5
   (first|rw [c5b0]|(simp only [i64_w,i32_w];rw [c5b0])|skip)
   have H':=a_ H
   clear H
   go_wp2
   repeat (go_quiet (fail);try go_wp2)
   go_meet
   case rel=>exact ⟨_,(true),(si_),H',⟨by first|omega|exact Nat.le_refl _⟩,⟨is_HI0⟩,⟨ke_⟩,⟨bel_⟩⟩
  ·rw [if_neg c5] at H
   have c5b0:decide (a1 < 1)=false:=df_ c5
   clear c5
   (first|rw [c5b0]|(simp only [i64_w,i32_w];rw [c5b0])|skip)
   have H':=a_ H
   clear H
   obtain ⟨ASz6_0,cSz6_0,HGz6,hgz6,HSz6_0⟩:=HI0.out
   have Z6_0:=cellS145_0 HGz6
   have Z6_1:=cellS145_1 HGz6
   have Y6_1:=bF_ HGz6 1
   clear HGz6 hgz6
   go_wp2
   repeat (go_quiet (fail);try go_wp2)
   go_meet
   case rel=>exact ⟨_,(((s0_0.length:Int)==0)),(si_),H',⟨by first|omega|exact Nat.le_refl _⟩,⟨is_HI0⟩,⟨ke_⟩,⟨bel_⟩⟩
 case rest =>
  clear HC3
  try clear p2
  try clear c5
  try clear c5b0
  try clear p6
  try clear Z4_0 Z4_1 Y4_1
  try clear Z6_0 Z6_1 Y6_1
  obtain ⟨kq,x24_2,rfl,HA,HJ2,HI0,HK,HB⟩:=hcut
  cases kq with
  | zero=>exact absurd HA.out (by simp [spec_l6Rd_pick.j0])
  | succ kj2 =>
   have H:=HA.out
   clear HA
   simp only [spec_l6Rd_pick.j0] at H
   by_cases c7:x24_2=true
   ·subst c7
    have H1:(some (0,(wrap64 (s0_1+1))))=some (r1,r2):=by rw [if_pos rfl] at H;exact H
    clear H
    have H:=H1
    clear H1
    simp only [Option.some.injEq,Prod.mk.injEq] at H
    obtain ⟨rfl,rfl⟩:=H
    go_wp2
    repeat (go_quiet (fail);try go_wp2)
    go_ret
    exact ⟨fi_,is_HI0,bel_,ke_⟩
   ·replace c7:=Bool.eq_false_iff.mpr c7
    subst c7
    have H1:(if (wrap64 ((wrap64 (s0_1+1)) - 1)) < (s0_0.length:Int) then (if 0≤(wrap64 ((wrap64 (s0_1+1)) - 1)) then (if a1=0 then (none) else (some (Int.tmod (wrap64 (rd s0_0 (wrap64 ((wrap64 (s0_1+1)) - 1)))) a1,(wrap64 (s0_1+1))))) else (none)) else (if (s0_0.length:Int)=0 then (none) else (if 0≤(Int.tmod (wrap64 ((wrap64 (s0_1+1)) - 1)) (s0_0.length:Int)) then (if (Int.tmod (wrap64 ((wrap64 (s0_1+1)) - 1)) (s0_0.length:Int)) < (s0_0.length:Int) then (if 0≤(Int.tmod (wrap64 ((wrap64 ((wrap64 ((wrap64 (s0_1+1)) - 1)) * 7))+3)) (s0_0.length:Int)) then (if (Int.tmod (wrap64 ((wrap64 ((wrap64 ((wrap64 (s0_1+1)) - 1)) * 7))+3)) (s0_0.length:Int)) < (s0_0.length:Int) then (if a1=0 then (none) else (some (Int.tmod (Go.bits .xor .i64 (wrap64 ((wrap64 ((wrap64 ((wrap64 ((wrap64 (rd s0_0 (Int.tmod (wrap64 ((wrap64 (s0_1+1)) - 1)) (s0_0.length:Int)))) * 131))+(wrap64 ((wrap64 (rd s0_0 (Int.tmod (wrap64 ((wrap64 ((wrap64 ((wrap64 (s0_1+1)) - 1)) * 7))+3)) (s0_0.length:Int)))) * 1117))))+(wrap64 ((wrap64 ((wrap64 (s0_1+1)) - 1)) * 29))))+(wrap64 ((wrap64 (Int.tdiv (wrap64 ((wrap64 (s0_1+1)) - 1)) (s0_0.length:Int))) * 53)))) (wrap64 (Int.tdiv (wrap64 ((wrap64 ((wrap64 ((wrap64 ((wrap64 (rd s0_0 (Int.tmod (wrap64 ((wrap64 (s0_1+1)) - 1)) (s0_0.length:Int)))) * 131))+(wrap64 ((wrap64 (rd s0_0 (Int.tmod (wrap64 ((wrap64 ((wrap64 ((wrap64 (s0_1+1)) - 1)) * 7))+3)) (s0_0.length:Int)))) * 1117))))+(wrap64 ((wrap64 ((wrap64 (s0_1+1)) - 1)) * 29))))+(wrap64 ((wrap64 (Int.tdiv (wrap64 ((wrap64 (s0_1+1)) - 1)) (s0_0.length:Int))) * 53)))) 64))) a1,(wrap64 (s0_1+1))))) else (none)) else (none)) else (none)) else (none))))=some (r1,r2):=by rw [if_neg (show ¬ (false=true) by decide)] at H;exact H
    clear H
    have H:=H1
    clear H1
    by_cases c8:(wrap64 ((wrap64 (s0_1+1)) - 1)) < (s0_0.length:Int)
    ·rw [if_pos c8] at H
     have c8b0:decide ((wrap64 ((wrap64 (s0_1+1)) - 1)) < (s0_0.length:Int))=true:=dt_ c8
     clear c8
     obtain ⟨ji9,hji9⟩:∃ j_:Int,(wrap64 ((wrap64 (s0_1+1)) - 1))=j_:=⟨_,rfl⟩
     replace H:(if 0≤(ji9) then (if a1=0 then (none) else (some (Int.tmod (wrap64 (rd s0_0 (ji9))) a1,(wrap64 (s0_1+1))))) else (none))=some (r1,r2):=by first|(rw [hji9] at H;exact H)|(simp only [hji9] at H ⊢;exact H)
     (try rw [hji9] at c8b0)
     have hji9w:(IntKind.i64.wrap ((wrap64 (s0_1+1)) - 1))=ji9:=(i64_w _).trans hji9
     by_cases c10:0≤(ji9)
     ·rw [if_pos c10] at H
      have c10b0:decide (0≤(ji9))=true:=dt_ c10
      clear c10
      by_cases c11:a1=0
      ·rw [if_pos c11] at H
       exact absurd H (by simp)
      ·rw [if_neg c11] at H
       have c11b0:(a1==0)=false:=bn_ c11
       have c11b1:(a1 != 0)=true:=bne_iff_ne.mpr c11
       simp only [Option.some.injEq,Prod.mk.injEq] at H
       obtain ⟨rfl,rfl⟩:=H
       obtain ⟨ASz12_0,cSz12_0,HGz12,hgz12,HSz12_0⟩:=HI0.out
       have Z12_0:=cellS145_0 HGz12
       have Z12_1:=cellS145_1 HGz12
       have Y12_1:=bF_ HGz12 1
       clear HGz12 hgz12
       have p104:0≤((ji9):Int):=od_
       have q104:(ji9) < (s0_0.length:Int):=od_
       obtain ⟨ad104,e104,hx104_0⟩:=Kd.at_int HSz12_0 (ji9) p104 q104
       cases e104
       replace hx104_0:=pw_cell_below HB.out hx104_0
       replace p104:=eq_true p104
       replace q104:=eq_true q104
       go_wp2
       repeat (go_quiet (fail);try go_wp2)
       go_ret
       exact ⟨by first|rfl|(simp [errW_none,errW_some] <;> rfl)|(simp only [←hji9];first|rfl|(simp [errW_none,errW_some] <;> rfl))|(simp [*,errW_none,errW_some] <;> rfl),is_HI0,bel_,ke_⟩
     ·rw [if_neg c10] at H
      exact absurd H (by simp)
    ·rw [if_neg c8] at H
     have c8b0:decide ((wrap64 ((wrap64 (s0_1+1)) - 1)) < (s0_0.length:Int))=false:=df_ c8
     clear c8
     by_cases c13:(s0_0.length:Int)=0
     ·rw [if_pos c13] at H
      exact absurd H (by simp)
     ·rw [if_neg c13] at H
      have c13b0:((s0_0.length:Int)==0)=false:=bn_ c13
      have c13b1:((s0_0.length:Int) != 0)=true:=bne_iff_ne.mpr c13
      have c13b2:¬ (s0_0=[]):=fun h_=>c13 (by rw [h_];rfl)
      obtain ⟨ji14,hji14⟩:∃ j_:Int,(Int.tmod (wrap64 ((wrap64 (s0_1+1)) - 1)) (s0_0.length:Int))=j_:=⟨_,rfl⟩
      replace H:(if 0≤(ji14) then (if (ji14) < (s0_0.length:Int) then (if 0≤(Int.tmod (wrap64 ((wrap64 ((wrap64 ((wrap64 (s0_1+1)) - 1)) * 7))+3)) (s0_0.length:Int)) then (if (Int.tmod (wrap64 ((wrap64 ((wrap64 ((wrap64 (s0_1+1)) - 1)) * 7))+3)) (s0_0.length:Int)) < (s0_0.length:Int) then (if a1=0 then (none) else (some (Int.tmod (Go.bits .xor .i64 (wrap64 ((wrap64 ((wrap64 ((wrap64 ((wrap64 (rd s0_0 (ji14))) * 131))+(wrap64 ((wrap64 (rd s0_0 (Int.tmod (wrap64 ((wrap64 ((wrap64 ((wrap64 (s0_1+1)) - 1)) * 7))+3)) (s0_0.length:Int)))) * 1117))))+(wrap64 ((wrap64 ((wrap64 (s0_1+1)) - 1)) * 29))))+(wrap64 ((wrap64 (Int.tdiv (wrap64 ((wrap64 (s0_1+1)) - 1)) (s0_0.length:Int))) * 53)))) (wrap64 (Int.tdiv (wrap64 ((wrap64 ((wrap64 ((wrap64 ((wrap64 (rd s0_0 (ji14))) * 131))+(wrap64 ((wrap64 (rd s0_0 (Int.tmod (wrap64 ((wrap64 ((wrap64 ((wrap64 (s0_1+1)) - 1)) * 7))+3)) (s0_0.length:Int)))) * 1117))))+(wrap64 ((wrap64 ((wrap64 (s0_1+1)) - 1)) * 29))))+(wrap64 ((wrap64 (Int.tdiv (wrap64 ((wrap64 (s0_1+1)) - 1)) (s0_0.length:Int))) * 53)))) 64))) a1,(wrap64 (s0_1+1))))) else (none)) else (none)) else (none)) else (none))=some (r1,r2):=by first|(rw [hji14] at H;exact H)|(simp only [hji14] at H ⊢;exact H)
      by_cases c15:0≤(ji14)
      ·rw [if_pos c15] at H
       have c15b0:decide (0≤(ji14))=true:=dt_ c15
       clear c15
       by_cases c16:(ji14) < (s0_0.length:Int)
       ·rw [if_pos c16] at H
        have c16b0:decide ((ji14) < (s0_0.length:Int))=true:=dt_ c16
        clear c16
        obtain ⟨ji17,hji17⟩:∃ j_:Int,(Int.tmod (wrap64 ((wrap64 ((wrap64 ((wrap64 (s0_1+1)) - 1)) * 7))+3)) (s0_0.length:Int))=j_:=⟨_,rfl⟩
        replace H:(if 0≤(ji17) then (if (ji17) < (s0_0.length:Int) then (if a1=0 then (none) else (some (Int.tmod (Go.bits .xor .i64 (wrap64 ((wrap64 ((wrap64 ((wrap64 ((wrap64 (rd s0_0 (ji14))) * 131))+(wrap64 ((wrap64 (rd s0_0 (ji17))) * 1117))))+(wrap64 ((wrap64 ((wrap64 (s0_1+1)) - 1)) * 29))))+(wrap64 ((wrap64 (Int.tdiv (wrap64 ((wrap64 (s0_1+1)) - 1)) (s0_0.length:Int))) * 53)))) (wrap64 (Int.tdiv (wrap64 ((wrap64 ((wrap64 ((wrap64 ((wrap64 (rd s0_0 (ji14))) * 131))+(wrap64 ((wrap64 (rd s0_0 (ji17))) * 1117))))+(wrap64 ((wrap64 ((wrap64 (s0_1+1)) - 1)) * 29))))+(wrap64 ((wrap64 (Int.tdiv (wrap64 ((wrap64 (s0_1+1)) - 1)) (s0_0.length:Int))) * 53)))) 64))) a1,(wrap64 (s0_1+1))))) else (none)) else (none))=some (r1,r2):=by first|(rw [hji17] at H;exact H)|(simp only [hji17] at H ⊢;exact H)
        by_cases c18:0≤(ji17)
        ·rw [if_pos c18] at H
         have c18b0:decide (0≤(ji17))=true:=dt_ c18
         clear c18
         by_cases c19:(ji17) < (s0_0.length:Int)
         ·rw [if_pos c19] at H
          have c19b0:decide ((ji17) < (s0_0.length:Int))=true:=dt_ c19
          clear c19
          by_cases c20:a1=0
          ·rw [if_pos c20] at H
           exact absurd H (by simp)
          ·rw [if_neg c20] at H
           have c20b0:(a1==0)=false:=bn_ c20
           have c20b1:(a1 != 0)=true:=bne_iff_ne.mpr c20
           simp only [Option.some.injEq,Prod.mk.injEq] at H
           obtain ⟨rfl,rfl⟩:=H
           obtain ⟨ASz21_0,cSz21_0,HGz21,hgz21,HSz21_0⟩:=HI0.out
           have Z21_0:=cellS145_0 HGz21
           have Z21_1:=cellS145_1 HGz21
           have Y21_1:=bF_ HGz21 1
           clear HGz21 hgz21
           have p105:0≤((ji14):Int):=od_
           have q105:(ji14) < (s0_0.length:Int):=od_
           obtain ⟨ad105,e105,hx105_0⟩:=Kd.at_int HSz21_0 (ji14) p105 q105
           cases e105
           replace hx105_0:=pw_cell_below HB.out hx105_0
           replace p105:=eq_true p105
           replace q105:=eq_true q105
           have p106:0≤((ji17):Int):=od_
           have q106:(ji17) < (s0_0.length:Int):=od_
           obtain ⟨ad106,e106,hx106_0⟩:=Kd.at_int HSz21_0 (ji17) p106 q106
           obtain rfl:ad105=ad106:=(by injection e106)
           replace hx106_0:=pw_cell_below HB.out hx106_0
           replace p106:=eq_true p106
           replace q106:=eq_true q106
           go_wp2
           repeat (go_quiet (fail);try go_wp2)
           go_ret
           exact ⟨by first|rfl|(simp [errW_none,errW_some] <;> rfl)|(simp only [←hji14,←hji17];first|rfl|(simp [errW_none,errW_some] <;> rfl))|(simp [*,errW_none,errW_some] <;> rfl),is_HI0,bel_,ke_⟩
         ·rw [if_neg c19] at H
          exact absurd H (by simp)
        ·rw [if_neg c18] at H
         exact absurd H (by simp)
       ·rw [if_neg c16] at H
        exact absurd H (by simp)
      ·rw [if_neg c15] at H
       exact absurd H (by simp)

def spec_l12Seq.l0:Nat→List (S44)→Int→Int→Int→Option (Int)
 | 0,_,_,_,_=>none
 | k+1,x0,x1,x5,x6=>if x6 < (x0.length:Int) then (if 0≤x6 then (if ((rd_T44 x0 x6).f0)=x1 then (spec_l12Seq.l0 k x0 x1 (wrap64 (x5+1)) (wrap64 (x6+1))) else (spec_l12Seq.l0 k x0 x1 x5 (wrap64 (x6+1)))) else (none)) else (some x5)
def spec_l12Seq.f (k:Nat) (l0:List (S44)) (a1:Int):Option (Int):=spec_l12Seq.l0 k l0 a1 0 0
theorem spec_l12Seq.mono_l:∀ k,(∀ y0 y1 y2 y3,LeO (spec_l12Seq.l0 k y0 y1 y2 y3) (spec_l12Seq.l0 (k+1) y0 y1 y2 y3))
 | 0=>fun _ _ _ _ r h=>by simp [spec_l12Seq.l0] at h
 | k+1=>by
  have ih0:=spec_l12Seq.mono_l k
  ·intro y0 y1 y2 y3
   unfold spec_l12Seq.l0
   repeat' first
   | (with_reducible exact ih0 _ _ _ _)
   | (with_reducible exact LeO.refl _)
   | (with_reducible exact LeO.none _)
   | (with_reducible refine LeO.ite ?_ ?_)
   | (with_reducible refine LeO.bind ?_ (fun _=>?_))
theorem spec_l12Seq.mono:∀ a0 a1 k,LeO (spec_l12Seq.f k a0 a1) (spec_l12Seq.f (k+1) a0 a1):=by
 intro a0 a1 k
 have ih0:=spec_l12Seq.mono_l k
 unfold spec_l12Seq.f
 repeat' first
   | (with_reducible exact ih0 _ _ _ _)
   | (with_reducible exact LeO.refl _)
   | (with_reducible exact LeO.none _)
   | (with_reducible refine LeO.ite ?_ ?_)
   | (with_reducible refine LeO.bind ?_ (fun _=>?_))
theorem spec_l12Seq.calls (k:Nat) (A0:Option Addr) (c0:Nat) (l0:List (S44)) (a1:Int) (r:Int) (w:World) (hr0:Kd.C k44 w A0 l0.length l0) (hc0:l0.length≤c0) (h:spec_l12Seq.f k l0 a1=some r) :
  Calls Tryd.prog 90 #[.slice A0 l0.length c0,.int .i64 a1] w fun e w'=>e=.returned (.int .i64 r)∧Drawn0 w w':=by
 have HR0:=a_ hr0
 have HC0:=a_ hc0
 clear hr0 hc0
 unfold spec_l12Seq.f at h
 have H:=h
 clear h
 have H':=a_ H
 clear H
 go_enter Tryd.func90,Tryd.ntmps90
 go_wp2
 go_loopg [5,6] k (fun kq v5 v6 w'=>∃ (x5_1:Int) (x6_1:Int),v5=.int .i64 x5_1∧v6=.int .i64 x6_1∧Aside0 (spec_l12Seq.l0 kq l0 a1 x5_1 x6_1=some r)∧Aside0 (kq≤k)∧Drawn0 w w')
 case atStart=>exact ⟨(0),(0),(si_),(si_),H',⟨Nat.le_refl _⟩,by repeat (first|exact Drawn0.refl _|apply Drawn0.step)⟩
 case round =>
  clear H'
  try clear p2
  obtain ⟨x5_1,x6_1,rfl,rfl,HA,HK1,⟨m1,rfl⟩⟩:=hrel
  cases gk with
  | zero=>exact absurd HA.out (by simp [spec_l12Seq.l0])
  | succ k1 =>
   have H:=HA.out
   clear HA
   simp only [spec_l12Seq.l0] at H
   by_cases c3:x6_1 < (l0.length:Int)
   ·rw [if_pos c3] at H
    have c3b0:decide (x6_1 < (l0.length:Int))=true:=dt_ c3
    clear c3
    by_cases c4:0≤x6_1
    ·rw [if_pos c4] at H
     have c4b0:decide (0≤x6_1)=true:=dt_ c4
     clear c4
     by_cases c5:((rd_T44 l0 x6_1).f0)=a1
     ·rw [if_pos c5] at H
      have c5b0:(((rd_T44 l0 x6_1).f0)==a1)=true:=beq_iff_eq.mpr c5
      have c5b1:(((rd_T44 l0 x6_1).f0) != a1)=false:=be_ c5
      clear c5
      have H':=a_ H
      clear H
      have p107:0≤(x6_1:Int):=od_
      have q107:x6_1 < (l0.length:Int):=od_
      obtain ⟨ad107,e107,hx107_0,hx107_1,hx107_2,hx107_3,hx107_4,hx107_5,hx107_6⟩:=at_T44 HR0.out x6_1 p107 q107
      cases e107
      replace p107:=eq_true p107
      replace q107:=eq_true q107
      go_wp2
      go_roundg k1
      case measure=>have:=HK1.out;omega
      case rel=>exact ⟨(wrap64 (x5_1+1)),(wrap64 (x6_1+1)),(si_),(si_),H',⟨by have:=HK1.out;omega⟩,by repeat (first|exact Drawn0.refl _|apply Drawn0.step)⟩
     ·rw [if_neg c5] at H
      have c5b0:(((rd_T44 l0 x6_1).f0)==a1)=false:=bn_ c5
      have c5b1:(((rd_T44 l0 x6_1).f0) != a1)=true:=bne_iff_ne.mpr c5
      have H':=a_ H
      clear H
      have p107:0≤(x6_1:Int):=od_
      have q107:x6_1 < (l0.length:Int):=od_
      obtain ⟨ad107,e107,hx107_0,hx107_1,hx107_2,hx107_3,hx107_4,hx107_5,hx107_6⟩:=at_T44 HR0.out x6_1 p107 q107
      cases e107
      replace p107:=eq_true p107
      replace q107:=eq_true q107
      go_wp2
      go_roundg k1
      case measure=>have:=HK1.out;omega
      case rel=>exact ⟨(x5_1),(wrap64 (x6_1+1)),(si_),(si_),H',⟨by have:=HK1.out;omega⟩,by repeat (first|exact Drawn0.refl _|apply Drawn0.step)⟩
    ·rw [if_neg c4] at H
     exact absurd H (by simp)
   ·rw [if_neg c3] at H
    have c3b0:decide (x6_1 < (l0.length:Int))=false:=df_ c3
    clear c3
    obtain rfl:=sj_ H
    go_wp2
    go_ret
    exact ⟨si_,by repeat (first|exact Drawn0.refl _|apply Drawn0.step)⟩

def spec_l71Id.f (k:Nat) (s0_0:List Int) (s0_1:Int):Option (Int×Int):=(spec_l6Rd_pick.f k s0_0 s0_1 3).bind fun bt108=>((spec_l6Rd_pick.f k s0_0 bt108.2 4).bind fun bt110=>(some (wrap64 ((wrap64 ((wrap64 (10 * (wrap64 (1+bt108.1))))+1))+bt110.1),bt110.2)))
theorem spec_l71Id.mono:∀ a0 a1 k,LeO (spec_l71Id.f k a0 a1) (spec_l71Id.f (k+1) a0 a1):=by
 intro a0 a1 k
 unfold spec_l71Id.f
 repeat' first
   | (with_reducible exact spec_l6Rd_pick.mono _ _ _ _)
   | (with_reducible exact LeO.refl _)
   | (with_reducible exact LeO.none _)
   | (with_reducible refine LeO.ite ?_ ?_)
   | (with_reducible refine LeO.bind ?_ (fun _=>?_))
theorem spec_l71Id.calls (k:Nat) (g:Nat) (s0_0:List Int) (s0_1:Int) (r1:Int) (r2:Int) (w0 w:World) (hI:IsS145 w0 w g s0_0 s0_1) (hB:Below w0.heap.size w0 w) (h:spec_l71Id.f k s0_0 s0_1=some (r1,r2)) :
  Calls Tryd.prog 135 #[.pointer (some ⟨g,0,none⟩)] w fun e w'=>e=.returned (.int .i64 r1)∧IsS145 w0 w' g s0_0 r2∧Below w0.heap.size w0 w'∧KeepBut w w' g none:=by
 have HI0:=a_ hI
 have HK:=a_ (KeepBut.refl w g none)
 have HL:=a_ hB.size
 clear hI
 have HW0:=a_ hB.size
 have HB:=a_ hB
 clear hB
 unfold spec_l71Id.f at h
 have H:=h
 clear h
 replace H:=bs_ H
 obtain ⟨⟨t108,t109⟩,A20,H⟩:=H
 try dsimp only at H
 have A2:=a_ A20
 clear A20
 replace H:=bs_ H
 obtain ⟨⟨t110,t111⟩,A30,H⟩:=H
 try dsimp only at H
 have A3:=a_ A30
 clear A30
 simp only [Option.some.injEq,Prod.mk.injEq] at H
 obtain ⟨rfl,rfl⟩:=H
 go_enter Tryd.func135,Tryd.ntmps135
 go_wp2_with (first|((with_reducible refine gC_ (f:=74) rfl ?_);refine gl_ 4 Tryd.func74 #[.pointer (some ⟨g,0,none⟩),.int .i64 3] ?_;(with_reducible refine (spec_l6Rd_pick.calls k g s0_0 s0_1 3 t108 t109 w0 _ ?side1 ?side2 A2.out).mono ?_);(case side1=>exact is_HI0);(case side2=>exact bel_);rintro e w4 ⟨rfl,hi,hb,hk⟩;refine ⟨_,rfl,?_⟩;replace HK:=a_ (KeepBut.trans (ke_) hk (.inl rfl));replace HB:=a_ (hb);replace HI0:=a_ (hi);(try clear hb hk hi))|((with_reducible refine gC_ (f:=74) rfl ?_);refine gl_ 9 Tryd.func74 #[.pointer (some ⟨g,0,none⟩),.int .i64 4] ?_;(with_reducible refine (spec_l6Rd_pick.calls k g s0_0 t109 4 t110 t111 w0 _ ?side1 ?side2 A3.out).mono ?_);(case side1=>exact is_HI0);(case side2=>exact bel_);rintro e w5 ⟨rfl,hi,hb,hk⟩;refine ⟨_,rfl,?_⟩;replace HK:=a_ (KeepBut.trans (ke_) hk (.inl rfl));replace HB:=a_ (hb);replace HI0:=a_ (hi);(try clear hb hk hi)))
 go_ret
 exact ⟨fi_,is_HI0,bel_,ke_⟩

def spec_l6Rd_of.f (k:Nat) (s0_0:List Int) (s0_1:Int) (l1:List ByteArray):Option (ByteArray×Int):=(spec_l6Rd_pick.f k s0_0 s0_1 (l1.length:Int)).bind fun bt112=>(if 0≤bt112.1 then (if bt112.1 < (l1.length:Int) then (some (rdOf ByteArray.empty l1 bt112.1,bt112.2)) else (none)) else (none))
theorem spec_l6Rd_of.mono:∀ a0 a1 a2 k,LeO (spec_l6Rd_of.f k a0 a1 a2) (spec_l6Rd_of.f (k+1) a0 a1 a2):=by
 intro a0 a1 a2 k
 unfold spec_l6Rd_of.f
 repeat' first
   | (with_reducible exact spec_l6Rd_pick.mono _ _ _ _)
   | (with_reducible exact LeO.refl _)
   | (with_reducible exact LeO.none _)
   | (with_reducible refine LeO.ite ?_ ?_)
   | (with_reducible refine LeO.bind ?_ (fun _=>?_))
theorem spec_l6Rd_of.calls (k:Nat) (g:Nat) (s0_0:List Int) (s0_1:Int) (A1:Option Addr) (c1:Nat) (l1:List ByteArray) (r1:ByteArray) (r2:Int) (w0 w:World) (hI:IsS145 w0 w g s0_0 s0_1) (hB:Below w0.heap.size w0 w) (hr1:Kd.C Kd.string w A1 l1.length l1) (hc1:l1.length≤c1) (hf1:∀ ad,A1=some ad→0 < l1.length→ad.block≠g) (h:spec_l6Rd_of.f k s0_0 s0_1 l1=some (r1,r2)) :
  Calls Tryd.prog 154 #[.pointer (some ⟨g,0,none⟩),.slice A1 l1.length c1] w fun e w'=>e=.returned (.string r1)∧IsS145 w0 w' g s0_0 r2∧Below w0.heap.size w0 w'∧KeepBut w w' g none:=by
 have HR1:=a_ hr1
 have HC1:=a_ hc1
 clear hr1 hc1
 have HI0:=a_ hI
 have HK:=a_ (KeepBut.refl w g none)
 have HL:=a_ hB.size
 clear hI
 have HW0:=a_ hB.size
 have HB:=a_ hB
 clear hB
 unfold spec_l6Rd_of.f at h
 have H:=h
 clear h
 replace H:=bs_ H
 obtain ⟨⟨t112,t113⟩,A30,H⟩:=H
 try dsimp only at H
 have A3:=a_ A30
 clear A30
 by_cases c4:0≤t112
 ·rw [if_pos c4] at H
  have c4b0:decide (0≤t112)=true:=dt_ c4
  clear c4
  by_cases c5:t112 < (l1.length:Int)
  ·rw [if_pos c5] at H
   have c5b0:decide (t112 < (l1.length:Int))=true:=dt_ c5
   clear c5
   simp only [Option.some.injEq,Prod.mk.injEq] at H
   obtain ⟨rfl,rfl⟩:=H
   go_enter Tryd.func154,Tryd.ntmps154
   go_wp2_with (first|((with_reducible refine gC_ (f:=74) rfl ?_);refine gl_ 9 Tryd.func74 #[.pointer (some ⟨g,0,none⟩),.int .i64 (l1.length:Int)] ?_;(with_reducible refine (spec_l6Rd_pick.calls k g s0_0 s0_1 (l1.length:Int) t112 t113 w0 _ ?side1 ?side2 A3.out).mono ?_);(case side1=>exact is_HI0);(case side2=>exact bel_);rintro e w6 ⟨rfl,hi,hb,hk⟩;refine ⟨_,rfl,?_⟩;replace HK:=a_ (KeepBut.trans (ke_) hk (.inl rfl));replace HB:=a_ (hb);replace HI0:=a_ (hi);(try clear hb hk hi);have p114:0≤(t112:Int):=od_;have q114:t112 < (l1.length:Int):=od_;obtain ⟨ad114,e114,hx114_0⟩:=Kd.at_string HR1.out t112 p114 q114;cases e114;replace hx114_0:=keep_cell HK.out hx114_0 (by first|(rw [add_block];exact hf1 _ rfl (by omega))|exact hf1 _ rfl (by omega)|exact hf1 ad114 rfl (by omega));replace p114:=eq_true p114;replace q114:=eq_true q114))
   go_ret
   exact ⟨fi_,is_HI0,bel_,ke_⟩
  ·rw [if_neg c5] at H
   exact absurd H (by simp)
 ·rw [if_neg c4] at H
  exact absurd H (by simp)

def spec_l71Text.l0:Nat→ByteArray→Int→List Int→Int→Option (ByteArray×Int)
 | 0,_,_,_,_=>none
 | k+1,x3,x4,x1000,x1001=>if x4 > 0 then ((spec_l6Rd_of.f k x1000 x1001 (([(⟨#[97]⟩:ByteArray),(⟨#[98]⟩:ByteArray),(⟨#[99]⟩:ByteArray),(⟨#[100]⟩:ByteArray)]:List ByteArray))).bind fun bt120=>(if x3.size+bt120.1.size≤9223372036854775807 then (spec_l71Text.l0 k (x3++bt120.1) (wrap64 (x4 - 1)) x1000 bt120.2) else (none))) else ((spec_l6Rd_pick.f k x1000 x1001 40).bind fun bt122=>(if bt122.1=0 then ((spec_l6Rd_of.f k x1000 bt122.2 (([(⟨#[101]⟩:ByteArray),(⟨#[32]⟩:ByteArray),(⟨#[97,97,97,97]⟩:ByteArray),(⟨#[39]⟩:ByteArray)]:List ByteArray))).bind fun bt127=>(if x3.size+bt127.1.size≤9223372036854775807 then (some (x3++bt127.1,bt127.2)) else (none))) else (some (x3,bt122.2))))
def spec_l71Text.f (k:Nat) (s0_0:List Int) (s0_1:Int):Option (ByteArray×Int):=(spec_l6Rd_pick.f k s0_0 s0_1 4).bind fun bt115=>(spec_l71Text.l0 k (⟨#[]⟩:ByteArray) bt115.1 s0_0 bt115.2)
theorem spec_l71Text.mono_l:∀ k,(∀ y0 y1 y2 y3,LeO (spec_l71Text.l0 k y0 y1 y2 y3) (spec_l71Text.l0 (k+1) y0 y1 y2 y3))
 | 0=>fun _ _ _ _ r h=>by simp [spec_l71Text.l0] at h
 | k+1=>by
  have ih0:=spec_l71Text.mono_l k
  ·intro y0 y1 y2 y3
   unfold spec_l71Text.l0
   repeat' first
   | (with_reducible exact ih0 _ _ _ _)
   | (with_reducible exact spec_l6Rd_of.mono _ _ _ _)
   | (with_reducible exact spec_l6Rd_pick.mono _ _ _ _)
   | (with_reducible exact LeO.refl _)
   | (with_reducible exact LeO.none _)
   | (with_reducible refine LeO.ite ?_ ?_)
   | (with_reducible refine LeO.bind ?_ (fun _=>?_))
theorem spec_l71Text.mono:∀ a0 a1 k,LeO (spec_l71Text.f k a0 a1) (spec_l71Text.f (k+1) a0 a1):=by
 intro a0 a1 k
 have ih0:=spec_l71Text.mono_l k
 unfold spec_l71Text.f
 repeat' first
   | (with_reducible exact ih0 _ _ _ _)
   | (with_reducible exact spec_l6Rd_of.mono _ _ _ _)
   | (with_reducible exact spec_l6Rd_pick.mono _ _ _ _)
   | (with_reducible exact LeO.refl _)
   | (with_reducible exact LeO.none _)
   | (with_reducible refine LeO.ite ?_ ?_)
   | (with_reducible refine LeO.bind ?_ (fun _=>?_))
theorem spec_l71Text.calls (k:Nat) (g:Nat) (s0_0:List Int) (s0_1:Int) (r1:ByteArray) (r2:Int) (w0 w:World) (hI:IsS145 w0 w g s0_0 s0_1) (hB:Below w0.heap.size w0 w) (h:spec_l71Text.f k s0_0 s0_1=some (r1,r2)) :
  Calls Tryd.prog 136 #[.pointer (some ⟨g,0,none⟩)] w fun e w'=>e=.returned (.string r1)∧IsS145 w0 w' g s0_0 r2∧Below w0.heap.size w0 w'∧KeepBut w w' g none:=by
 have HI0:=a_ hI
 have HK:=a_ (KeepBut.refl w g none)
 have HL:=a_ hB.size
 clear hI
 have HW0:=a_ hB.size
 have HB:=a_ hB
 clear hB
 unfold spec_l71Text.f at h
 have H:=h
 clear h
 replace H:=bs_ H
 obtain ⟨⟨t115,t116⟩,A20,H⟩:=H
 try dsimp only at H
 have A2:=a_ A20
 clear A20
 have H':=a_ H
 clear H
 go_enter Tryd.func136,Tryd.ntmps136
 go_wp2_with (first|((with_reducible refine gC_ (f:=74) rfl ?_);refine gl_ 6 Tryd.func74 #[.pointer (some ⟨g,0,none⟩),.int .i64 4] ?_;(with_reducible refine (spec_l6Rd_pick.calls k g s0_0 s0_1 4 t115 t116 w0 _ ?side1 ?side2 A2.out).mono ?_);(case side1=>exact is_HI0);(case side2=>exact bel_);rintro e w3 ⟨rfl,hi,hb,hk⟩;refine ⟨_,rfl,?_⟩;replace HK:=a_ (KeepBut.trans (ke_) hk (.inl rfl));replace HB:=a_ (hb);replace HI0:=a_ (hi);(try clear hb hk hi)))
 go_loopg [3,4] k (fun kq v3 v4 w'=>∃ (x3_1:ByteArray) (x4_1:Int) (x1001_1:Int),v3=.string x3_1∧v4=.int .i64 x4_1∧Aside0 (spec_l71Text.l0 kq x3_1 x4_1 s0_0 x1001_1=some (r1,r2))∧Aside0 (kq≤k)∧Aside0 (IsS145 w0 w' g s0_0 x1001_1)∧Aside0 (KeepBut w w' g none)∧Aside0 (Below w0.heap.size w0 w'))
 case atStart=>exact ⟨((⟨#[]⟩:ByteArray)),(t115),(t116),(si_),(si_),H',⟨Nat.le_refl _⟩,⟨is_HI0⟩,⟨ke_⟩,⟨bel_⟩⟩
 case round =>
  clear H'
  try clear c1
  try clear p2
  obtain ⟨x3_1,x4_1,x1001_1,rfl,rfl,HA,HK1,HI0,HK,HB⟩:=hrel
  cases gk with
  | zero=>exact absurd HA.out (by simp [spec_l71Text.l0])
  | succ k1 =>
   have H:=HA.out
   clear HA
   simp only [spec_l71Text.l0] at H
   by_cases c4:x4_1 > 0
   ·rw [if_pos c4] at H
    have c4b0:decide (0 < x4_1)=true:=dt_ c4
    clear c4
    obtain ⟨y117,hy117⟩:∃ y_:List ByteArray,y_=(([(⟨#[97]⟩:ByteArray),(⟨#[98]⟩:ByteArray),(⟨#[99]⟩:ByteArray),(⟨#[100]⟩:ByteArray)]:List ByteArray)):=⟨_,rfl⟩
    replace H:((spec_l6Rd_of.f k1 s0_0 x1001_1 y117).bind fun bt120=>(if x3_1.size+bt120.1.size≤9223372036854775807 then (spec_l71Text.l0 k1 (x3_1++bt120.1) (wrap64 (x4_1 - 1)) s0_0 bt120.2) else (none)))=some (r1,r2):=by first|(rw [hy117];with_reducible exact H)|(have H2_:=(Option.bind_some _ _).symm.trans H;rw [hy117];with_reducible exact H2_)|(have H2_:=(Option.bind_some _ _).symm.trans H;with_reducible exact H2_)|with_reducible exact H|(rw [hy117];exact H)|exact H
    have Ny117:=a_ hy117
    clear hy117
    replace H:=bs_ H
    obtain ⟨⟨t120,t121⟩,A50,H⟩:=H
    try dsimp only at H
    have A5:=a_ A50
    clear A50
    by_cases c6:x3_1.size+t120.size≤9223372036854775807
    ·rw [if_pos c6] at H
     have c6b0:=eq_true c6
     have c6b1:decide (x3_1.size+t120.size≤9223372036854775807)=true:=dt_ c6
     try have c6b2:(9223372036854775807 < x3_1.size+t120.size)=False:=eq_false (Nat.not_lt.2 c6)
     have H':=a_ H
     clear H
     go_wp2_with (first|((with_reducible refine gD_ (N:=13) rfl ?_);refine Kd.R_lit Kd.string _ 9 ?hg (N:=13) ?hd (xs:=([(⟨#[97]⟩:ByteArray),(⟨#[98]⟩:ByteArray),(⟨#[99]⟩:ByteArray),(⟨#[100]⟩:ByteArray)]:List ByteArray)) (inner:=[.string (⟨#[97]⟩:ByteArray),.string (⟨#[98]⟩:ByteArray),.string (⟨#[99]⟩:ByteArray),.string (⟨#[100]⟩:ByteArray)]) (ok:=fun _=>True) (okp:=fun _=>True) ?hr ?hp (fun _ hk=>hk) trivial (Below.refl _ _) (Nat.le_refl _) (by simp) ?_;(case hd=>rfl);(case hg=>rfl);(case hr=>first|(go_simp;done)|(go_simp;rfl));(case hp=>exact (Reps.one (show Kd.M Kd.string _ _ _ (⟨#[97]⟩:ByteArray) [.string (⟨#[97]⟩:ByteArray)] from rfl) (Reps.one (show Kd.M Kd.string _ _ _ (⟨#[98]⟩:ByteArray) [.string (⟨#[98]⟩:ByteArray)] from rfl) (Reps.one (show Kd.M Kd.string _ _ _ (⟨#[99]⟩:ByteArray) [.string (⟨#[99]⟩:ByteArray)] from rfl) (Reps.one (show Kd.M Kd.string _ _ _ (⟨#[100]⟩:ByteArray) [.string (⟨#[100]⟩:ByteArray)] from rfl) (Reps.none _ _))))));intro v118 w7 ho8 hb hg_ hnew_;clear hg_ hnew_;(first|rw [←Ny117.out] at ho8|(simp only [Int.reduceToNat] at ho8;rw [←Ny117.out] at ho8));have HO119:=a_ (Kd.R_lower ho8 (keep_size (w:=w) (g:=g) (row:=none) (ke_)));replace HK:=a_ (KeepBut.trans (ke_) (KeepBut.of_below hb g none) (.inl rfl));replace HB:=a_ (bS_ (bel_) hb);replace HI0:=a_ (IsS145.below (is_HI0) hb);clear hb ho8;obtain ⟨Ao9,co9,eo9⟩:=Kd.R_slice HO119.out;subst eo9)|((with_reducible refine gC_ (f:=154) rfl ?_);refine gl_ 14 Tryd.func154 #[.pointer (some ⟨g,0,none⟩),.slice Ao9 y117.length co9] ?_;(with_reducible refine (spec_l6Rd_of.calls k1 g s0_0 x1001_1 _ _ y117 t120 t121 w0 _ ?side1 ?side2 ?side3 ?side4 ?side5 A5.out).mono ?_);(case side1=>exact is_HI0);(case side2=>exact bel_);(case side3=>exact cx_ (Kd.R_reads' HO119.out).2.2);(case side4=>exact (Kd.R_reads' HO119.out).2.1);(case side5=>exact far_slice (IsS145.own_ne HI0.out HO119.out (by decide)));rintro e w10 ⟨rfl,hi,hb,hk⟩;refine ⟨_,rfl,?_⟩;replace HO119:=a_ (Kd.R_mono (Kd.R_keep (IsS145.apart (show IsS145 w0 _ g s0_0 x1001_1 from is_HI0) (rp_ HO119.out) (by decide)) hk (fun _ h=>h.2)) (fun _ h=>h.1));replace HK:=a_ (KeepBut.trans (ke_) hk (.inl rfl));replace HB:=a_ (hb);replace HI0:=a_ (hi);(try clear hb hk hi)))
     go_roundg k1
     case measure=>have:=HK1.out;omega
     case rel=>exact ⟨(x3_1++t120),(wrap64 (x4_1 - 1)),(t121),(si_),(si_),H',⟨by have:=HK1.out;omega⟩,⟨is_HI0⟩,⟨ke_⟩,⟨bel_⟩⟩
    ·rw [if_neg c6] at H
     exact absurd H (by simp)
   ·rw [if_neg c4] at H
    have c4b0:decide (0 < x4_1)=false:=df_ c4
    clear c4
    replace H:=bs_ H
    obtain ⟨⟨t122,t123⟩,A110,H⟩:=H
    try dsimp only at H
    have A11:=a_ A110
    clear A110
    by_cases c12:t122=0
    ·rw [if_pos c12] at H
     have c12b0:(t122==0)=true:=beq_iff_eq.mpr c12
     have c12b1:(t122 != 0)=false:=be_ c12
     clear c12
     obtain ⟨y124,hy124⟩:∃ y_:List ByteArray,y_=(([(⟨#[101]⟩:ByteArray),(⟨#[32]⟩:ByteArray),(⟨#[97,97,97,97]⟩:ByteArray),(⟨#[39]⟩:ByteArray)]:List ByteArray)):=⟨_,rfl⟩
     replace H:((spec_l6Rd_of.f k1 s0_0 t123 y124).bind fun bt127=>(if x3_1.size+bt127.1.size≤9223372036854775807 then (some (x3_1++bt127.1,bt127.2)) else (none)))=some (r1,r2):=by first|(rw [hy124];with_reducible exact H)|(have H2_:=(Option.bind_some _ _).symm.trans H;rw [hy124];with_reducible exact H2_)|(have H2_:=(Option.bind_some _ _).symm.trans H;with_reducible exact H2_)|with_reducible exact H|(rw [hy124];exact H)|exact H
     have Ny124:=a_ hy124
     clear hy124
     replace H:=bs_ H
     obtain ⟨⟨t127,t128⟩,A130,H⟩:=H
     try dsimp only at H
     have A13:=a_ A130
     clear A130
     by_cases c14:x3_1.size+t127.size≤9223372036854775807
     ·rw [if_pos c14] at H
      have c14b0:=eq_true c14
      have c14b1:decide (x3_1.size+t127.size≤9223372036854775807)=true:=dt_ c14
      try have c14b2:(9223372036854775807 < x3_1.size+t127.size)=False:=eq_false (Nat.not_lt.2 c14)
      simp only [Option.some.injEq,Prod.mk.injEq] at H
      obtain ⟨rfl,rfl⟩:=H
      go_wp2_with (first|((with_reducible refine gC_ (f:=74) rfl ?_);refine gl_ 17 Tryd.func74 #[.pointer (some ⟨g,0,none⟩),.int .i64 40] ?_;(with_reducible refine (spec_l6Rd_pick.calls k1 g s0_0 x1001_1 40 t122 t123 w0 _ ?side1 ?side2 A11.out).mono ?_);(case side1=>exact is_HI0);(case side2=>exact bel_);rintro e w15 ⟨rfl,hi,hb,hk⟩;refine ⟨_,rfl,?_⟩;replace HK:=a_ (KeepBut.trans (ke_) hk (.inl rfl));replace HB:=a_ (hb);replace HI0:=a_ (hi);(try clear hb hk hi))|((with_reducible refine gD_ (N:=21) rfl ?_);refine Kd.R_lit Kd.string _ 9 ?hg (N:=21) ?hd (xs:=([(⟨#[101]⟩:ByteArray),(⟨#[32]⟩:ByteArray),(⟨#[97,97,97,97]⟩:ByteArray),(⟨#[39]⟩:ByteArray)]:List ByteArray)) (inner:=[.string (⟨#[101]⟩:ByteArray),.string (⟨#[32]⟩:ByteArray),.string (⟨#[97,97,97,97]⟩:ByteArray),.string (⟨#[39]⟩:ByteArray)]) (ok:=fun _=>True) (okp:=fun _=>True) ?hr ?hp (fun _ hk=>hk) trivial (Below.refl _ _) (Nat.le_refl _) (by simp) ?_;(case hd=>rfl);(case hg=>rfl);(case hr=>first|(go_simp;done)|(go_simp;rfl));(case hp=>exact (Reps.one (show Kd.M Kd.string _ _ _ (⟨#[101]⟩:ByteArray) [.string (⟨#[101]⟩:ByteArray)] from rfl) (Reps.one (show Kd.M Kd.string _ _ _ (⟨#[32]⟩:ByteArray) [.string (⟨#[32]⟩:ByteArray)] from rfl) (Reps.one (show Kd.M Kd.string _ _ _ (⟨#[97,97,97,97]⟩:ByteArray) [.string (⟨#[97,97,97,97]⟩:ByteArray)] from rfl) (Reps.one (show Kd.M Kd.string _ _ _ (⟨#[39]⟩:ByteArray) [.string (⟨#[39]⟩:ByteArray)] from rfl) (Reps.none _ _))))));intro v125 w16 ho17 hb hg_ hnew_;clear hg_ hnew_;(first|rw [←Ny124.out] at ho17|(simp only [Int.reduceToNat] at ho17;rw [←Ny124.out] at ho17));have HO126:=a_ (Kd.R_lower ho17 (keep_size (w:=w) (g:=g) (row:=none) (ke_)));replace HK:=a_ (KeepBut.trans (ke_) (KeepBut.of_below hb g none) (.inl rfl));replace HB:=a_ (bS_ (bel_) hb);replace HI0:=a_ (IsS145.below (is_HI0) hb);clear hb ho17;obtain ⟨Ao18,co18,eo18⟩:=Kd.R_slice HO126.out;subst eo18)|((with_reducible refine gC_ (f:=154) rfl ?_);refine gl_ 22 Tryd.func154 #[.pointer (some ⟨g,0,none⟩),.slice Ao18 y124.length co18] ?_;(with_reducible refine (spec_l6Rd_of.calls k1 g s0_0 t123 _ _ y124 t127 t128 w0 _ ?side1 ?side2 ?side3 ?side4 ?side5 A13.out).mono ?_);(case side1=>exact is_HI0);(case side2=>exact bel_);(case side3=>exact cx_ (Kd.R_reads' HO126.out).2.2);(case side4=>exact (Kd.R_reads' HO126.out).2.1);(case side5=>exact far_slice (IsS145.own_ne HI0.out HO126.out (by decide)));rintro e w19 ⟨rfl,hi,hb,hk⟩;refine ⟨_,rfl,?_⟩;replace HO126:=a_ (Kd.R_mono (Kd.R_keep (IsS145.apart (show IsS145 w0 _ g s0_0 t123 from is_HI0) (rp_ HO126.out) (by decide)) hk (fun _ h=>h.2)) (fun _ h=>h.1));replace HK:=a_ (KeepBut.trans (ke_) hk (.inl rfl));replace HB:=a_ (hb);replace HI0:=a_ (hi);(try clear hb hk hi)))
      go_ret
      exact ⟨fi_,is_HI0,bel_,ke_⟩
     ·rw [if_neg c14] at H
      exact absurd H (by simp)
    ·rw [if_neg c12] at H
     have c12b0:(t122==0)=false:=bn_ c12
     have c12b1:(t122 != 0)=true:=bne_iff_ne.mpr c12
     simp only [Option.some.injEq,Prod.mk.injEq] at H
     obtain ⟨rfl,rfl⟩:=H
     go_wp2_with (first|((with_reducible refine gC_ (f:=74) rfl ?_);refine gl_ 17 Tryd.func74 #[.pointer (some ⟨g,0,none⟩),.int .i64 40] ?_;(with_reducible refine (spec_l6Rd_pick.calls k1 g s0_0 x1001_1 40 t122 t123 w0 _ ?side1 ?side2 A11.out).mono ?_);(case side1=>exact is_HI0);(case side2=>exact bel_);rintro e w20 ⟨rfl,hi,hb,hk⟩;refine ⟨_,rfl,?_⟩;replace HK:=a_ (KeepBut.trans (ke_) hk (.inl rfl));replace HB:=a_ (hb);replace HI0:=a_ (hi);(try clear hb hk hi)))
     go_ret
     exact ⟨fi_,is_HI0,bel_,ke_⟩

mutual
def spec_l71Op.j1:Nat→List Int→Int→Int→Int→Int→Int→ByteArray→Option (Int×Int×Int×Int×ByteArray×Int)
 | 0,_,_,_,_,_,_,_=>none
 | k+1,x1000,x1001,x135000,x135001,x135002,x135003,x135004=>(spec_l6Rd_pick.f k x1000 x1001 30).bind fun bt153=>(if bt153.1=0 then ((spec_l6Rd_pick.f k x1000 bt153.2 5).bind fun bt155=>(some (bt155.1,x135001,x135002,x135003,x135004,bt155.2))) else (if bt153.1=1 then ((spec_l6Rd_pick.f k x1000 bt153.2 50).bind fun bt157=>(some (x135000,bt157.1,x135002,x135003,x135004,bt157.2))) else (if bt153.1=2 then ((spec_l6Rd_pick.f k x1000 bt153.2 50).bind fun bt159=>(some (x135000,x135001,bt159.1,x135003,x135004,bt159.2))) else (if bt153.1=3 then ((spec_l6Rd_pick.f k x1000 bt153.2 50).bind fun bt161=>(some (x135000,x135001,x135002,bt161.1,x135004,bt161.2))) else (some (x135000,x135001,x135002,x135003,x135004,bt153.2))))))
def spec_l71Op.j0:Nat→Int→Int→Int→Bool→List Int→Int→Int→Int→Int→Int→ByteArray→Option (Int×Int×Int×Int×ByteArray×Int)
 | 0,_,_,_,_,_,_,_,_,_,_,_=>none
 | k+1,x4,x5,x26,x27,x1000,x1001,x135000,x135001,x135002,x135003,x135004=>if x27=true then (spec_l71Op.j1 k x1000 x1001 1 x135001 x4 x5 x135004) else (if x26=2 then (spec_l71Op.j1 k x1000 x1001 3 x135001 x4 x5 (⟨#[]⟩:ByteArray)) else (if x26=3 then (spec_l71Op.j1 k x1000 x1001 3 x135001 x4 x5 (⟨#[]⟩:ByteArray)) else (spec_l71Op.j1 k x1000 x1001 x135000 x135001 x135002 x135003 x135004)))
end
def spec_l71Op.f (k:Nat) (s0_0:List Int) (s0_1:Int):Option (Int×Int×Int×Int×ByteArray×Int):=(spec_l71Id.f k s0_0 s0_1).bind fun bt130=>((spec_l71Text.f k s0_0 bt130.2).bind fun bt132=>((spec_l71Id.f k s0_0 bt132.2).bind fun bt135=>((some (([1,1,bt135.1,2,3]:List Int):List Int)).bind fun y137=>((spec_l6Rd_pick.f k s0_0 bt135.2 5).bind fun bt140=>(if 0≤bt140.1 then (if bt140.1 < (y137.length:Int) then ((spec_l71Id.f k s0_0 bt140.2).bind fun bt143=>((some (([0,bt143.1]:List Int):List Int)).bind fun y145=>((spec_l6Rd_pick.f k s0_0 bt143.2 2).bind fun bt148=>(if 0≤bt148.1 then (if bt148.1 < (y145.length:Int) then ((spec_l6Rd_pick.f k s0_0 bt148.2 5).bind fun bt151=>(if bt151.1=0 then (spec_l71Op.j0 k (rd y137 bt140.1) (rd y145 bt148.1) bt151.1 (bt151.1==0) s0_0 bt151.2 2 bt130.1 0 0 bt132.1) else (spec_l71Op.j0 k (rd y137 bt140.1) (rd y145 bt148.1) bt151.1 (bt151.1==1) s0_0 bt151.2 2 bt130.1 0 0 bt132.1))) else (none)) else (none))))) else (none)) else (none))))))
theorem spec_l71Op.mono_l:∀ k,(∀ y0 y1 y2 y3 y4 y5 y6,LeO (spec_l71Op.j1 k y0 y1 y2 y3 y4 y5 y6) (spec_l71Op.j1 (k+1) y0 y1 y2 y3 y4 y5 y6))∧(∀ y0 y1 y2 y3 y4 y5 y6 y7 y8 y9 y10,LeO (spec_l71Op.j0 k y0 y1 y2 y3 y4 y5 y6 y7 y8 y9 y10) (spec_l71Op.j0 (k+1) y0 y1 y2 y3 y4 y5 y6 y7 y8 y9 y10))
 | 0=>⟨fun _ _ _ _ _ _ _ r h=>by simp [spec_l71Op.j1] at h,fun _ _ _ _ _ _ _ _ _ _ _ r h=>by simp [spec_l71Op.j0] at h⟩
 | k+1=>by
  obtain ⟨ih0,ih1⟩:=spec_l71Op.mono_l k
  refine ⟨?_,?_⟩
  all_goals intros
  all_goals first|unfold spec_l71Op.j1|unfold spec_l71Op.j0
  all_goals repeat' first
  | (with_reducible exact ih0 _ _ _ _ _ _ _)
  | (with_reducible exact ih1 _ _ _ _ _ _ _ _ _ _ _)
  | (with_reducible exact spec_l6Rd_pick.mono _ _ _ _)
  | (with_reducible exact spec_l71Id.mono _ _ _)
  | (with_reducible exact spec_l71Text.mono _ _ _)
  | (with_reducible exact LeO.refl _)
  | (with_reducible exact LeO.none _)
  | (with_reducible refine LeO.ite ?_ ?_)
  | (with_reducible refine LeO.bind ?_ (fun _=>?_))
theorem spec_l71Op.mono:∀ a0 a1 k,LeO (spec_l71Op.f k a0 a1) (spec_l71Op.f (k+1) a0 a1):=by
 intro a0 a1 k
 obtain ⟨ih0,ih1⟩:=spec_l71Op.mono_l k
 unfold spec_l71Op.f
 repeat' first
   | (with_reducible exact ih0 _ _ _ _ _ _ _)
   | (with_reducible exact ih1 _ _ _ _ _ _ _ _ _ _ _)
   | (with_reducible exact spec_l6Rd_pick.mono _ _ _ _)
   | (with_reducible exact spec_l71Id.mono _ _ _)
   | (with_reducible exact spec_l71Text.mono _ _ _)
   | (with_reducible exact LeO.refl _)
   | (with_reducible exact LeO.none _)
   | (with_reducible refine LeO.ite ?_ ?_)
   | (with_reducible refine LeO.bind ?_ (fun _=>?_))
theorem spec_l71Op.calls (k:Nat) (g:Nat) (s0_0:List Int) (s0_1:Int) (r1:Int) (r2:Int) (r3:Int) (r4:Int) (r5:ByteArray) (r6:Int) (w0 w:World) (hI:IsS145 w0 w g s0_0 s0_1) (hB:Below w0.heap.size w0 w) (h:spec_l71Op.f k s0_0 s0_1=some (r1,r2,r3,r4,r5,r6)) :
  Calls Tryd.prog 96 #[.pointer (some ⟨g,0,none⟩)] w fun e w'=>e=.returned (.agg #[.int .i64 r1,.int .i64 r2,.int .i64 r3,.int .i64 r4,.string r5])∧IsS145 w0 w' g s0_0 r6∧Below w0.heap.size w0 w'∧KeepBut w w' g none:=by
 have hu42:=Tryd.underlying42
 have HI0:=a_ hI
 have HK:=a_ (KeepBut.refl w g none)
 have HL:=a_ hB.size
 clear hI
 have HW0:=a_ hB.size
 have HB:=a_ hB
 clear hB
 unfold spec_l71Op.f at h
 have H:=h
 clear h
 replace H:=bs_ H
 obtain ⟨⟨t130,t131⟩,A20,H⟩:=H
 try dsimp only at H
 have A2:=a_ A20
 clear A20
 replace H:=bs_ H
 obtain ⟨⟨t132,t133⟩,A30,H⟩:=H
 try dsimp only at H
 have A3:=a_ A30
 clear A30
 replace H:=bs_ H
 obtain ⟨⟨t135,t136⟩,A40,H⟩:=H
 try dsimp only at H
 have A4:=a_ A40
 clear A40
 obtain ⟨y137,hy137⟩:∃ y_:List Int,y_=(([1,1,t135,2,3]:List Int)):=⟨_,rfl⟩
 replace H:((spec_l6Rd_pick.f k s0_0 t136 5).bind fun bt140=>(if 0≤bt140.1 then (if bt140.1 < (y137.length:Int) then ((spec_l71Id.f k s0_0 bt140.2).bind fun bt143=>((some (([0,bt143.1]:List Int):List Int)).bind fun y145=>((spec_l6Rd_pick.f k s0_0 bt143.2 2).bind fun bt148=>(if 0≤bt148.1 then (if bt148.1 < (y145.length:Int) then ((spec_l6Rd_pick.f k s0_0 bt148.2 5).bind fun bt151=>(if bt151.1=0 then (spec_l71Op.j0 k (rd y137 bt140.1) (rd y145 bt148.1) bt151.1 (bt151.1==0) s0_0 bt151.2 2 t130 0 0 t132) else (spec_l71Op.j0 k (rd y137 bt140.1) (rd y145 bt148.1) bt151.1 (bt151.1==1) s0_0 bt151.2 2 t130 0 0 t132))) else (none)) else (none))))) else (none)) else (none)))=some (r1,r2,r3,r4,r5,r6):=by first|(rw [hy137];with_reducible exact H)|(have H2_:=(Option.bind_some _ _).symm.trans H;rw [hy137];with_reducible exact H2_)|(have H2_:=(Option.bind_some _ _).symm.trans H;with_reducible exact H2_)|with_reducible exact H|(rw [hy137];exact H)|exact H
 have Ny137:=a_ hy137
 clear hy137
 replace H:=bs_ H
 obtain ⟨⟨t140,t141⟩,A50,H⟩:=H
 try dsimp only at H
 have A5:=a_ A50
 clear A50
 by_cases c6:0≤t140
 ·rw [if_pos c6] at H
  have c6b0:decide (0≤t140)=true:=dt_ c6
  clear c6
  by_cases c7:t140 < (y137.length:Int)
  ·rw [if_pos c7] at H
   have c7b0:decide (t140 < (y137.length:Int))=true:=dt_ c7
   clear c7
   replace H:=bs_ H
   obtain ⟨⟨t143,t144⟩,A80,H⟩:=H
   try dsimp only at H
   have A8:=a_ A80
   clear A80
   obtain ⟨y145,hy145⟩:∃ y_:List Int,y_=(([0,t143]:List Int)):=⟨_,rfl⟩
   replace H:((spec_l6Rd_pick.f k s0_0 t144 2).bind fun bt148=>(if 0≤bt148.1 then (if bt148.1 < (y145.length:Int) then ((spec_l6Rd_pick.f k s0_0 bt148.2 5).bind fun bt151=>(if bt151.1=0 then (spec_l71Op.j0 k (rd y137 t140) (rd y145 bt148.1) bt151.1 (bt151.1==0) s0_0 bt151.2 2 t130 0 0 t132) else (spec_l71Op.j0 k (rd y137 t140) (rd y145 bt148.1) bt151.1 (bt151.1==1) s0_0 bt151.2 2 t130 0 0 t132))) else (none)) else (none)))=some (r1,r2,r3,r4,r5,r6):=by first|(rw [hy145];with_reducible exact H)|(have H2_:=(Option.bind_some _ _).symm.trans H;rw [hy145];with_reducible exact H2_)|(have H2_:=(Option.bind_some _ _).symm.trans H;with_reducible exact H2_)|with_reducible exact H|(rw [hy145];exact H)|exact H
   have Ny145:=a_ hy145
   clear hy145
   replace H:=bs_ H
   obtain ⟨⟨t148,t149⟩,A90,H⟩:=H
   try dsimp only at H
   have A9:=a_ A90
   clear A90
   by_cases c10:0≤t148
   ·rw [if_pos c10] at H
    have c10b0:decide (0≤t148)=true:=dt_ c10
    clear c10
    by_cases c11:t148 < (y145.length:Int)
    ·rw [if_pos c11] at H
     have c11b0:decide (t148 < (y145.length:Int))=true:=dt_ c11
     clear c11
     replace H:=bs_ H
     obtain ⟨⟨t151,t152⟩,A120,H⟩:=H
     try dsimp only at H
     have A12:=a_ A120
     clear A120
     have HC13:=a_ H
     clear H
     go_enter Tryd.func96,Tryd.ntmps96
     go_upto_block 0 with (first|((with_reducible refine gD_ (N:=2) rfl ?_);refine bx_ 2 (#[.int .i64 0,.int .i64 0,.int .i64 0,.int .i64 0,.string (⟨#[]⟩:ByteArray)]) 42 ?_;intro gb129 hg w14 hbox hb;have n0_:=a_ (IsS145.below (is_HI0) hb);have n1_:=a_ (KeepBut.trans (ke_) (KeepBut.of_below hb g none) (.inl rfl));have n2_:=a_ (bS_ (bel_) hb);have n3_:=a_ (hbox);have n4_:=a_ ((by rw [hg];exact (keep_size (w:=w) (g:=g) (row:=none) (ke_)):w.heap.size≤gb129));have n5_:=a_ ((Nat.le_trans HW0.out (by rw [hg];exact (keep_size (w:=w) (g:=g) (row:=none) (ke_)):w.heap.size≤gb129):w0.heap.size≤gb129));have n6_:=a_ ((by rw [hg];exact Nat.ne_of_lt (IsS145.lt (show IsS145 w0 _ g s0_0 s0_1 from is_HI0)):g≠gb129));have n7_:=a_ ((by rw [hg];exact Nat.ne_of_gt (IsS145.lt (show IsS145 w0 _ g s0_0 s0_1 from is_HI0)):gb129≠g));clear HI0;clear HK;clear HB;have HI0:=n0_;have HK:=n1_;have HB:=n2_;have BK129:=n3_;have GW129:=n4_;have GE129:=n5_;have NB0_129:=n6_;have NB129_0:=n7_;clear n0_ n1_ n2_ n3_ n4_ n5_ n6_ n7_;clear hb hbox hg)|((with_reducible refine gC_ (f:=135) rfl ?_);refine gl_ 7 Tryd.func135 #[.pointer (some ⟨g,0,none⟩)] ?_;(with_reducible refine (spec_l71Id.calls k g s0_0 s0_1 t130 t131 w0 _ ?side1 ?side2 A2.out).mono ?_);(case side1=>exact is_HI0);(case side2=>exact bel_);rintro e w15 ⟨rfl,hi,hb,hk⟩;refine ⟨_,rfl,?_⟩;replace BK129:=a_ (kb_ hk BK129.out NB129_0.out);replace HK:=a_ (KeepBut.trans (kf_ HK.out) hk (.inl rfl));replace HB:=a_ (hb);replace HI0:=a_ (hi);(try clear hb hk hi))|((with_reducible refine gC_ (f:=136) rfl ?_);refine gl_ 9 Tryd.func136 #[.pointer (some ⟨g,0,none⟩)] ?_;(with_reducible refine (spec_l71Text.calls k g s0_0 t131 t132 t133 w0 _ ?side1 ?side2 A3.out).mono ?_);(case side1=>exact is_HI0);(case side2=>exact bel_);rintro e w16 ⟨rfl,hi,hb,hk⟩;refine ⟨_,rfl,?_⟩;replace BK129:=a_ (kb_ hk BK129.out NB129_0.out);replace HK:=a_ (KeepBut.trans (kf_ HK.out) hk (.inl rfl));replace HB:=a_ (hb);replace HI0:=a_ (hi);(try clear hb hk hi))|((with_reducible refine gD_ (N:=3) rfl ?_);refine bx_ 3 (#[.int .i64 0,.int .i64 0,.int .i64 0,.int .i64 0,.string (⟨#[]⟩:ByteArray)]) 42 ?_;intro gb134 hg w17 hbox hb;have n0_:=a_ (IsS145.below (is_HI0) hb);have n1_:=a_ (bb_ BK129.out hb);have n2_:=a_ (KeepBut.trans (kf_ HK.out) (KeepBut.of_below hb g none) (.inl rfl));have n3_:=a_ (bS_ (bel_) hb);have n4_:=a_ (hbox);have n5_:=a_ ((by rw [hg];exact (keep_size (w:=w) (g:=g) (row:=none) (kf_ HK.out)):w.heap.size≤gb134));have n6_:=a_ ((Nat.le_trans HW0.out (by rw [hg];exact (keep_size (w:=w) (g:=g) (row:=none) (kf_ HK.out)):w.heap.size≤gb134):w0.heap.size≤gb134));have n7_:=a_ ((by rw [hg];exact Nat.ne_of_lt (blk_lt (g:=gb129) (o:=.cells #[.int .i64 0,.int .i64 0,.int .i64 0,.int .i64 0,.string (⟨#[]⟩:ByteArray)] 42 (0,0)) (bp_ BK129.out)):gb129≠gb134));have n8_:=a_ ((by rw [hg];exact Nat.ne_of_gt (blk_lt (g:=gb129) (o:=.cells #[.int .i64 0,.int .i64 0,.int .i64 0,.int .i64 0,.string (⟨#[]⟩:ByteArray)] 42 (0,0)) (bp_ BK129.out)):gb134≠gb129));have n9_:=a_ ((by rw [hg];exact Nat.ne_of_lt (IsS145.lt (show IsS145 w0 _ g s0_0 t133 from is_HI0)):g≠gb134));have n10_:=a_ ((by rw [hg];exact Nat.ne_of_gt (IsS145.lt (show IsS145 w0 _ g s0_0 t133 from is_HI0)):gb134≠g));clear HI0;clear BK129;clear HK;clear HB;have HI0:=n0_;have BK129:=n1_;have HK:=n2_;have HB:=n3_;have BK134:=n4_;have GW134:=n5_;have GE134:=n6_;have NB129_134:=n7_;have NB134_129:=n8_;have NB0_134:=n9_;have NB134_0:=n10_;clear n0_ n1_ n2_ n3_ n4_ n5_ n6_ n7_ n8_ n9_ n10_;clear hb hbox hg;have hnb18:=NB134_129.out;have hnc18:=NB129_134.out;have hnb19:=NB134_0.out;have hnc19:=NB0_134.out;obtain ⟨Z20_0,Z20_1,Z20_2,Z20_3,Z20_4,Y20_0,Y20_1,Y20_2,Y20_3,Y20_4⟩:=op5_ BK134.out)|((with_reducible refine gC_ (f:=135) rfl ?_);refine gl_ 12 Tryd.func135 #[.pointer (some ⟨g,0,none⟩)] ?_;(with_reducible refine (spec_l71Id.calls k g s0_0 t133 t135 t136 w0 _ ?side1 ?side2 A4.out).mono ?_);(case side1=>exact is_HI0);(case side2=>exact bel_);rintro e w21 ⟨rfl,hi,hb,hk⟩;refine ⟨_,rfl,?_⟩;have n0_:=a_ (KeepBut.blk hk (g':=gb129) (o:=.cells #[.int .i64 0,.int .i64 0,.int .i64 0,.int .i64 0,.string (⟨#[]⟩:ByteArray)] 42 (0,0)) (fp1_ NB129_134.out BK129.out) NB129_0.out (by simp));have n1_:=a_ (KeepBut.blk hk (g':=gb134) (o:=.cells #[.int .i64 2,.int .i64 t130,.int .i64 0,.int .i64 0,.string t132] 42 (0,0)) (k5p_ BK134.out) NB134_0.out (by simp));have n2_:=a_ (KeepBut.trans (kf_ HK.out) hk (.inl rfl));have n3_:=a_ (hb);have n4_:=a_ (hi);clear BK129;clear BK134;clear HK;clear HB;clear HI0;have BK129:=n0_;have BK134:=n1_;have HK:=n2_;have HB:=n3_;have HI0:=n4_;clear n0_ n1_ n2_ n3_ n4_;(try clear hb hk hi))|((with_reducible refine gD_ (N:=13) rfl ?_);refine Kd.R_lit (Kd.int .i64) _ 3 ?hg (N:=13) ?hd (xs:=([1,1,t135,2,3]:List Int)) (inner:=[.int .i64 1,.int .i64 1,.int .i64 t135,.int .i64 2,.int .i64 3]) (ok:=fun _=>True) (okp:=fun _=>True) ?hr ?hp (fun _ hk=>hk) trivial (Below.refl _ _) (Nat.le_refl _) (by simp) ?_;(case hd=>rfl);(case hg=>rfl);(case hr=>first|(go_simp;done)|(go_simp;rfl));(case hp=>exact (Reps.one (show Kd.M (Kd.int .i64) _ _ _ 1 [.int .i64 1] from rfl) (Reps.one (show Kd.M (Kd.int .i64) _ _ _ 1 [.int .i64 1] from rfl) (Reps.one (show Kd.M (Kd.int .i64) _ _ _ t135 [.int .i64 t135] from rfl) (Reps.one (show Kd.M (Kd.int .i64) _ _ _ 2 [.int .i64 2] from rfl) (Reps.one (show Kd.M (Kd.int .i64) _ _ _ 3 [.int .i64 3] from rfl) (Reps.none _ _)))))));intro v138 w22 ho23 hb hg_ hnew_;clear hg_ hnew_;(first|rw [←Ny137.out] at ho23|(simp only [Int.reduceToNat] at ho23;rw [←Ny137.out] at ho23));have HO139:=a_ (Kd.R_lower ho23 (keep_size (w:=w) (g:=g) (row:=none) (kf_ HK.out)));replace HK:=a_ (KeepBut.trans (kf_ HK.out) (KeepBut.of_below hb g none) (.inl rfl));replace HB:=a_ (bS_ (bel_) hb);replace HI0:=a_ (IsS145.below (is_HI0) hb);replace BK129:=a_ (bb_ BK129.out hb);replace BK134:=a_ (bb_ BK134.out hb);clear hb ho23)|((with_reducible refine gC_ (f:=74) rfl ?_);refine gl_ 15 Tryd.func74 #[.pointer (some ⟨g,0,none⟩),.int .i64 5] ?_;(with_reducible refine (spec_l6Rd_pick.calls k g s0_0 t136 5 t140 t141 w0 _ ?side1 ?side2 A5.out).mono ?_);(case side1=>exact is_HI0);(case side2=>exact bel_);rintro e w24 ⟨rfl,hi,hb,hk⟩;refine ⟨_,rfl,?_⟩;replace BK129:=a_ (kb_ hk BK129.out NB129_0.out);replace BK134:=a_ (kb_ hk BK134.out NB134_0.out);replace HO139:=a_ (Kd.R_mono (Kd.R_keep (IsS145.apart (show IsS145 w0 _ g s0_0 t136 from is_HI0) (rp_ HO139.out) (by decide)) hk (fun _ h=>h.2)) (fun _ h=>h.1));replace HK:=a_ (KeepBut.trans (kf_ HK.out) hk (.inl rfl));replace HB:=a_ (hb);replace HI0:=a_ (hi);(try clear hb hk hi);obtain ⟨Ao25,co25,eo25⟩:=Kd.R_slice HO139.out;subst eo25;have p142:0≤(t140:Int):=od_;have q142:t140 < (y137.length:Int):=od_;obtain ⟨ad142,e142,hx142_0⟩:=Kd.at_int (Kd.R_reads' HO139.out).2.2 t140 p142 q142;cases e142;replace p142:=eq_true p142;replace q142:=eq_true q142)|((with_reducible refine gC_ (f:=135) rfl ?_);refine gl_ 19 Tryd.func135 #[.pointer (some ⟨g,0,none⟩)] ?_;(with_reducible refine (spec_l71Id.calls k g s0_0 t141 t143 t144 w0 _ ?side1 ?side2 A8.out).mono ?_);(case side1=>exact is_HI0);(case side2=>exact bel_);rintro e w26 ⟨rfl,hi,hb,hk⟩;refine ⟨_,rfl,?_⟩;replace BK129:=a_ (kb_ hk BK129.out NB129_0.out);replace BK134:=a_ (kb_ hk BK134.out NB134_0.out);replace HO139:=a_ (Kd.R_mono (Kd.R_keep (IsS145.apart (show IsS145 w0 _ g s0_0 t141 from is_HI0) (rp_ HO139.out) (by decide)) hk (fun _ h=>h.2)) (fun _ h=>h.1));replace HK:=a_ (KeepBut.trans (kf_ HK.out) hk (.inl rfl));replace HB:=a_ (hb);replace HI0:=a_ (hi);(try clear hb hk hi))|((with_reducible refine gD_ (N:=20) rfl ?_);refine Kd.R_lit (Kd.int .i64) _ 3 ?hg (N:=20) ?hd (xs:=([0,t143]:List Int)) (inner:=[.int .i64 0,.int .i64 t143]) (ok:=fun _=>True) (okp:=fun _=>True) ?hr ?hp (fun _ hk=>hk) trivial (Below.refl _ _) (Nat.le_refl _) (by simp) ?_;(case hd=>rfl);(case hg=>rfl);(case hr=>first|(go_simp;done)|(go_simp;rfl));(case hp=>exact (Reps.one (show Kd.M (Kd.int .i64) _ _ _ 0 [.int .i64 0] from rfl) (Reps.one (show Kd.M (Kd.int .i64) _ _ _ t143 [.int .i64 t143] from rfl) (Reps.none _ _))));intro v146 w27 ho28 hb hg_ hnew_;clear hg_ hnew_;(first|rw [←Ny145.out] at ho28|(simp only [Int.reduceToNat] at ho28;rw [←Ny145.out] at ho28));have HO147:=a_ (Kd.R_lower (Kd.R_new' ho28 (Kd.R_lt (rp_ HO139.out))) (keep_size (w:=w) (g:=g) (row:=none) (kf_ HK.out)));replace HO139:=a_ (Kd.R_elder' (rp_ HO139.out) (Kd.R_base ho28) hb);replace HK:=a_ (KeepBut.trans (kf_ HK.out) (KeepBut.of_below hb g none) (.inl rfl));replace HB:=a_ (bS_ (bel_) hb);replace HI0:=a_ (IsS145.below (is_HI0) hb);replace BK129:=a_ (bb_ BK129.out hb);replace BK134:=a_ (bb_ BK134.out hb);clear hb ho28)|((with_reducible refine gC_ (f:=74) rfl ?_);refine gl_ 22 Tryd.func74 #[.pointer (some ⟨g,0,none⟩),.int .i64 2] ?_;(with_reducible refine (spec_l6Rd_pick.calls k g s0_0 t144 2 t148 t149 w0 _ ?side1 ?side2 A9.out).mono ?_);(case side1=>exact is_HI0);(case side2=>exact bel_);rintro e w29 ⟨rfl,hi,hb,hk⟩;refine ⟨_,rfl,?_⟩;replace BK129:=a_ (kb_ hk BK129.out NB129_0.out);replace BK134:=a_ (kb_ hk BK134.out NB134_0.out);replace HO139:=a_ (Kd.R_mono (Kd.R_keep (IsS145.apart (show IsS145 w0 _ g s0_0 t144 from is_HI0) (rp_ HO139.out) (by decide)) hk (fun _ h=>h.2)) (fun _ h=>h.1));replace HO147:=a_ (Kd.R_mono (Kd.R_keep (IsS145.apart (show IsS145 w0 _ g s0_0 t144 from is_HI0) (rp_ HO147.out) (by decide)) hk (fun _ h=>h.2)) (fun _ h=>h.1));replace HK:=a_ (KeepBut.trans (kf_ HK.out) hk (.inl rfl));replace HB:=a_ (hb);replace HI0:=a_ (hi);(try clear hb hk hi);obtain ⟨Ao30,co30,eo30⟩:=Kd.R_slice HO147.out;subst eo30;have p150:0≤(t148:Int):=od_;have q150:t148 < (y145.length:Int):=od_;obtain ⟨ad150,e150,hx150_0⟩:=Kd.at_int (Kd.R_reads' HO147.out).2.2 t148 p150 q150;cases e150;replace p150:=eq_true p150;replace q150:=eq_true q150)|((with_reducible refine gC_ (f:=74) rfl ?_);refine gl_ 26 Tryd.func74 #[.pointer (some ⟨g,0,none⟩),.int .i64 5] ?_;(with_reducible refine (spec_l6Rd_pick.calls k g s0_0 t149 5 t151 t152 w0 _ ?side1 ?side2 A12.out).mono ?_);(case side1=>exact is_HI0);(case side2=>exact bel_);rintro e w31 ⟨rfl,hi,hb,hk⟩;refine ⟨_,rfl,?_⟩;replace BK129:=a_ (kb_ hk BK129.out NB129_0.out);replace BK134:=a_ (kb_ hk BK134.out NB134_0.out);replace HO139:=a_ (Kd.R_mono (Kd.R_keep (IsS145.apart (show IsS145 w0 _ g s0_0 t149 from is_HI0) (rp_ HO139.out) (by decide)) hk (fun _ h=>h.2)) (fun _ h=>h.1));replace HO147:=a_ (Kd.R_mono (Kd.R_keep (IsS145.apart (show IsS145 w0 _ g s0_0 t149 from is_HI0) (rp_ HO147.out) (by decide)) hk (fun _ h=>h.2)) (fun _ h=>h.1));replace HK:=a_ (KeepBut.trans (kf_ HK.out) hk (.inl rfl));replace HB:=a_ (hb);replace HI0:=a_ (hi);(try clear hb hk hi)))
     (try simp only [Act.put,List.setIfInBounds_toArray,List.set_cons_zero,List.set_cons_succ])
     go_cut [] (fun wc=>∃ (kq:Nat) (x135000_12:Int) (x135001_12:Int) (x135002_12:Int) (x135003_12:Int) (x135004_12:ByteArray),Aside0 (spec_l71Op.j1 kq s0_0 t152 x135000_12 x135001_12 x135002_12 x135003_12 x135004_12=some (r1,r2,r3,r4,r5,r6))∧Aside0 (kq≤k)∧Aside0 (wc.heap[gb129]?=some (.cells #[.int .i64 0,.int .i64 0,.int .i64 0,.int .i64 0,.string (⟨#[]⟩:ByteArray)] 42 (0,0)))∧Aside0 (wc.heap[gb134]?=some (.cells #[.int .i64 x135000_12,.int .i64 x135001_12,.int .i64 x135002_12,.int .i64 x135003_12,.string x135004_12] 42 (0,0)))∧Aside0 (IsS145 w0 wc g s0_0 t152)∧Aside0 (KeepBut w wc g none)∧Aside0 (Below w0.heap.size w0 wc))
     case first =>
      have H:=HC13.out
      clear HC13
      have HC32:=a_ H
      clear H
      go_upto_if 27 with (fail)
      go_cut [27] (fun v27 wc=>∃ (kq:Nat) (x27_31:Bool),v27=.bool x27_31∧Aside0 (spec_l71Op.j0 kq (rd y137 t140) (rd y145 t148) t151 x27_31 s0_0 t152 2 t130 0 0 t132=some (r1,r2,r3,r4,r5,r6))∧Aside0 (kq≤k)∧Aside0 (wc.heap[gb129]?=some (.cells #[.int .i64 0,.int .i64 0,.int .i64 0,.int .i64 0,.string (⟨#[]⟩:ByteArray)] 42 (0,0)))∧Aside0 (wc.heap[gb134]?=some (.cells #[.int .i64 2,.int .i64 t130,.int .i64 0,.int .i64 0,.string t132] 42 (0,0)))∧Aside0 (IsS145 w0 wc g s0_0 t152)∧Aside0 (KeepBut w wc g none)∧Aside0 (Below w0.heap.size w0 wc))
      case first =>
       have H:=HC32.out
       clear HC32
       by_cases c33:t151=0
       ·rw [if_pos c33] at H
        have c33b0:(t151==0)=true:=beq_iff_eq.mpr c33
        have c33b1:(t151 != 0)=false:=be_ c33
        clear c33
        (first|rw [c33b0]|(simp only [i64_w,i32_w];rw [c33b0])|skip)
        have H':=a_ H
        clear H
        go_wp2
        go_meet
        case rel=>exact ⟨_,((t151==0)),(si_),H',⟨by first|omega|exact Nat.le_refl _⟩,⟨bp_ BK129.out⟩,⟨bp_ BK134.out⟩,⟨is_HI0⟩,⟨kf_ HK.out⟩,⟨bel_⟩⟩
       ·rw [if_neg c33] at H
        have c33b0:(t151==0)=false:=bn_ c33
        have c33b1:(t151 != 0)=true:=bne_iff_ne.mpr c33
        (first|rw [c33b0]|(simp only [i64_w,i32_w];rw [c33b0])|skip)
        have H':=a_ H
        clear H
        go_wp2
        go_meet
        case rel=>exact ⟨_,((t151==1)),(si_),H',⟨by first|omega|exact Nat.le_refl _⟩,⟨bp_ BK129.out⟩,⟨bp_ BK134.out⟩,⟨is_HI0⟩,⟨kf_ HK.out⟩,⟨bel_⟩⟩
      case rest =>
       clear HC32
       try clear c1
       try clear p1
       try clear q1
       try clear hx1
       try clear p2
       try clear c3
       try clear c6
       try clear c6b0
       try clear c7
       try clear c7b0
       try clear c9
       try clear c10
       try clear c10b0
       try clear c11
       try clear c11b0
       try clear c13
       try clear p14
       try clear q14
       try clear hx14
       try clear p15
       try clear q15
       try clear hx15
       try clear c18
       try clear c19
       try clear c33
       try clear c33b0
       try clear c33b1
       try clear hx142_0
       try clear hx150_0
       try clear p142
       try clear p150
       try clear q142
       try clear q150
       try clear Z20_0 Z20_1 Z20_2 Z20_3 Z20_4 Y20_0 Y20_1 Y20_2 Y20_3 Y20_4
       obtain ⟨kq,x27_31,rfl,HA,HJ31,BK129,BK134,HI0,HK,HB⟩:=hcut
       cases kq with
       | zero=>exact absurd HA.out (by simp [spec_l71Op.j0])
       | succ kj31 =>
        have H:=HA.out
        clear HA
        simp only [spec_l71Op.j0] at H
        by_cases c34:x27_31=true
        ·subst c34
         have H1:(spec_l71Op.j1 kj31 s0_0 t152 1 t130 (rd y137 t140) (rd y145 t148) t132)=some (r1,r2,r3,r4,r5,r6):=by rw [if_pos rfl] at H;exact H
         clear H
         have H:=H1
         clear H1
         have H':=a_ H
         clear H
         have hnb35:=NB134_129.out
         have hnc35:=NB129_134.out
         have hnb36:=NB134_0.out
         have hnc36:=NB0_134.out
         obtain ⟨Z37_0,Z37_1,Z37_2,Z37_3,Z37_4,Y37_0,Y37_1,Y37_2,Y37_3,Y37_4⟩:=op5_ (W:=wc) BK134.out
         go_wp2
         go_meet
         case rel=>exact ⟨_,(1),(t130),((rd y137 t140)),((rd y145 t148)),(t132),H',⟨by have:=HJ31.out;first|omega|exact Nat.le_refl _⟩,⟨fp1_ NB129_134.out BK129.out⟩,⟨k5p_ BK134.out⟩,⟨is_HI0⟩,⟨kf_ HK.out⟩,⟨bel_⟩⟩
        ·replace c34:=Bool.eq_false_iff.mpr c34
         subst c34
         have H1:(if t151=2 then (spec_l71Op.j1 kj31 s0_0 t152 3 t130 (rd y137 t140) (rd y145 t148) (⟨#[]⟩:ByteArray)) else (if t151=3 then (spec_l71Op.j1 kj31 s0_0 t152 3 t130 (rd y137 t140) (rd y145 t148) (⟨#[]⟩:ByteArray)) else (spec_l71Op.j1 kj31 s0_0 t152 2 t130 0 0 t132)))=some (r1,r2,r3,r4,r5,r6):=by rw [if_neg (show ¬ (false=true) by decide)] at H;exact H
         clear H
         have H:=H1
         clear H1
         by_cases c38:t151=2
         ·rw [if_pos c38] at H
          have c38b0:(t151==2)=true:=beq_iff_eq.mpr c38
          have c38b1:(t151 != 2)=false:=be_ c38
          clear c38
          have H':=a_ H
          clear H
          have hnb39:=NB134_129.out
          have hnc39:=NB129_134.out
          have hnb40:=NB134_0.out
          have hnc40:=NB0_134.out
          obtain ⟨Z41_0,Z41_1,Z41_2,Z41_3,Z41_4,Y41_0,Y41_1,Y41_2,Y41_3,Y41_4⟩:=op5_ (W:=wc) BK134.out
          go_wp2
          go_meet
          case rel=>exact ⟨_,(3),(t130),((rd y137 t140)),((rd y145 t148)),((⟨#[]⟩:ByteArray)),H',⟨by have:=HJ31.out;first|omega|exact Nat.le_refl _⟩,⟨fp1_ NB129_134.out BK129.out⟩,⟨k5p_ BK134.out⟩,⟨is_HI0⟩,⟨kf_ HK.out⟩,⟨bel_⟩⟩
         ·rw [if_neg c38] at H
          have c38b0:(t151==2)=false:=bn_ c38
          have c38b1:(t151 != 2)=true:=bne_iff_ne.mpr c38
          by_cases c42:t151=3
          ·rw [if_pos c42] at H
           have c42b0:(t151==3)=true:=beq_iff_eq.mpr c42
           have c42b1:(t151 != 3)=false:=be_ c42
           clear c42
           have H':=a_ H
           clear H
           have hnb43:=NB134_129.out
           have hnc43:=NB129_134.out
           have hnb44:=NB134_0.out
           have hnc44:=NB0_134.out
           obtain ⟨Z45_0,Z45_1,Z45_2,Z45_3,Z45_4,Y45_0,Y45_1,Y45_2,Y45_3,Y45_4⟩:=op5_ (W:=wc) BK134.out
           go_wp2
           go_meet
           case rel=>exact ⟨_,(3),(t130),((rd y137 t140)),((rd y145 t148)),((⟨#[]⟩:ByteArray)),H',⟨by have:=HJ31.out;first|omega|exact Nat.le_refl _⟩,⟨fp1_ NB129_134.out BK129.out⟩,⟨k5p_ BK134.out⟩,⟨is_HI0⟩,⟨kf_ HK.out⟩,⟨bel_⟩⟩
          ·rw [if_neg c42] at H
           have c42b0:(t151==3)=false:=bn_ c42
           have c42b1:(t151 != 3)=true:=bne_iff_ne.mpr c42
           have H':=a_ H
           clear H
           go_wp2
           go_meet
           case rel=>exact ⟨_,(2),(t130),(0),(0),(t132),H',⟨by have:=HJ31.out;first|omega|exact Nat.le_refl _⟩,⟨bp_ BK129.out⟩,⟨bp_ BK134.out⟩,⟨is_HI0⟩,⟨kf_ HK.out⟩,⟨bel_⟩⟩
     case rest =>
      clear HC13
      try clear c1
      try clear p1
      try clear q1
      try clear hx1
      try clear p2
      try clear c3
      try clear c4
      try clear c6
      try clear c6b0
      try clear c7
      try clear c7b0
      try clear c9
      try clear c10
      try clear c10b0
      try clear c11
      try clear c11b0
      try clear c13
      try clear p14
      try clear q14
      try clear hx14
      try clear p15
      try clear q15
      try clear hx15
      try clear c18
      try clear c19
      try clear c33
      try clear c33b0
      try clear c33b1
      try clear c34
      try clear c35
      try clear c36
      try clear c38
      try clear c38b0
      try clear c38b1
      try clear c39
      try clear c40
      try clear c42
      try clear c42b0
      try clear c42b1
      try clear c43
      try clear c44
      try clear hx142_0
      try clear hx150_0
      try clear p1
      try clear p14
      try clear p142
      try clear p15
      try clear p150
      try clear p2
      try clear q1
      try clear q14
      try clear q142
      try clear q15
      try clear q150
      try clear Z20_0 Z20_1 Z20_2 Z20_3 Z20_4 Y20_0 Y20_1 Y20_2 Y20_3 Y20_4
      try clear Z37_0 Z37_1 Z37_2 Z37_3 Z37_4 Y37_0 Y37_1 Y37_2 Y37_3 Y37_4
      try clear Z41_0 Z41_1 Z41_2 Z41_3 Z41_4 Y41_0 Y41_1 Y41_2 Y41_3 Y41_4
      try clear Z45_0 Z45_1 Z45_2 Z45_3 Z45_4 Y45_0 Y45_1 Y45_2 Y45_3 Y45_4
      obtain ⟨kq,x135000_12,x135001_12,x135002_12,x135003_12,x135004_12,HA,HJ12,BK129,BK134,HI0,HK,HB⟩:=hcut
      cases kq with
      | zero=>exact absurd HA.out (by simp [spec_l71Op.j1])
      | succ kj12 =>
       have H:=HA.out
       clear HA
       simp only [spec_l71Op.j1] at H
       replace H:=bs_ H
       obtain ⟨⟨t153,t154⟩,A460,H⟩:=H
       try dsimp only at H
       have A46:=a_ A460
       clear A460
       by_cases c47:t153=0
       ·rw [if_pos c47] at H
        have c47b0:(t153==0)=true:=beq_iff_eq.mpr c47
        have c47b1:(t153 != 0)=false:=be_ c47
        clear c47
        replace H:=bs_ H
        obtain ⟨⟨t155,t156⟩,A480,H⟩:=H
        try dsimp only at H
        have A48:=a_ A480
        clear A480
        simp only [Option.some.injEq,Prod.mk.injEq] at H
        obtain ⟨rfl,rfl,rfl,rfl,rfl,rfl⟩:=H
        go_wp2_with (first|((with_reducible refine gC_ (f:=74) rfl ?_);refine gl_ 46 Tryd.func74 #[.pointer (some ⟨g,0,none⟩),.int .i64 30] ?_;(with_reducible refine (spec_l6Rd_pick.calls kj12 g s0_0 t152 30 t153 t154 w0 _ ?side1 ?side2 A46.out).mono ?_);(case side1=>exact is_HI0);(case side2=>exact bel_);rintro e w49 ⟨rfl,hi,hb,hk⟩;refine ⟨_,rfl,?_⟩;replace BK129:=a_ (kb_ hk BK129.out NB129_0.out);replace BK134:=a_ (kb_ hk BK134.out NB134_0.out);replace HK:=a_ (KeepBut.trans (kf_ HK.out) hk (.inl rfl));replace HB:=a_ (hb);replace HI0:=a_ (hi);(try clear hb hk hi))|((with_reducible refine gC_ (f:=74) rfl ?_);refine gl_ 50 Tryd.func74 #[.pointer (some ⟨g,0,none⟩),.int .i64 5] ?_;(with_reducible refine (spec_l6Rd_pick.calls kj12 g s0_0 t154 5 t155 t156 w0 _ ?side1 ?side2 A48.out).mono ?_);(case side1=>exact is_HI0);(case side2=>exact bel_);rintro e w50 ⟨rfl,hi,hb,hk⟩;refine ⟨_,rfl,?_⟩;replace BK129:=a_ (kb_ hk BK129.out NB129_0.out);replace BK134:=a_ (kb_ hk BK134.out NB134_0.out);replace HK:=a_ (KeepBut.trans (kf_ HK.out) hk (.inl rfl));replace HB:=a_ (hb);replace HI0:=a_ (hi);(try clear hb hk hi);have hnb51:=NB134_129.out;have hnc51:=NB129_134.out;have hnb52:=NB134_0.out;have hnc52:=NB0_134.out;obtain ⟨Z53_0,Z53_1,Z53_2,Z53_3,Z53_4,Y53_0,Y53_1,Y53_2,Y53_3,Y53_4⟩:=op5_ BK134.out;have hnb54:=NB129_0.out;have hnc54:=NB0_129.out;obtain ⟨Z55_0,Z55_1,Z55_2,Z55_3,Z55_4,Y55_0,Y55_1,Y55_2,Y55_3,Y55_4⟩:=op5_ BK129.out))
        refine bodyPost_ret (results_cell_row rfl _ _ gb129 42 #[.int .i64 t155,.int .i64 x135001_12,.int .i64 x135002_12,.int .i64 x135003_12,.string x135004_12] (0,0) _ rfl (k5p1_ NB129_134.out BK129.out) Tryd.underlying42 rfl (by kernel_rfl)) rfl ?_
        exact ⟨fi_,is_HI0,bel_,kf_ HK.out⟩
       ·rw [if_neg c47] at H
        have c47b0:(t153==0)=false:=bn_ c47
        have c47b1:(t153 != 0)=true:=bne_iff_ne.mpr c47
        by_cases c56:t153=1
        ·rw [if_pos c56] at H
         have c56b0:(t153==1)=true:=beq_iff_eq.mpr c56
         have c56b1:(t153 != 1)=false:=be_ c56
         clear c56
         replace H:=bs_ H
         obtain ⟨⟨t157,t158⟩,A570,H⟩:=H
         try dsimp only at H
         have A57:=a_ A570
         clear A570
         simp only [Option.some.injEq,Prod.mk.injEq] at H
         obtain ⟨rfl,rfl,rfl,rfl,rfl,rfl⟩:=H
         go_wp2_with (first|((with_reducible refine gC_ (f:=74) rfl ?_);refine gl_ 46 Tryd.func74 #[.pointer (some ⟨g,0,none⟩),.int .i64 30] ?_;(with_reducible refine (spec_l6Rd_pick.calls kj12 g s0_0 t152 30 t153 t154 w0 _ ?side1 ?side2 A46.out).mono ?_);(case side1=>exact is_HI0);(case side2=>exact bel_);rintro e w58 ⟨rfl,hi,hb,hk⟩;refine ⟨_,rfl,?_⟩;replace BK129:=a_ (kb_ hk BK129.out NB129_0.out);replace BK134:=a_ (kb_ hk BK134.out NB134_0.out);replace HK:=a_ (KeepBut.trans (kf_ HK.out) hk (.inl rfl));replace HB:=a_ (hb);replace HI0:=a_ (hi);(try clear hb hk hi))|((with_reducible refine gC_ (f:=74) rfl ?_);refine gl_ 55 Tryd.func74 #[.pointer (some ⟨g,0,none⟩),.int .i64 50] ?_;(with_reducible refine (spec_l6Rd_pick.calls kj12 g s0_0 t154 50 t157 t158 w0 _ ?side1 ?side2 A57.out).mono ?_);(case side1=>exact is_HI0);(case side2=>exact bel_);rintro e w59 ⟨rfl,hi,hb,hk⟩;refine ⟨_,rfl,?_⟩;replace BK129:=a_ (kb_ hk BK129.out NB129_0.out);replace BK134:=a_ (kb_ hk BK134.out NB134_0.out);replace HK:=a_ (KeepBut.trans (kf_ HK.out) hk (.inl rfl));replace HB:=a_ (hb);replace HI0:=a_ (hi);(try clear hb hk hi);have hnb60:=NB134_129.out;have hnc60:=NB129_134.out;have hnb61:=NB134_0.out;have hnc61:=NB0_134.out;obtain ⟨Z62_0,Z62_1,Z62_2,Z62_3,Z62_4,Y62_0,Y62_1,Y62_2,Y62_3,Y62_4⟩:=op5_ BK134.out;have hnb63:=NB129_0.out;have hnc63:=NB0_129.out;obtain ⟨Z64_0,Z64_1,Z64_2,Z64_3,Z64_4,Y64_0,Y64_1,Y64_2,Y64_3,Y64_4⟩:=op5_ BK129.out))
         refine bodyPost_ret (results_cell_row rfl _ _ gb129 42 #[.int .i64 x135000_12,.int .i64 t157,.int .i64 x135002_12,.int .i64 x135003_12,.string x135004_12] (0,0) _ rfl (k5p1_ NB129_134.out BK129.out) Tryd.underlying42 rfl (by kernel_rfl)) rfl ?_
         exact ⟨fi_,is_HI0,bel_,kf_ HK.out⟩
        ·rw [if_neg c56] at H
         have c56b0:(t153==1)=false:=bn_ c56
         have c56b1:(t153 != 1)=true:=bne_iff_ne.mpr c56
         by_cases c65:t153=2
         ·rw [if_pos c65] at H
          have c65b0:(t153==2)=true:=beq_iff_eq.mpr c65
          have c65b1:(t153 != 2)=false:=be_ c65
          clear c65
          replace H:=bs_ H
          obtain ⟨⟨t159,t160⟩,A660,H⟩:=H
          try dsimp only at H
          have A66:=a_ A660
          clear A660
          simp only [Option.some.injEq,Prod.mk.injEq] at H
          obtain ⟨rfl,rfl,rfl,rfl,rfl,rfl⟩:=H
          go_wp2_with (first|((with_reducible refine gC_ (f:=74) rfl ?_);refine gl_ 46 Tryd.func74 #[.pointer (some ⟨g,0,none⟩),.int .i64 30] ?_;(with_reducible refine (spec_l6Rd_pick.calls kj12 g s0_0 t152 30 t153 t154 w0 _ ?side1 ?side2 A46.out).mono ?_);(case side1=>exact is_HI0);(case side2=>exact bel_);rintro e w67 ⟨rfl,hi,hb,hk⟩;refine ⟨_,rfl,?_⟩;replace BK129:=a_ (kb_ hk BK129.out NB129_0.out);replace BK134:=a_ (kb_ hk BK134.out NB134_0.out);replace HK:=a_ (KeepBut.trans (kf_ HK.out) hk (.inl rfl));replace HB:=a_ (hb);replace HI0:=a_ (hi);(try clear hb hk hi))|((with_reducible refine gC_ (f:=74) rfl ?_);refine gl_ 60 Tryd.func74 #[.pointer (some ⟨g,0,none⟩),.int .i64 50] ?_;(with_reducible refine (spec_l6Rd_pick.calls kj12 g s0_0 t154 50 t159 t160 w0 _ ?side1 ?side2 A66.out).mono ?_);(case side1=>exact is_HI0);(case side2=>exact bel_);rintro e w68 ⟨rfl,hi,hb,hk⟩;refine ⟨_,rfl,?_⟩;replace BK129:=a_ (kb_ hk BK129.out NB129_0.out);replace BK134:=a_ (kb_ hk BK134.out NB134_0.out);replace HK:=a_ (KeepBut.trans (kf_ HK.out) hk (.inl rfl));replace HB:=a_ (hb);replace HI0:=a_ (hi);(try clear hb hk hi);have hnb69:=NB134_129.out;have hnc69:=NB129_134.out;have hnb70:=NB134_0.out;have hnc70:=NB0_134.out;obtain ⟨Z71_0,Z71_1,Z71_2,Z71_3,Z71_4,Y71_0,Y71_1,Y71_2,Y71_3,Y71_4⟩:=op5_ BK134.out;have hnb72:=NB129_0.out;have hnc72:=NB0_129.out;obtain ⟨Z73_0,Z73_1,Z73_2,Z73_3,Z73_4,Y73_0,Y73_1,Y73_2,Y73_3,Y73_4⟩:=op5_ BK129.out))
          refine bodyPost_ret (results_cell_row rfl _ _ gb129 42 #[.int .i64 x135000_12,.int .i64 x135001_12,.int .i64 t159,.int .i64 x135003_12,.string x135004_12] (0,0) _ rfl (k5p1_ NB129_134.out BK129.out) Tryd.underlying42 rfl (by kernel_rfl)) rfl ?_
          exact ⟨fi_,is_HI0,bel_,kf_ HK.out⟩
         ·rw [if_neg c65] at H
          have c65b0:(t153==2)=false:=bn_ c65
          have c65b1:(t153 != 2)=true:=bne_iff_ne.mpr c65
          by_cases c74:t153=3
          ·rw [if_pos c74] at H
           have c74b0:(t153==3)=true:=beq_iff_eq.mpr c74
           have c74b1:(t153 != 3)=false:=be_ c74
           clear c74
           replace H:=bs_ H
           obtain ⟨⟨t161,t162⟩,A750,H⟩:=H
           try dsimp only at H
           have A75:=a_ A750
           clear A750
           simp only [Option.some.injEq,Prod.mk.injEq] at H
           obtain ⟨rfl,rfl,rfl,rfl,rfl,rfl⟩:=H
           go_wp2_with (first|((with_reducible refine gC_ (f:=74) rfl ?_);refine gl_ 46 Tryd.func74 #[.pointer (some ⟨g,0,none⟩),.int .i64 30] ?_;(with_reducible refine (spec_l6Rd_pick.calls kj12 g s0_0 t152 30 t153 t154 w0 _ ?side1 ?side2 A46.out).mono ?_);(case side1=>exact is_HI0);(case side2=>exact bel_);rintro e w76 ⟨rfl,hi,hb,hk⟩;refine ⟨_,rfl,?_⟩;replace BK129:=a_ (kb_ hk BK129.out NB129_0.out);replace BK134:=a_ (kb_ hk BK134.out NB134_0.out);replace HK:=a_ (KeepBut.trans (kf_ HK.out) hk (.inl rfl));replace HB:=a_ (hb);replace HI0:=a_ (hi);(try clear hb hk hi))|((with_reducible refine gC_ (f:=74) rfl ?_);refine gl_ 65 Tryd.func74 #[.pointer (some ⟨g,0,none⟩),.int .i64 50] ?_;(with_reducible refine (spec_l6Rd_pick.calls kj12 g s0_0 t154 50 t161 t162 w0 _ ?side1 ?side2 A75.out).mono ?_);(case side1=>exact is_HI0);(case side2=>exact bel_);rintro e w77 ⟨rfl,hi,hb,hk⟩;refine ⟨_,rfl,?_⟩;replace BK129:=a_ (kb_ hk BK129.out NB129_0.out);replace BK134:=a_ (kb_ hk BK134.out NB134_0.out);replace HK:=a_ (KeepBut.trans (kf_ HK.out) hk (.inl rfl));replace HB:=a_ (hb);replace HI0:=a_ (hi);(try clear hb hk hi);have hnb78:=NB134_129.out;have hnc78:=NB129_134.out;have hnb79:=NB134_0.out;have hnc79:=NB0_134.out;obtain ⟨Z80_0,Z80_1,Z80_2,Z80_3,Z80_4,Y80_0,Y80_1,Y80_2,Y80_3,Y80_4⟩:=op5_ BK134.out;have hnb81:=NB129_0.out;have hnc81:=NB0_129.out;obtain ⟨Z82_0,Z82_1,Z82_2,Z82_3,Z82_4,Y82_0,Y82_1,Y82_2,Y82_3,Y82_4⟩:=op5_ BK129.out))
           refine bodyPost_ret (results_cell_row rfl _ _ gb129 42 #[.int .i64 x135000_12,.int .i64 x135001_12,.int .i64 x135002_12,.int .i64 t161,.string x135004_12] (0,0) _ rfl (k5p1_ NB129_134.out BK129.out) Tryd.underlying42 rfl (by kernel_rfl)) rfl ?_
           exact ⟨fi_,is_HI0,bel_,kf_ HK.out⟩
          ·rw [if_neg c74] at H
           have c74b0:(t153==3)=false:=bn_ c74
           have c74b1:(t153 != 3)=true:=bne_iff_ne.mpr c74
           simp only [Option.some.injEq,Prod.mk.injEq] at H
           obtain ⟨rfl,rfl,rfl,rfl,rfl,rfl⟩:=H
           go_wp2_with (first|((with_reducible refine gC_ (f:=74) rfl ?_);refine gl_ 46 Tryd.func74 #[.pointer (some ⟨g,0,none⟩),.int .i64 30] ?_;(with_reducible refine (spec_l6Rd_pick.calls kj12 g s0_0 t152 30 t153 t154 w0 _ ?side1 ?side2 A46.out).mono ?_);(case side1=>exact is_HI0);(case side2=>exact bel_);rintro e w83 ⟨rfl,hi,hb,hk⟩;refine ⟨_,rfl,?_⟩;replace BK129:=a_ (kb_ hk BK129.out NB129_0.out);replace BK134:=a_ (kb_ hk BK134.out NB134_0.out);replace HK:=a_ (KeepBut.trans (kf_ HK.out) hk (.inl rfl));replace HB:=a_ (hb);replace HI0:=a_ (hi);(try clear hb hk hi);have hnb84:=NB134_129.out;have hnc84:=NB129_134.out;have hnb85:=NB134_0.out;have hnc85:=NB0_134.out;obtain ⟨Z86_0,Z86_1,Z86_2,Z86_3,Z86_4,Y86_0,Y86_1,Y86_2,Y86_3,Y86_4⟩:=op5_ BK134.out;have hnb87:=NB129_0.out;have hnc87:=NB0_129.out;obtain ⟨Z88_0,Z88_1,Z88_2,Z88_3,Z88_4,Y88_0,Y88_1,Y88_2,Y88_3,Y88_4⟩:=op5_ BK129.out))
           refine bodyPost_ret (results_cell_row rfl _ _ gb129 42 #[.int .i64 x135000_12,.int .i64 x135001_12,.int .i64 x135002_12,.int .i64 x135003_12,.string x135004_12] (0,0) _ rfl (k5p_ BK129.out) Tryd.underlying42 rfl (by kernel_rfl)) rfl ?_
           exact ⟨fi_,is_HI0,bel_,kf_ HK.out⟩
    ·rw [if_neg c11] at H
     exact absurd H (by simp)
   ·rw [if_neg c10] at H
    exact absurd H (by simp)
  ·rw [if_neg c7] at H
   exact absurd H (by simp)
 ·rw [if_neg c6] at H
  exact absurd H (by simp)

def spec_TreeNew.f  : Option ((List (S69))):=some (([(⟨1,0,(⟨#[]⟩:ByteArray)⟩:S69),(⟨2,0,(⟨#[]⟩:ByteArray)⟩:S69),(⟨3,0,(⟨#[]⟩:ByteArray)⟩:S69)]:List (S69)))
theorem spec_TreeNew.calls  (r:List (S69)) (w:World) (h:spec_TreeNew.f  = some r) :
  Calls Tryd.prog 100 #[] w fun e w'=>∃ v0_:Value,e=.returned (v0_)∧Kd.R k69 69 w' w.heap.size (fun _=>True) v0_ r∧Below w.heap.size w w':=by
 have hu69:=Tryd.underlying69
 have HB:=a_ (Below.refl w.heap.size w)
 unfold spec_TreeNew.f at h
 have H:=h
 clear h
 obtain ⟨y163,hy163⟩:∃ y_:List (S69),y_=(([(⟨1,0,(⟨#[]⟩:ByteArray)⟩:S69),(⟨2,0,(⟨#[]⟩:ByteArray)⟩:S69),(⟨3,0,(⟨#[]⟩:ByteArray)⟩:S69)]:List (S69))):=⟨_,rfl⟩
 replace H:(some y163)=some r:=by first|(rw [hy163];with_reducible exact H)|(have H2_:=(Option.bind_some _ _).symm.trans H;rw [hy163];with_reducible exact H2_)|(have H2_:=(Option.bind_some _ _).symm.trans H;with_reducible exact H2_)|with_reducible exact H|(rw [hy163];exact H)|exact H
 have Ny163:=a_ hy163
 clear hy163
 obtain rfl:=sj_ H
 go_enter Tryd.func100,Tryd.ntmps100
 go_wp2_with (first|((with_reducible refine gD_ (N:=4) rfl ?_);refine Kd.R_lit k69 _ 69 ?hg (N:=4) ?hd (xs:=([(⟨1,0,(⟨#[]⟩:ByteArray)⟩:S69),(⟨2,0,(⟨#[]⟩:ByteArray)⟩:S69),(⟨3,0,(⟨#[]⟩:ByteArray)⟩:S69)]:List (S69))) (inner:=[.int .i64 1,.int .i64 0,.string (⟨#[]⟩:ByteArray),.int .i64 2,.int .i64 0,.string (⟨#[]⟩:ByteArray),.int .i64 3,.int .i64 0,.string (⟨#[]⟩:ByteArray)]) (ok:=fun _=>True) (okp:=fun _=>True) ?hr ?hp (fun _ hk=>hk) trivial (Below.refl _ _) (Nat.le_refl _) (by simp) ?_;(case hd=>rfl);(case hg=>rfl);(case hr=>first|(go_simp;done)|(go_simp;rfl));(case hp=>exact (Reps.c3 (show Kd.M k69 _ _ _ (⟨1,0,(⟨#[]⟩:ByteArray)⟩:S69) [.int .i64 1,.int .i64 0,.string (⟨#[]⟩:ByteArray)] from (k69_mkM _ _ _ (⟨1,0,(⟨#[]⟩:ByteArray)⟩:S69) )) (Reps.c3 (show Kd.M k69 _ _ _ (⟨2,0,(⟨#[]⟩:ByteArray)⟩:S69) [.int .i64 2,.int .i64 0,.string (⟨#[]⟩:ByteArray)] from (k69_mkM _ _ _ (⟨2,0,(⟨#[]⟩:ByteArray)⟩:S69) )) (Reps.c3 (show Kd.M k69 _ _ _ (⟨3,0,(⟨#[]⟩:ByteArray)⟩:S69) [.int .i64 3,.int .i64 0,.string (⟨#[]⟩:ByteArray)] from (k69_mkM _ _ _ (⟨3,0,(⟨#[]⟩:ByteArray)⟩:S69) )) (Reps.none _ _)))));intro v164 w1 ho2 hb hg_ hnew_;clear hg_ hnew_;(first|rw [←Ny163.out] at ho2|(simp only [Int.reduceToNat] at ho2;rw [←Ny163.out] at ho2));have HO165:=a_ (Kd.R_lower ho2 (below_size (bel_)));replace HB:=a_ (bS_ (bel_) hb);clear hb ho2))
 go_ret
 exact ⟨_,fi_,by (with_reducible repeat (first|apply Kd.R_alloc|apply Kd.R_drewN|apply Kd.R_drew));exact HO165.out,bel_⟩

def spec_l6In.f (a0:Int) (a1:Int) (a2:Int):Option (Bool):=if a0≥a1 then (some (decide (a0≤a2))) else (some false)
theorem spec_l6In.calls (a0:Int) (a1:Int) (a2:Int) (r:Bool) (w:World) (h:spec_l6In.f a0 a1 a2=some r) :
  Calls Tryd.prog 75 #[.int .i64 a0,.int .i64 a1,.int .i64 a2] w fun e w'=>e=.returned (.bool r)∧Drawn0 w w':=by
 unfold spec_l6In.f at h
 have H:=h
 clear h
 by_cases c4:a0≥a1
 ·rw [if_pos c4] at H
  have c4b0:decide (a1≤a0)=true:=dt_ c4
  clear c4
  obtain rfl:=sj_ H
  go_enter Tryd.func75,Tryd.ntmps75
  go_wp2
  go_ret
  exact ⟨si_,by repeat (first|exact Drawn0.refl _|apply Drawn0.step)⟩
 ·rw [if_neg c4] at H
  have c4b0:decide (a1≤a0)=false:=df_ c4
  clear c4
  obtain rfl:=sj_ H
  go_enter Tryd.func75,Tryd.ntmps75
  go_wp2
  go_ret
  exact ⟨si_,by repeat (first|exact Drawn0.refl _|apply Drawn0.step)⟩

def spec_l1Made.f (a0:Int):Option (Bool):=(spec_l6In.f (wrap64 (Int.tdiv a0 10)) 1 3).bind fun t166=>(if t166=true then ((spec_l6In.f (Int.tmod a0 10) 1 6).bind fun t167=>(some t167)) else (some false))
theorem spec_l1Made.calls (a0:Int) (r:Bool) (w:World) (h:spec_l1Made.f a0=some r) :
  Calls Tryd.prog 120 #[.int .i64 a0] w fun e w'=>e=.returned (.bool r)∧Drawn0 w w':=by
 unfold spec_l1Made.f at h
 have H:=h
 clear h
 replace H:=bs_ H
 obtain ⟨t166,A20,H⟩:=H
 try dsimp only at H
 have A2:=a_ A20
 clear A20
 by_cases c3:t166=true
 ·subst c3
  have H1:((spec_l6In.f (Int.tmod a0 10) 1 6).bind fun t167=>(some t167))=some r:=by rw [if_pos rfl] at H;exact H
  clear H
  have H:=H1
  clear H1
  replace H:=bs_ H
  obtain ⟨t167,A40,H⟩:=H
  try dsimp only at H
  have A4:=a_ A40
  clear A40
  obtain rfl:=sj_ H
  go_enter Tryd.func120,Tryd.ntmps120
  go_wp2_with (first|((with_reducible refine gC_ (f:=75) rfl ?_);refine gl_ 5 Tryd.func75 #[.int .i64 (wrap64 (Int.tdiv a0 10)),.int .i64 1,.int .i64 3] ?_;(with_reducible refine (spec_l6In.calls (wrap64 (Int.tdiv a0 10)) 1 3 true _ A2.out).mono ?_);rintro e w' ⟨rfl,⟨nd,rfl⟩⟩;refine ⟨_,rfl,?_⟩)|(go_at_call 75;(with_reducible refine (spec_l6In.calls (Int.tmod a0 10) 1 6 t167 _ A4.out).mono ?_);rintro e w' ⟨rfl,⟨nd,rfl⟩⟩))
  go_ret
  exact ⟨si_,by repeat (first|exact Drawn0.refl _|apply Drawn0.step)⟩
 ·replace c3:=Bool.eq_false_iff.mpr c3
  subst c3
  have H1:(some false)=some r:=by rw [if_neg (show ¬ (false=true) by decide)] at H;exact H
  clear H
  have H:=H1
  clear H1
  obtain rfl:=sj_ H
  go_enter Tryd.func120,Tryd.ntmps120
  go_wp2_with (first|((with_reducible refine gC_ (f:=75) rfl ?_);refine gl_ 5 Tryd.func75 #[.int .i64 (wrap64 (Int.tdiv a0 10)),.int .i64 1,.int .i64 3] ?_;(with_reducible refine (spec_l6In.calls (wrap64 (Int.tdiv a0 10)) 1 3 false _ A2.out).mono ?_);rintro e w' ⟨rfl,⟨nd,rfl⟩⟩;refine ⟨_,rfl,?_⟩))
  go_ret
  exact ⟨si_,by repeat (first|exact Drawn0.refl _|apply Drawn0.step)⟩

def spec_l1Text.l0:Nat→ByteArray→Int→Option (Bool)
 | 0,_,_=>none
 | k+1,x0,x3=>if x3 < (x0.size:Int) then (if 0≤x3 then ((spec_l6In.f (wrap64 (bt x0 x3)) 97 100).bind fun t168=>(if t168=true then (spec_l1Text.l0 k x0 (wrap64 (x3+1))) else (some false))) else (none)) else (some (decide ((x0.size:Int)≤4)))
def spec_l1Text.f (k:Nat) (a0:ByteArray):Option (Bool):=spec_l1Text.l0 k a0 0
theorem spec_l1Text.mono_l:∀ k,(∀ y0 y1,LeO (spec_l1Text.l0 k y0 y1) (spec_l1Text.l0 (k+1) y0 y1))
 | 0=>fun _ _ r h=>by simp [spec_l1Text.l0] at h
 | k+1=>by
  have ih0:=spec_l1Text.mono_l k
  ·intro y0 y1
   unfold spec_l1Text.l0
   repeat' first
   | (with_reducible exact ih0 _ _)
   | (with_reducible exact LeO.refl _)
   | (with_reducible exact LeO.none _)
   | (with_reducible refine LeO.ite ?_ ?_)
   | (with_reducible refine LeO.bind ?_ (fun _=>?_))
theorem spec_l1Text.mono:∀ a0 k,LeO (spec_l1Text.f k a0) (spec_l1Text.f (k+1) a0):=by
 intro a0 k
 have ih0:=spec_l1Text.mono_l k
 unfold spec_l1Text.f
 repeat' first
   | (with_reducible exact ih0 _ _)
   | (with_reducible exact LeO.refl _)
   | (with_reducible exact LeO.none _)
   | (with_reducible refine LeO.ite ?_ ?_)
   | (with_reducible refine LeO.bind ?_ (fun _=>?_))
theorem spec_l1Text.calls (k:Nat) (a0:ByteArray) (r:Bool) (w:World) (h:spec_l1Text.f k a0=some r) :
  Calls Tryd.prog 121 #[.string a0] w fun e w'=>e=.returned (.bool r)∧Drawn0 w w':=by
 unfold spec_l1Text.f at h
 have H:=h
 clear h
 have H':=a_ H
 clear H
 go_enter Tryd.func121,Tryd.ntmps121
 go_wp2
 go_loopg [3] k (fun kq v3 w'=>∃ (x3_1:Int),v3=.int .i64 x3_1∧Aside0 (spec_l1Text.l0 kq a0 x3_1=some r)∧Aside0 (kq≤k)∧Drawn0 w w')
 case atStart=>exact ⟨(0),(si_),H',⟨Nat.le_refl _⟩,by repeat (first|exact Drawn0.refl _|apply Drawn0.step)⟩
 case round =>
  clear H'
  try clear c1
  obtain ⟨x3_1,rfl,HA,HK1,⟨m1,rfl⟩⟩:=hrel
  cases gk with
  | zero=>exact absurd HA.out (by simp [spec_l1Text.l0])
  | succ k1 =>
   have H:=HA.out
   clear HA
   simp only [spec_l1Text.l0] at H
   by_cases c2:x3_1 < (a0.size:Int)
   ·rw [if_pos c2] at H
    have c2b0:decide (x3_1 < (a0.size:Int))=true:=dt_ c2
    clear c2
    by_cases c3:0≤x3_1
    ·rw [if_pos c3] at H
     have c3b0:decide (0≤x3_1)=true:=dt_ c3
     clear c3
     replace H:=bs_ H
     obtain ⟨t168,A50,H⟩:=H
     try dsimp only at H
     have A5:=a_ A50
     clear A50
     by_cases c6:t168=true
     ·subst c6
      have H1:(spec_l1Text.l0 k1 a0 (wrap64 (x3_1+1)))=some r:=by rw [if_pos rfl] at H;exact H
      clear H
      have H:=H1
      clear H1
      have H':=a_ H
      clear H
      have p4:0≤(x3_1:Int):=od_
      have q4:x3_1 < (a0.size:Int):=od_
      have hx4:=bt_at a0 x3_1
      replace p4:=eq_true p4
      replace q4:=eq_true q4
      go_wp2_with (first|((with_reducible refine gC_ (f:=75) rfl ?_);refine gl_ 14 Tryd.func75 #[.int .i64 (wrap64 (bt a0 x3_1)),.int .i64 97,.int .i64 100] ?_;(with_reducible refine (spec_l6In.calls (wrap64 (bt a0 x3_1)) 97 100 true _ A5.out).mono ?_);rintro e w' ⟨rfl,⟨nd,rfl⟩⟩;refine ⟨_,rfl,?_⟩))
      go_roundg k1
      case measure=>have:=HK1.out;omega
      case rel=>exact ⟨(wrap64 (x3_1+1)),(si_),H',⟨by have:=HK1.out;omega⟩,by repeat (first|exact Drawn0.refl _|apply Drawn0.step)⟩
     ·replace c6:=Bool.eq_false_iff.mpr c6
      subst c6
      have H1:(some false)=some r:=by rw [if_neg (show ¬ (false=true) by decide)] at H;exact H
      clear H
      have H:=H1
      clear H1
      obtain rfl:=sj_ H
      have p4:0≤(x3_1:Int):=od_
      have q4:x3_1 < (a0.size:Int):=od_
      have hx4:=bt_at a0 x3_1
      replace p4:=eq_true p4
      replace q4:=eq_true q4
      go_wp2_with (first|((with_reducible refine gC_ (f:=75) rfl ?_);refine gl_ 14 Tryd.func75 #[.int .i64 (wrap64 (bt a0 x3_1)),.int .i64 97,.int .i64 100] ?_;(with_reducible refine (spec_l6In.calls (wrap64 (bt a0 x3_1)) 97 100 false _ A5.out).mono ?_);rintro e w' ⟨rfl,⟨nd,rfl⟩⟩;refine ⟨_,rfl,?_⟩))
      go_ret
      exact ⟨si_,by repeat (first|exact Drawn0.refl _|apply Drawn0.step)⟩
    ·rw [if_neg c3] at H
     exact absurd H (by simp)
   ·rw [if_neg c2] at H
    have c2b0:decide (x3_1 < (a0.size:Int))=false:=df_ c2
    clear c2
    obtain rfl:=sj_ H
    go_wp2
    go_ret
    exact ⟨si_,by repeat (first|exact Drawn0.refl _|apply Drawn0.step)⟩

def spec_RowMade.f (a0:Int) (a1:Int):Option (Int):=(spec_l6In.f a0 1 3).bind fun t169=>(if t169=true then ((spec_l6In.f a1 1 6).bind fun t170=>(if t170=true then (some (wrap64 ((wrap64 (10 * a0))+a1))) else (some 0))) else (some 0))
theorem spec_RowMade.calls (a0:Int) (a1:Int) (r:Int) (w:World) (h:spec_RowMade.f a0 a1=some r) :
  Calls Tryd.prog 143 #[.int .i64 a0,.int .i64 a1] w fun e w'=>e=.returned (.int .i64 r)∧Drawn0 w w':=by
 unfold spec_RowMade.f at h
 have H:=h
 clear h
 replace H:=bs_ H
 obtain ⟨t169,A30,H⟩:=H
 try dsimp only at H
 have A3:=a_ A30
 clear A30
 by_cases c4:t169=true
 ·subst c4
  have H1:((spec_l6In.f a1 1 6).bind fun t170=>(if t170=true then (some (wrap64 ((wrap64 (10 * a0))+a1))) else (some 0)))=some r:=by rw [if_pos rfl] at H;exact H
  clear H
  have H:=H1
  clear H1
  replace H:=bs_ H
  obtain ⟨t170,A50,H⟩:=H
  try dsimp only at H
  have A5:=a_ A50
  clear A50
  by_cases c6:t170=true
  ·subst c6
   have H1:(some (wrap64 ((wrap64 (10 * a0))+a1)))=some r:=by rw [if_pos rfl] at H;exact H
   clear H
   have H:=H1
   clear H1
   obtain rfl:=sj_ H
   go_enter Tryd.func143,Tryd.ntmps143
   go_wp2_with (first|((with_reducible refine gC_ (f:=75) rfl ?_);refine gl_ 6 Tryd.func75 #[.int .i64 a0,.int .i64 1,.int .i64 3] ?_;(with_reducible refine (spec_l6In.calls a0 1 3 true _ A3.out).mono ?_);rintro e w' ⟨rfl,⟨nd,rfl⟩⟩;refine ⟨_,rfl,?_⟩)|(go_at_call 75;(with_reducible refine (spec_l6In.calls a1 1 6 true _ A5.out).mono ?_);rintro e w' ⟨rfl,⟨nd,rfl⟩⟩))
   go_ret
   exact ⟨si_,by repeat (first|exact Drawn0.refl _|apply Drawn0.step)⟩
  ·replace c6:=Bool.eq_false_iff.mpr c6
   subst c6
   have H1:(some 0)=some r:=by rw [if_neg (show ¬ (false=true) by decide)] at H;exact H
   clear H
   have H:=H1
   clear H1
   obtain rfl:=sj_ H
   go_enter Tryd.func143,Tryd.ntmps143
   go_wp2_with (first|((with_reducible refine gC_ (f:=75) rfl ?_);refine gl_ 6 Tryd.func75 #[.int .i64 a0,.int .i64 1,.int .i64 3] ?_;(with_reducible refine (spec_l6In.calls a0 1 3 true _ A3.out).mono ?_);rintro e w' ⟨rfl,⟨nd,rfl⟩⟩;refine ⟨_,rfl,?_⟩)|(go_at_call 75;(with_reducible refine (spec_l6In.calls a1 1 6 false _ A5.out).mono ?_);rintro e w' ⟨rfl,⟨nd,rfl⟩⟩))
   go_ret
   exact ⟨si_,by repeat (first|exact Drawn0.refl _|apply Drawn0.step)⟩
 ·replace c4:=Bool.eq_false_iff.mpr c4
  subst c4
  have H1:(some 0)=some r:=by rw [if_neg (show ¬ (false=true) by decide)] at H;exact H
  clear H
  have H:=H1
  clear H1
  obtain rfl:=sj_ H
  go_enter Tryd.func143,Tryd.ntmps143
  go_wp2_with (first|((with_reducible refine gC_ (f:=75) rfl ?_);refine gl_ 6 Tryd.func75 #[.int .i64 a0,.int .i64 1,.int .i64 3] ?_;(with_reducible refine (spec_l6In.calls a0 1 3 false _ A3.out).mono ?_);rintro e w' ⟨rfl,⟨nd,rfl⟩⟩;refine ⟨_,rfl,?_⟩))
  go_ret
  exact ⟨si_,by repeat (first|exact Drawn0.refl _|apply Drawn0.step)⟩

def spec_l2At.l0:Nat→List (S69)→Int→Int→Option (Int)
 | 0,_,_,_=>none
 | k+1,x0,x1,x5=>if x5 < (x0.length:Int) then (if 0≤x5 then (if ((rd_T69 x0 x5).f0)=x1 then (some x5) else (spec_l2At.l0 k x0 x1 (wrap64 (x5+1)))) else (none)) else (some (-1))
def spec_l2At.f (k:Nat) (l0:List (S69)) (a1:Int):Option (Int):=spec_l2At.l0 k l0 a1 0
theorem spec_l2At.mono_l:∀ k,(∀ y0 y1 y2,LeO (spec_l2At.l0 k y0 y1 y2) (spec_l2At.l0 (k+1) y0 y1 y2))
 | 0=>fun _ _ _ r h=>by simp [spec_l2At.l0] at h
 | k+1=>by
  have ih0:=spec_l2At.mono_l k
  ·intro y0 y1 y2
   unfold spec_l2At.l0
   repeat' first
   | (with_reducible exact ih0 _ _ _)
   | (with_reducible exact LeO.refl _)
   | (with_reducible exact LeO.none _)
   | (with_reducible refine LeO.ite ?_ ?_)
   | (with_reducible refine LeO.bind ?_ (fun _=>?_))
theorem spec_l2At.mono:∀ a0 a1 k,LeO (spec_l2At.f k a0 a1) (spec_l2At.f (k+1) a0 a1):=by
 intro a0 a1 k
 have ih0:=spec_l2At.mono_l k
 unfold spec_l2At.f
 repeat' first
   | (with_reducible exact ih0 _ _ _)
   | (with_reducible exact LeO.refl _)
   | (with_reducible exact LeO.none _)
   | (with_reducible refine LeO.ite ?_ ?_)
   | (with_reducible refine LeO.bind ?_ (fun _=>?_))
theorem spec_l2At.calls (k:Nat) (A0:Option Addr) (c0:Nat) (l0:List (S69)) (a1:Int) (r:Int) (w:World) (hr0:Kd.C k69 w A0 l0.length l0) (hc0:l0.length≤c0) (h:spec_l2At.f k l0 a1=some r) :
  Calls Tryd.prog 145 #[.slice A0 l0.length c0,.int .i64 a1] w fun e w'=>e=.returned (.int .i64 r)∧Drawn0 w w':=by
 have HR0:=a_ hr0
 have HC0:=a_ hc0
 clear hr0 hc0
 unfold spec_l2At.f at h
 have H:=h
 clear h
 have H':=a_ H
 clear H
 go_enter Tryd.func145,Tryd.ntmps145
 go_wp2
 go_loopg [5] k (fun kq v5 w'=>∃ (x5_1:Int),v5=.int .i64 x5_1∧Aside0 (spec_l2At.l0 kq l0 a1 x5_1=some r)∧Aside0 (kq≤k)∧Drawn0 w w')
 case atStart=>exact ⟨(0),(si_),H',⟨Nat.le_refl _⟩,by repeat (first|exact Drawn0.refl _|apply Drawn0.step)⟩
 case round =>
  clear H'
  try clear c1
  try clear p2
  obtain ⟨x5_1,rfl,HA,HK1,⟨m1,rfl⟩⟩:=hrel
  cases gk with
  | zero=>exact absurd HA.out (by simp [spec_l2At.l0])
  | succ k1 =>
   have H:=HA.out
   clear HA
   simp only [spec_l2At.l0] at H
   by_cases c3:x5_1 < (l0.length:Int)
   ·rw [if_pos c3] at H
    have c3b0:decide (x5_1 < (l0.length:Int))=true:=dt_ c3
    clear c3
    by_cases c4:0≤x5_1
    ·rw [if_pos c4] at H
     have c4b0:decide (0≤x5_1)=true:=dt_ c4
     clear c4
     by_cases c5:((rd_T69 l0 x5_1).f0)=a1
     ·rw [if_pos c5] at H
      have c5b0:(((rd_T69 l0 x5_1).f0)==a1)=true:=beq_iff_eq.mpr c5
      have c5b1:(((rd_T69 l0 x5_1).f0) != a1)=false:=be_ c5
      clear c5
      obtain rfl:=sj_ H
      have p171:0≤(x5_1:Int):=od_
      have q171:x5_1 < (l0.length:Int):=od_
      obtain ⟨ad171,e171,hx171_0,hx171_1,hx171_2⟩:=at_T69 HR0.out x5_1 p171 q171
      cases e171
      replace p171:=eq_true p171
      replace q171:=eq_true q171
      go_wp2
      go_ret
      exact ⟨si_,by repeat (first|exact Drawn0.refl _|apply Drawn0.step)⟩
     ·rw [if_neg c5] at H
      have c5b0:(((rd_T69 l0 x5_1).f0)==a1)=false:=bn_ c5
      have c5b1:(((rd_T69 l0 x5_1).f0) != a1)=true:=bne_iff_ne.mpr c5
      have H':=a_ H
      clear H
      have p171:0≤(x5_1:Int):=od_
      have q171:x5_1 < (l0.length:Int):=od_
      obtain ⟨ad171,e171,hx171_0,hx171_1,hx171_2⟩:=at_T69 HR0.out x5_1 p171 q171
      cases e171
      replace p171:=eq_true p171
      replace q171:=eq_true q171
      go_wp2
      go_roundg k1
      case measure=>have:=HK1.out;omega
      case rel=>exact ⟨(wrap64 (x5_1+1)),(si_),H',⟨by have:=HK1.out;omega⟩,by repeat (first|exact Drawn0.refl _|apply Drawn0.step)⟩
    ·rw [if_neg c4] at H
     exact absurd H (by simp)
   ·rw [if_neg c3] at H
    have c3b0:decide (x5_1 < (l0.length:Int))=false:=df_ c3
    clear c3
    obtain rfl:=sj_ H
    go_wp2
    go_ret
    exact ⟨si_,by repeat (first|exact Drawn0.refl _|apply Drawn0.step)⟩

end Go.Proofs.YtdpklbomhdpimaaDoor.P
namespace Go.Proofs.YtdpklbomhdpimaaDoor.P
open Go.RowKit
def owners:List Int:=[0,1,1,1,0,0,0,0,0,0,0,2,2,2,2,2,2,0,0,0,0,3,3,3,3,3,3,0,0,0,0,4,4,4,4,4,4]
def Glob (w:World):Prop:=Lib.TabIs Tryd.prog w "loop.example/plashet/impl.rowOwners" .i64 owners
theorem gOwners:Tryd.prog.globalNamed "loop.example/plashet/impl.rowOwners" = some 0:=by kernel_rfl
theorem Glob.var {w:World} (h:Glob w):w.var? Tryd.prog "loop.example/plashet/impl.rowOwners" = some (owners.map fun z=>Value.int .i64 z).toArray:=h
theorem Glob.lt {w:World} (h:Glob w):0 < w.heap.size:=by
 have h:=h.var
 unfold World.var? at h
 simp only [gOwners,Option.bind_some] at h
 rcases Nat.lt_or_ge 0 w.heap.size with hl|hl
 ·exact hl
 ·rw [Array.getElem?_eq_none hl] at h
  cases h
theorem Glob.below {w w':World} (h:Glob w) (hb:Below w.heap.size w w'):Glob w':=by
 have hl:=h.lt
 have h:=h.var
 unfold Glob Lib.TabIs World.var? at *
 simp only [gOwners,Option.bind_some] at h ⊢
 rw [hb.block _ hl]
 exact h
theorem Glob.drew {w:World} (h:Glob w):Glob w.drew:=by
 have h:=h.var
 unfold Glob Lib.TabIs World.var? at *
 exact h
theorem Glob.drewN {w:World} (h:Glob w) (n:Nat):Glob (w.drewN n):=by
 induction n generalizing w with
 | zero=>exact h
 | succ n ih=>rw [←World.drew_drewN];exact ih h.drew
theorem Glob.cell {w:World} (h:Glob w) (i:Nat) (hi:i < 37):w.cell? ⟨0,i,none⟩=some (.int .i64 (owners.getD i 0)):=by
 have hc:=World.var?_cell gOwners h.var i
 rw [hc]
 have hl:i < owners.length:=hi
 simp [List.getD_eq_getElem?_getD,List.getElem?_eq_getElem hl]
def ownI (id:Int):Int:=if 0≤id∧id < 37 then owners.getD id.toNat 0 else 0
theorem Glob.at_ {w:World} (h:Glob w) (i:Int) (h0:0≤i) (h1:i < 37):w.cell? ⟨0,i.toNat,none⟩=some (.int .i64 (ownI i)):=by
 have:=h.cell i.toNat (by omega)
 rw [ownI,if_pos ⟨h0,h1⟩]
 exact this
theorem owners_range:∀ z∈owners,0≤z∧z≤4:=by decide
theorem ownI_range (i:Int):0≤ownI i∧ownI i≤4:=by
 unfold ownI
 split
 ·rename_i h
  have hl:i.toNat < owners.length:=by have:owners.length=37:=rfl;omega
  rw [List.getD_eq_getElem?_getD,List.getElem?_eq_getElem hl]
  exact owners_range _ (List.getElem_mem hl)
 ·omega
end Go.Proofs.YtdpklbomhdpimaaDoor.P
namespace Go.Proofs.YtdpklbomhdpimaaDoor.P
open Go.RowKit Go.Proofs.YtdpklbomhdpimaaDoorW.PrintWords Go.Proofs.YtdpklbomhdpimaaDoorW.PrintLast
def spec_l2End.l0:Nat→List (S69)→Int→Int→Option (Int)
 | 0,_,_,_=>none
 | k+1,x0,x1,x5=>if x5 < (x0.length:Int) then (if 0≤x5 then (if 0≤x1 then (if x1 < (x0.length:Int) then (if ((rd_T69 x0 x5).f1) > ((rd_T69 x0 x1).f1) then (spec_l2End.l0 k x0 x1 (wrap64 (x5+1))) else (some x5)) else (none)) else (none)) else (none)) else (some x5)
def spec_l2End.f (k:Nat) (l0:List (S69)) (a1:Int):Option (Int):=spec_l2End.l0 k l0 a1 (wrap64 (a1+1))
theorem spec_l2End.mono_l:∀ k,(∀ y0 y1 y2,LeO (spec_l2End.l0 k y0 y1 y2) (spec_l2End.l0 (k+1) y0 y1 y2))
 | 0=>fun _ _ _ r h=>by simp [spec_l2End.l0] at h
 | k+1=>by
  have ih0:=spec_l2End.mono_l k
  ·intro y0 y1 y2
   unfold spec_l2End.l0
   repeat' first
   | (with_reducible exact ih0 _ _ _)
   | (with_reducible exact LeO.refl _)
   | (with_reducible exact LeO.none _)
   | (with_reducible refine LeO.ite ?_ ?_)
   | (with_reducible refine LeO.bind ?_ (fun _=>?_))
theorem spec_l2End.mono:∀ a0 a1 k,LeO (spec_l2End.f k a0 a1) (spec_l2End.f (k+1) a0 a1):=by
 intro a0 a1 k
 have ih0:=spec_l2End.mono_l k
 unfold spec_l2End.f
 repeat' first
   | (with_reducible exact ih0 _ _ _)
   | (with_reducible exact LeO.refl _)
   | (with_reducible exact LeO.none _)
   | (with_reducible refine LeO.ite ?_ ?_)
   | (with_reducible refine LeO.bind ?_ (fun _=>?_))
theorem spec_l2End.calls (k:Nat) (A0:Option Addr) (c0:Nat) (l0:List (S69)) (a1:Int) (r:Int) (w:World) (hr0:Kd.C k69 w A0 l0.length l0) (hc0:l0.length≤c0) (h:spec_l2End.f k l0 a1=some r) :
  Calls Tryd.prog 148 #[.slice A0 l0.length c0,.int .i64 a1] w fun e w'=>e=.returned (.int .i64 r)∧Drawn0 w w':=by
 have HR0:=a_ hr0
 have HC0:=a_ hc0
 clear hr0 hc0
 unfold spec_l2End.f at h
 have H:=h
 clear h
 have H':=a_ H
 clear H
 go_enter Tryd.func148,Tryd.ntmps148
 go_wp2
 repeat (go_quiet (fail);try go_wp2)
 go_loopg [5] k (fun kq v5 w'=>∃ (x5_1:Int),v5=.int .i64 x5_1∧Aside0 (spec_l2End.l0 kq l0 a1 x5_1=some r)∧Aside0 (kq≤k)∧Drawn0 w w')
 case atStart=>exact ⟨(wrap64 (a1+1)),(si_),H',⟨Nat.le_refl _⟩,by repeat (first|exact Drawn0.refl _|apply Drawn0.step)⟩
 case round =>
  clear H'
  try clear c1
  try clear p2
  obtain ⟨x5_1,rfl,HA,HK1,⟨m1,rfl⟩⟩:=hrel
  cases gk with
  | zero=>exact absurd HA.out (by simp [spec_l2End.l0])
  | succ k1 =>
   have H:=HA.out
   clear HA
   simp only [spec_l2End.l0] at H
   by_cases c3:x5_1 < (l0.length:Int)
   ·rw [if_pos c3] at H
    have c3b0:decide (x5_1 < (l0.length:Int))=true:=dt_ c3
    clear c3
    by_cases c4:0≤x5_1
    ·rw [if_pos c4] at H
     have c4b0:decide (0≤x5_1)=true:=dt_ c4
     clear c4
     by_cases c5:0≤a1
     ·rw [if_pos c5] at H
      have c5b0:decide (0≤a1)=true:=dt_ c5
      clear c5
      by_cases c6:a1 < (l0.length:Int)
      ·rw [if_pos c6] at H
       have c6b0:decide (a1 < (l0.length:Int))=true:=dt_ c6
       clear c6
       by_cases c7:((rd_T69 l0 x5_1).f1) > ((rd_T69 l0 a1).f1)
       ·rw [if_pos c7] at H
        have c7b0:decide (((rd_T69 l0 a1).f1) < ((rd_T69 l0 x5_1).f1))=true:=dt_ c7
        clear c7
        have H':=a_ H
        clear H
        have p172:0≤(x5_1:Int):=od_
        have q172:x5_1 < (l0.length:Int):=od_
        obtain ⟨ad172,e172,hx172_0,hx172_1,hx172_2⟩:=at_T69 HR0.out x5_1 p172 q172
        cases e172
        replace p172:=eq_true p172
        replace q172:=eq_true q172
        have p173:0≤(a1:Int):=od_
        have q173:a1 < (l0.length:Int):=od_
        obtain ⟨ad173,e173,hx173_0,hx173_1,hx173_2⟩:=at_T69 HR0.out a1 p173 q173
        obtain rfl:ad172=ad173:=(by injection e173)
        replace p173:=eq_true p173
        replace q173:=eq_true q173
        go_wp2
        repeat (go_quiet (fail);try go_wp2)
        go_roundg k1
        case measure=>have:=HK1.out;omega
        case rel=>exact ⟨(wrap64 (x5_1+1)),(si_),H',⟨by have:=HK1.out;omega⟩,by repeat (first|exact Drawn0.refl _|apply Drawn0.step)⟩
       ·rw [if_neg c7] at H
        have c7b0:decide (((rd_T69 l0 a1).f1) < ((rd_T69 l0 x5_1).f1))=false:=df_ c7
        clear c7
        obtain rfl:=sj_ H
        have p172:0≤(x5_1:Int):=od_
        have q172:x5_1 < (l0.length:Int):=od_
        obtain ⟨ad172,e172,hx172_0,hx172_1,hx172_2⟩:=at_T69 HR0.out x5_1 p172 q172
        cases e172
        replace p172:=eq_true p172
        replace q172:=eq_true q172
        have p173:0≤(a1:Int):=od_
        have q173:a1 < (l0.length:Int):=od_
        obtain ⟨ad173,e173,hx173_0,hx173_1,hx173_2⟩:=at_T69 HR0.out a1 p173 q173
        obtain rfl:ad172=ad173:=(by injection e173)
        replace p173:=eq_true p173
        replace q173:=eq_true q173
        go_wp2
        repeat (go_quiet (fail);try go_wp2)
        go_ret
        exact ⟨si_,by repeat (first|exact Drawn0.refl _|apply Drawn0.step)⟩
      ·rw [if_neg c6] at H
       exact absurd H (by simp)
     ·rw [if_neg c5] at H
      exact absurd H (by simp)
    ·rw [if_neg c4] at H
     exact absurd H (by simp)
   ·rw [if_neg c3] at H
    have c3b0:decide (x5_1 < (l0.length:Int))=false:=df_ c3
    clear c3
    obtain rfl:=sj_ H
    go_wp2
    repeat (go_quiet (fail);try go_wp2)
    go_ret
    exact ⟨si_,by repeat (first|exact Drawn0.refl _|apply Drawn0.step)⟩

def spec_l2Kids.l0:Nat→List (S69)→List Int→Int→Int→Option (List Int)
 | 0,_,_,_,_=>none
 | k+1,x0,x5,x6,x7=>(spec_l2End.f k x0 x6).bind fun t178=>(if x7 < t178 then (if 0≤x7 then (if x7 < (x0.length:Int) then (if 0≤x6 then (if x6 < (x0.length:Int) then (if ((rd_T69 x0 x7).f1)=(wrap64 (((rd_T69 x0 x6).f1)+1)) then (if x5.length < 17592186044416 then (spec_l2Kids.l0 k x0 (x5++[(rd_T69 x0 x7).f0]) x6 (wrap64 (x7+1))) else (none)) else (spec_l2Kids.l0 k x0 x5 x6 (wrap64 (x7+1)))) else (none)) else (none)) else (none)) else (none)) else (some x5))
def spec_l2Kids.f (k:Nat) (l0:List (S69)) (a1:Int):Option (List Int):=(some (([]:List Int):List Int)).bind fun y174=>((spec_l2At.f k l0 a1).bind fun t177=>(if t177 < 0 then (some y174) else (spec_l2Kids.l0 k l0 y174 t177 (wrap64 (t177+1)))))
theorem spec_l2Kids.mono_l:∀ k,(∀ y0 y1 y2 y3,LeO (spec_l2Kids.l0 k y0 y1 y2 y3) (spec_l2Kids.l0 (k+1) y0 y1 y2 y3))
 | 0=>fun _ _ _ _ r h=>by simp [spec_l2Kids.l0] at h
 | k+1=>by
  have ih0:=spec_l2Kids.mono_l k
  ·intro y0 y1 y2 y3
   unfold spec_l2Kids.l0
   repeat' first
   | (with_reducible exact ih0 _ _ _ _)
   | (with_reducible exact spec_l2At.mono _ _ _)
   | (with_reducible exact spec_l2End.mono _ _ _)
   | (with_reducible exact LeO.refl _)
   | (with_reducible exact LeO.none _)
   | (with_reducible refine LeO.ite ?_ ?_)
   | (with_reducible refine LeO.bind ?_ (fun _=>?_))
theorem spec_l2Kids.mono:∀ a0 a1 k,LeO (spec_l2Kids.f k a0 a1) (spec_l2Kids.f (k+1) a0 a1):=by
 intro a0 a1 k
 have ih0:=spec_l2Kids.mono_l k
 unfold spec_l2Kids.f
 repeat' first
   | (with_reducible exact ih0 _ _ _ _)
   | (with_reducible exact spec_l2At.mono _ _ _)
   | (with_reducible exact spec_l2End.mono _ _ _)
   | (with_reducible exact LeO.refl _)
   | (with_reducible exact LeO.none _)
   | (with_reducible refine LeO.ite ?_ ?_)
   | (with_reducible refine LeO.bind ?_ (fun _=>?_))
theorem spec_l2Kids.calls (k:Nat) (A0:Option Addr) (c0:Nat) (l0:List (S69)) (a1:Int) (r:List Int) (w:World) (hr0:Kd.C k69 w A0 l0.length l0) (hc0:l0.length≤c0) (h:spec_l2Kids.f k l0 a1=some r) :
  Calls Tryd.prog 144 #[.slice A0 l0.length c0,.int .i64 a1] w fun e w'=>∃ v0_:Value,e=.returned (v0_)∧Kd.R (Kd.int .i64) 3 w' w.heap.size (fun _=>True) v0_ r∧Below w.heap.size w w':=by
 have HR0:=a_ hr0
 have HC0:=a_ hc0
 clear hr0 hc0
 have HB:=a_ (Below.refl w.heap.size w)
 unfold spec_l2Kids.f at h
 have H:=h
 clear h
 obtain ⟨y174,hy174⟩:∃ y_:List Int,y_=(([]:List Int)):=⟨_,rfl⟩
 replace H:((spec_l2At.f k l0 a1).bind fun t177=>(if t177 < 0 then (some y174) else (spec_l2Kids.l0 k l0 y174 t177 (wrap64 (t177+1)))))=some r:=by first|(rw [hy174];with_reducible exact H)|(have H2_:=(Option.bind_some _ _).symm.trans H;rw [hy174];with_reducible exact H2_)|(have H2_:=(Option.bind_some _ _).symm.trans H;with_reducible exact H2_)|with_reducible exact H|(rw [hy174];exact H)|exact H
 have Ny174:=a_ hy174
 clear hy174
 replace H:=bs_ H
 obtain ⟨t177,A30,H⟩:=H
 try dsimp only at H
 have A3:=a_ A30
 clear A30
 by_cases c4:t177 < 0
 ·rw [if_pos c4] at H
  have c4b0:decide (t177 < 0)=true:=dt_ c4
  clear c4
  obtain rfl:=sj_ H
  go_enter Tryd.func144,Tryd.ntmps144
  go_wp2_with (first|((with_reducible refine gD_ (N:=8) rfl ?_);refine Kd.R_lit (Kd.int .i64) _ 3 ?hg (N:=8) ?hd (xs:=([]:List Int)) (inner:=[]) (ok:=fun _=>True) (okp:=fun _=>True) ?hr ?hp (fun _ hk=>hk) trivial (Below.refl _ _) (Nat.le_refl _) (by simp) ?_;(case hd=>rfl);(case hg=>rfl);(case hr=>first|(go_simp;done)|(go_simp;rfl));(case hp=>exact (Reps.none _ _));intro v175 w5 ho6 hb hg_ hnew_;clear hg_ hnew_;(first|rw [←Ny174.out] at ho6|(simp only [Int.reduceToNat] at ho6;rw [←Ny174.out] at ho6));have HO176:=a_ (Kd.R_lower ho6 (below_size (bel_)));replace HB:=a_ (bS_ (bel_) hb);clear hb ho6)|(go_at_call 145;(with_reducible refine (spec_l2At.calls k _ _ l0 a1 t177 _ ?side1 ?side2 A3.out).mono ?_);(case side1=>exact cp_ HR0.out);(case side2=>exact HC0.out);rintro e w' ⟨rfl,⟨nd,rfl⟩⟩;(try first|exact ⟨rfl,_,World.drewN_drewN _ _ _⟩|exact ⟨rfl,_,Eq.trans (World.drewN_drewN _ _ _) (congrArg (World.drewN _) (Nat.add_assoc _ _ _))⟩)))
  go_ret
  exact ⟨_,fi_,by (with_reducible repeat (first|apply Kd.R_alloc|apply Kd.R_drewN|apply Kd.R_drew));exact HO176.out,bel_⟩
 ·rw [if_neg c4] at H
  have c4b0:decide (t177 < 0)=false:=df_ c4
  clear c4
  have H':=a_ H
  clear H
  go_enter Tryd.func144,Tryd.ntmps144
  go_wp2_with (first|((with_reducible refine gD_ (N:=8) rfl ?_);refine Kd.R_lit (Kd.int .i64) _ 3 ?hg (N:=8) ?hd (xs:=([]:List Int)) (inner:=[]) (ok:=fun _=>True) (okp:=fun _=>True) ?hr ?hp (fun _ hk=>hk) trivial (Below.refl _ _) (Nat.le_refl _) (by simp) ?_;(case hd=>rfl);(case hg=>rfl);(case hr=>first|(go_simp;done)|(go_simp;rfl));(case hp=>exact (Reps.none _ _));intro v175 w7 ho8 hb hg_ hnew_;clear hg_ hnew_;(first|rw [←Ny174.out] at ho8|(simp only [Int.reduceToNat] at ho8;rw [←Ny174.out] at ho8));have HO176:=a_ (Kd.R_lower ho8 (below_size (bel_)));replace HB:=a_ (bS_ (bel_) hb);clear hb ho8)|(go_at_call 145;(with_reducible refine (spec_l2At.calls k _ _ l0 a1 t177 _ ?side1 ?side2 A3.out).mono ?_);(case side1=>exact cp_ HR0.out);(case side2=>exact HC0.out);rintro e w' ⟨rfl,⟨nd,rfl⟩⟩;(try first|exact ⟨rfl,_,World.drewN_drewN _ _ _⟩|exact ⟨rfl,_,Eq.trans (World.drewN_drewN _ _ _) (congrArg (World.drewN _) (Nat.add_assoc _ _ _))⟩)))
  go_loopg [5,7] k (fun kq v5 v7 w'=>∃ (x5_1:List Int) (x7_1:Int),v7=.int .i64 x7_1∧Aside0 (spec_l2Kids.l0 kq l0 x5_1 t177 x7_1=some r)∧Aside0 (kq≤k)∧Aside0 (Kd.R (Kd.int .i64) 3 w' w.heap.size (fun _=>True) v5 x5_1)∧Aside0 (Below w.heap.size w w'))
  case atStart=>exact ⟨(y174),(wrap64 (t177+1)),(si_),H',⟨Nat.le_refl _⟩,⟨by (with_reducible repeat (first|apply Kd.R_alloc|apply Kd.R_drewN|apply Kd.R_drew));exact HO176.out⟩,⟨bel_⟩⟩
  case round =>
   clear H'
   try clear c1
   try clear p2
   try clear c4
   try clear c4b0
   try clear p6
   obtain ⟨x5_1,x7_1,rfl,HA,HK1,HO_5,HB⟩:=hrel
   cases gk with
   | zero=>exact absurd HA.out (by simp [spec_l2Kids.l0])
   | succ k1 =>
    have H:=HA.out
    clear HA
    simp only [spec_l2Kids.l0] at H
    replace H:=bs_ H
    obtain ⟨t178,A90,H⟩:=H
    try dsimp only at H
    have A9:=a_ A90
    clear A90
    by_cases c10:x7_1 < t178
    ·rw [if_pos c10] at H
     have c10b0:decide (x7_1 < t178)=true:=dt_ c10
     clear c10
     by_cases c11:0≤x7_1
     ·rw [if_pos c11] at H
      have c11b0:decide (0≤x7_1)=true:=dt_ c11
      clear c11
      by_cases c12:x7_1 < (l0.length:Int)
      ·rw [if_pos c12] at H
       have c12b0:decide (x7_1 < (l0.length:Int))=true:=dt_ c12
       clear c12
       by_cases c13:0≤t177
       ·rw [if_pos c13] at H
        have c13b0:decide (0≤t177)=true:=dt_ c13
        clear c13
        by_cases c14:t177 < (l0.length:Int)
        ·rw [if_pos c14] at H
         have c14b0:decide (t177 < (l0.length:Int))=true:=dt_ c14
         clear c14
         by_cases c15:((rd_T69 l0 x7_1).f1)=(wrap64 (((rd_T69 l0 t177).f1)+1))
         ·rw [if_pos c15] at H
          have c15b0:(((rd_T69 l0 x7_1).f1)==(wrap64 (((rd_T69 l0 t177).f1)+1)))=true:=beq_iff_eq.mpr c15
          have c15b1:(((rd_T69 l0 x7_1).f1) != (wrap64 (((rd_T69 l0 t177).f1)+1)))=false:=be_ c15
          clear c15
          by_cases c16:x5_1.length < 17592186044416
          ·rw [if_pos c16] at H
           have LMc16:=a_ c16
           clear c16
           obtain ⟨y182,hy182⟩:∃ y_:List Int,y_=(x5_1++[(rd_T69 l0 x7_1).f0]):=⟨_,rfl⟩
           replace H:(spec_l2Kids.l0 k1 l0 y182 t177 (wrap64 (x7_1+1)))=some r:=by first|(rw [hy182];with_reducible exact H)|(have H2_:=(Option.bind_some _ _).symm.trans H;rw [hy182];with_reducible exact H2_)|(have H2_:=(Option.bind_some _ _).symm.trans H;with_reducible exact H2_)|with_reducible exact H|(rw [hy182];exact H)|exact H
           have Ny182:=a_ hy182
           clear hy182
           have H':=a_ H
           clear H
           go_wp2_with (first|(go_at_call 148;(with_reducible refine (spec_l2End.calls k1 _ _ l0 t177 t178 _ ?side1 ?side2 A9.out).mono ?_);(case side1=>exact cp_ HR0.out);(case side2=>exact HC0.out);rintro e w' ⟨rfl,⟨nd,rfl⟩⟩;(try first|exact ⟨rfl,_,World.drewN_drewN _ _ _⟩|exact ⟨rfl,_,Eq.trans (World.drewN_drewN _ _ _) (congrArg (World.drewN _) (Nat.add_assoc _ _ _))⟩);have p179:0≤(x7_1:Int):=od_;have q179:x7_1 < (l0.length:Int):=od_;obtain ⟨ad179,e179,hx179_0,hx179_1,hx179_2⟩:=at_T69 HR0.out x7_1 p179 q179;cases e179;replace hx179_0:=(cb_ HB.out hx179_0 :);replace hx179_1:=(cb_ HB.out hx179_1 :);replace hx179_2:=(cb_ HB.out hx179_2 :);replace p179:=eq_true p179;replace q179:=eq_true q179;have p180:0≤(t177:Int):=od_;have q180:t177 < (l0.length:Int):=od_;obtain ⟨ad180,e180,hx180_0,hx180_1,hx180_2⟩:=at_T69 HR0.out t177 p180 q180;obtain rfl:ad179=ad180:=(by injection e180);replace hx180_0:=(cb_ HB.out hx180_0 :);replace hx180_1:=(cb_ HB.out hx180_1 :);replace hx180_2:=(cb_ HB.out hx180_2 :);replace p180:=eq_true p180;replace q180:=eq_true q180;have p181:0≤(x7_1:Int):=od_;have q181:x7_1 < (l0.length:Int):=od_;obtain ⟨ad181,e181,hx181_0,hx181_1,hx181_2⟩:=at_T69 HR0.out x7_1 p181 q181;obtain rfl:ad179=ad181:=(by injection e181);replace hx181_0:=(cb_ HB.out hx181_0 :);replace hx181_1:=(cb_ HB.out hx181_1 :);replace hx181_2:=(cb_ HB.out hx181_2 :);replace p181:=eq_true p181;replace q181:=eq_true q181)|((with_reducible refine gate_builtin (b:=.append) (xs:=#[.tmp 36,.tmp 42]) rfl ?_);at_builtin;refine Kd.R_append (Kd.int .i64) (w0:=w) w.heap.size rfl (.tmp 36) (.tmp 42) 153 3 (.int .i64 0) 8 rfl Tryd.underlying153 info3 rfl (by decide) (by omega) u5 x5_1 ((rd_T69 l0 x7_1).f0) [.int .i64 ((rd_T69 l0 x7_1).f0)] (fun _=>True) (fun _=>False) rfl rfl ?aP (fun _ hk=>hk.elim) ?aF ?aO ?aB ?aS ?aL ?_;(case aP=>exact rfl);(case aB=>exact (bel_));(case aF=>exact (fun _ _=>trivial));(case aO=>exact (rp_ HO_5.out));(case aS=>exact (below_size (bel_)));(case aL=>have:=LMc16.out;omega);intro v183 w17 ho hb hg hat;rw [←Ny182.out] at ho;replace HB:=a_ (hb);have HO184:=a_ (ho);clear HO_5;clear ho hb hg hat))
           repeat (go_quiet (first|(go_at_call 148;(with_reducible refine (spec_l2End.calls k1 _ _ l0 t177 t178 _ ?side1 ?side2 A9.out).mono ?_);(case side1=>exact cp_ HR0.out);(case side2=>exact HC0.out);rintro e w' ⟨rfl,⟨nd,rfl⟩⟩;(try first|exact ⟨rfl,_,World.drewN_drewN _ _ _⟩|exact ⟨rfl,_,Eq.trans (World.drewN_drewN _ _ _) (congrArg (World.drewN _) (Nat.add_assoc _ _ _))⟩);have p179:0≤(x7_1:Int):=od_;have q179:x7_1 < (l0.length:Int):=od_;obtain ⟨ad179,e179,hx179_0,hx179_1,hx179_2⟩:=at_T69 HR0.out x7_1 p179 q179;cases e179;replace hx179_0:=(cb_ HB.out hx179_0 :);replace hx179_1:=(cb_ HB.out hx179_1 :);replace hx179_2:=(cb_ HB.out hx179_2 :);replace p179:=eq_true p179;replace q179:=eq_true q179;have p180:0≤(t177:Int):=od_;have q180:t177 < (l0.length:Int):=od_;obtain ⟨ad180,e180,hx180_0,hx180_1,hx180_2⟩:=at_T69 HR0.out t177 p180 q180;obtain rfl:ad179=ad180:=(by injection e180);replace hx180_0:=(cb_ HB.out hx180_0 :);replace hx180_1:=(cb_ HB.out hx180_1 :);replace hx180_2:=(cb_ HB.out hx180_2 :);replace p180:=eq_true p180;replace q180:=eq_true q180;have p181:0≤(x7_1:Int):=od_;have q181:x7_1 < (l0.length:Int):=od_;obtain ⟨ad181,e181,hx181_0,hx181_1,hx181_2⟩:=at_T69 HR0.out x7_1 p181 q181;obtain rfl:ad179=ad181:=(by injection e181);replace hx181_0:=(cb_ HB.out hx181_0 :);replace hx181_1:=(cb_ HB.out hx181_1 :);replace hx181_2:=(cb_ HB.out hx181_2 :);replace p181:=eq_true p181;replace q181:=eq_true q181)|((with_reducible refine gate_builtin (b:=.append) (xs:=#[.tmp 36,.tmp 42]) rfl ?_);at_builtin;refine Kd.R_append (Kd.int .i64) (w0:=w) w.heap.size rfl (.tmp 36) (.tmp 42) 153 3 (.int .i64 0) 8 rfl Tryd.underlying153 info3 rfl (by decide) (by omega) u5 x5_1 ((rd_T69 l0 x7_1).f0) [.int .i64 ((rd_T69 l0 x7_1).f0)] (fun _=>True) (fun _=>False) rfl rfl ?aP (fun _ hk=>hk.elim) ?aF ?aO ?aB ?aS ?aL ?_;(case aP=>exact rfl);(case aB=>exact (bel_));(case aF=>exact (fun _ _=>trivial));(case aO=>exact (rp_ HO_5.out));(case aS=>exact (below_size (bel_)));(case aL=>have:=LMc16.out;omega);intro v183 w17 ho hb hg hat;rw [←Ny182.out] at ho;replace HB:=a_ (hb);have HO184:=a_ (ho);clear HO_5;clear ho hb hg hat));try go_wp2_with (first|(go_at_call 148;(with_reducible refine (spec_l2End.calls k1 _ _ l0 t177 t178 _ ?side1 ?side2 A9.out).mono ?_);(case side1=>exact cp_ HR0.out);(case side2=>exact HC0.out);rintro e w' ⟨rfl,⟨nd,rfl⟩⟩;(try first|exact ⟨rfl,_,World.drewN_drewN _ _ _⟩|exact ⟨rfl,_,Eq.trans (World.drewN_drewN _ _ _) (congrArg (World.drewN _) (Nat.add_assoc _ _ _))⟩);have p179:0≤(x7_1:Int):=od_;have q179:x7_1 < (l0.length:Int):=od_;obtain ⟨ad179,e179,hx179_0,hx179_1,hx179_2⟩:=at_T69 HR0.out x7_1 p179 q179;cases e179;replace hx179_0:=(cb_ HB.out hx179_0 :);replace hx179_1:=(cb_ HB.out hx179_1 :);replace hx179_2:=(cb_ HB.out hx179_2 :);replace p179:=eq_true p179;replace q179:=eq_true q179;have p180:0≤(t177:Int):=od_;have q180:t177 < (l0.length:Int):=od_;obtain ⟨ad180,e180,hx180_0,hx180_1,hx180_2⟩:=at_T69 HR0.out t177 p180 q180;obtain rfl:ad179=ad180:=(by injection e180);replace hx180_0:=(cb_ HB.out hx180_0 :);replace hx180_1:=(cb_ HB.out hx180_1 :);replace hx180_2:=(cb_ HB.out hx180_2 :);replace p180:=eq_true p180;replace q180:=eq_true q180;have p181:0≤(x7_1:Int):=od_;have q181:x7_1 < (l0.length:Int):=od_;obtain ⟨ad181,e181,hx181_0,hx181_1,hx181_2⟩:=at_T69 HR0.out x7_1 p181 q181;obtain rfl:ad179=ad181:=(by injection e181);replace hx181_0:=(cb_ HB.out hx181_0 :);replace hx181_1:=(cb_ HB.out hx181_1 :);replace hx181_2:=(cb_ HB.out hx181_2 :);replace p181:=eq_true p181;replace q181:=eq_true q181)|((with_reducible refine gate_builtin (b:=.append) (xs:=#[.tmp 36,.tmp 42]) rfl ?_);at_builtin;refine Kd.R_append (Kd.int .i64) (w0:=w) w.heap.size rfl (.tmp 36) (.tmp 42) 153 3 (.int .i64 0) 8 rfl Tryd.underlying153 info3 rfl (by decide) (by omega) u5 x5_1 ((rd_T69 l0 x7_1).f0) [.int .i64 ((rd_T69 l0 x7_1).f0)] (fun _=>True) (fun _=>False) rfl rfl ?aP (fun _ hk=>hk.elim) ?aF ?aO ?aB ?aS ?aL ?_;(case aP=>exact rfl);(case aB=>exact (bel_));(case aF=>exact (fun _ _=>trivial));(case aO=>exact (rp_ HO_5.out));(case aS=>exact (below_size (bel_)));(case aL=>have:=LMc16.out;omega);intro v183 w17 ho hb hg hat;rw [←Ny182.out] at ho;replace HB:=a_ (hb);have HO184:=a_ (ho);clear HO_5;clear ho hb hg hat)))
           go_roundg k1
           case measure=>have:=HK1.out;omega
           case rel=>exact ⟨(y182),(wrap64 (x7_1+1)),(si_),H',⟨by have:=HK1.out;omega⟩,⟨by (with_reducible repeat (first|apply Kd.R_alloc|apply Kd.R_drewN|apply Kd.R_drew));exact HO184.out⟩,⟨bel_⟩⟩
          ·rw [if_neg c16] at H
           exact absurd H (by simp)
         ·rw [if_neg c15] at H
          have c15b0:(((rd_T69 l0 x7_1).f1)==(wrap64 (((rd_T69 l0 t177).f1)+1)))=false:=bn_ c15
          have c15b1:(((rd_T69 l0 x7_1).f1) != (wrap64 (((rd_T69 l0 t177).f1)+1)))=true:=bne_iff_ne.mpr c15
          have H':=a_ H
          clear H
          go_wp2_with (first|(go_at_call 148;(with_reducible refine (spec_l2End.calls k1 _ _ l0 t177 t178 _ ?side1 ?side2 A9.out).mono ?_);(case side1=>exact cp_ HR0.out);(case side2=>exact HC0.out);rintro e w' ⟨rfl,⟨nd,rfl⟩⟩;(try first|exact ⟨rfl,_,World.drewN_drewN _ _ _⟩|exact ⟨rfl,_,Eq.trans (World.drewN_drewN _ _ _) (congrArg (World.drewN _) (Nat.add_assoc _ _ _))⟩);have p179:0≤(x7_1:Int):=od_;have q179:x7_1 < (l0.length:Int):=od_;obtain ⟨ad179,e179,hx179_0,hx179_1,hx179_2⟩:=at_T69 HR0.out x7_1 p179 q179;cases e179;replace hx179_0:=(cb_ HB.out hx179_0 :);replace hx179_1:=(cb_ HB.out hx179_1 :);replace hx179_2:=(cb_ HB.out hx179_2 :);replace p179:=eq_true p179;replace q179:=eq_true q179;have p180:0≤(t177:Int):=od_;have q180:t177 < (l0.length:Int):=od_;obtain ⟨ad180,e180,hx180_0,hx180_1,hx180_2⟩:=at_T69 HR0.out t177 p180 q180;obtain rfl:ad179=ad180:=(by injection e180);replace hx180_0:=(cb_ HB.out hx180_0 :);replace hx180_1:=(cb_ HB.out hx180_1 :);replace hx180_2:=(cb_ HB.out hx180_2 :);replace p180:=eq_true p180;replace q180:=eq_true q180))
          repeat (go_quiet (first|(go_at_call 148;(with_reducible refine (spec_l2End.calls k1 _ _ l0 t177 t178 _ ?side1 ?side2 A9.out).mono ?_);(case side1=>exact cp_ HR0.out);(case side2=>exact HC0.out);rintro e w' ⟨rfl,⟨nd,rfl⟩⟩;(try first|exact ⟨rfl,_,World.drewN_drewN _ _ _⟩|exact ⟨rfl,_,Eq.trans (World.drewN_drewN _ _ _) (congrArg (World.drewN _) (Nat.add_assoc _ _ _))⟩);have p179:0≤(x7_1:Int):=od_;have q179:x7_1 < (l0.length:Int):=od_;obtain ⟨ad179,e179,hx179_0,hx179_1,hx179_2⟩:=at_T69 HR0.out x7_1 p179 q179;cases e179;replace hx179_0:=(cb_ HB.out hx179_0 :);replace hx179_1:=(cb_ HB.out hx179_1 :);replace hx179_2:=(cb_ HB.out hx179_2 :);replace p179:=eq_true p179;replace q179:=eq_true q179;have p180:0≤(t177:Int):=od_;have q180:t177 < (l0.length:Int):=od_;obtain ⟨ad180,e180,hx180_0,hx180_1,hx180_2⟩:=at_T69 HR0.out t177 p180 q180;obtain rfl:ad179=ad180:=(by injection e180);replace hx180_0:=(cb_ HB.out hx180_0 :);replace hx180_1:=(cb_ HB.out hx180_1 :);replace hx180_2:=(cb_ HB.out hx180_2 :);replace p180:=eq_true p180;replace q180:=eq_true q180));try go_wp2_with (first|(go_at_call 148;(with_reducible refine (spec_l2End.calls k1 _ _ l0 t177 t178 _ ?side1 ?side2 A9.out).mono ?_);(case side1=>exact cp_ HR0.out);(case side2=>exact HC0.out);rintro e w' ⟨rfl,⟨nd,rfl⟩⟩;(try first|exact ⟨rfl,_,World.drewN_drewN _ _ _⟩|exact ⟨rfl,_,Eq.trans (World.drewN_drewN _ _ _) (congrArg (World.drewN _) (Nat.add_assoc _ _ _))⟩);have p179:0≤(x7_1:Int):=od_;have q179:x7_1 < (l0.length:Int):=od_;obtain ⟨ad179,e179,hx179_0,hx179_1,hx179_2⟩:=at_T69 HR0.out x7_1 p179 q179;cases e179;replace hx179_0:=(cb_ HB.out hx179_0 :);replace hx179_1:=(cb_ HB.out hx179_1 :);replace hx179_2:=(cb_ HB.out hx179_2 :);replace p179:=eq_true p179;replace q179:=eq_true q179;have p180:0≤(t177:Int):=od_;have q180:t177 < (l0.length:Int):=od_;obtain ⟨ad180,e180,hx180_0,hx180_1,hx180_2⟩:=at_T69 HR0.out t177 p180 q180;obtain rfl:ad179=ad180:=(by injection e180);replace hx180_0:=(cb_ HB.out hx180_0 :);replace hx180_1:=(cb_ HB.out hx180_1 :);replace hx180_2:=(cb_ HB.out hx180_2 :);replace p180:=eq_true p180;replace q180:=eq_true q180)))
          go_roundg k1
          case measure=>have:=HK1.out;omega
          case rel=>exact ⟨(x5_1),(wrap64 (x7_1+1)),(si_),H',⟨by have:=HK1.out;omega⟩,⟨by (with_reducible repeat (first|apply Kd.R_alloc|apply Kd.R_drewN|apply Kd.R_drew));exact HO_5.out⟩,⟨bel_⟩⟩
        ·rw [if_neg c14] at H
         exact absurd H (by simp)
       ·rw [if_neg c13] at H
        exact absurd H (by simp)
      ·rw [if_neg c12] at H
       exact absurd H (by simp)
     ·rw [if_neg c11] at H
      exact absurd H (by simp)
    ·rw [if_neg c10] at H
     have c10b0:decide (x7_1 < t178)=false:=df_ c10
     clear c10
     obtain rfl:=sj_ H
     go_wp2_with (first|(go_at_call 148;(with_reducible refine (spec_l2End.calls k1 _ _ l0 t177 t178 _ ?side1 ?side2 A9.out).mono ?_);(case side1=>exact cp_ HR0.out);(case side2=>exact HC0.out);rintro e w' ⟨rfl,⟨nd,rfl⟩⟩;(try first|exact ⟨rfl,_,World.drewN_drewN _ _ _⟩|exact ⟨rfl,_,Eq.trans (World.drewN_drewN _ _ _) (congrArg (World.drewN _) (Nat.add_assoc _ _ _))⟩)))
     go_ret
     exact ⟨_,fi_,by (with_reducible repeat (first|apply Kd.R_alloc|apply Kd.R_drewN|apply Kd.R_drew));exact HO_5.out,bel_⟩

end Go.Proofs.YtdpklbomhdpimaaDoor.P
