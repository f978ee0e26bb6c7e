/- Joined by a program (wip/shake.py): the declarations that 'YtlkheeegkifblaaDoorCardFnKeyIn' reaches. -/
import Derived.Below
import Derived.Deep.Draws
import Derived.Deep.AppendLies
import Derived.Maps.AppendAt
import Derived.OwnWalk
import Derived.Laws.BytesArg
import Derived.Laws.MakeOwn
import Derived.Laws.OwnMore
import Derived.Deep.OwnRows
import Derived.Tactics
import Derived.Lib.ConvBytes
import Derived.Laws.Slices
import Derived.WalkKit
import Derived.KernelRfl
import Derived.RowKit3
import Derived.Deep.LoopGhost
import Derived.Deep.QuietTactic
import Derived.BigQuiet
import Derived.WideLaws
import Derived.Deep.DeepCutAuto
import Derived.Deep.CutBlock
import Derived.Deep.RegionHeld3
import Derived.Laws.Rows
import Derived.Lib.AppendStr
import Derived.ArgAppend
import Derived.Laws.IdiomCopy
import Derived.OrdersHeld
import Derived.Laws.BitsLemmas
import Derived.RowKit
import Derived.RegionTactic
import Derived.Outline
import Derived.LoopTactic
import Derived.LaidEqlPtr
import Derived.RangeFuncFrom
import Derived.RangeFuncNested
import Derived.RangeFuncBound
import Derived.RangeFuncCalls
import Derived.RangeFuncLeaves
import Derived.Shelf.Abstract
import Derived.Shelf.RegionOpen
import Derived.OwnWalkIn
import Derived.TacticsInMore
import Derived.LoopNIn
import Derived.LoopIn
import Derived.Lib.LaidTab
import Derived.Lib.Hide
import Derived.Deep.CutRange
import Derived.RangeFuncWrites
import Derived.Laws.EntriesVeiled
import Derived.Maps.OwnOps
import Derived.Maps.OwnSet
import Derived.LaidMore
import Derived.LaidLaws
import Derived.ProofKit
import Derived.ChangeVars
import Derived.ChangeSame
import Derived.OpenShut
import Derived.ShutString
import Derived.ChangeOld
import Derived.SizedLaws
import Derived.SevenTiedAt
import Derived.Test.YtlkheeegkifblaaDoorCards
import Derived.Test.YtlkheeegkifblaaDoorRows
import Derived.Test.YtlkheeegkifblaaDoorTie
import Derived.Test.YtlkheeegkifblaaDoorZFqV
import Derived.Test.YtlkheeegkifblaaDoorWSized
set_option linter.unusedVariables false
set_option linter.unusedSimpArgs false
set_option linter.unusedSectionVars false
set_option maxHeartbeats 8000000
set_option maxRecDepth 100000
namespace Go.Proofs.YtlkheeegkifblaaDoor.P
open Go.RowKit Go.Proofs.YtlkheeegkifblaaDoorW.PrintWords Go.Proofs.YtlkheeegkifblaaDoorW.PrintLast Go.Proofs.YtlkheeegkifblaaDoorW.PrintMore
theorem a_ {p:Prop} (h:p):Aside0 p:=⟨h⟩
theorem dt_ {p:Prop} [Decidable p] (h:p):decide p=true:=decide_eq_true h
theorem df_ {p:Prop} [Decidable p] (h:¬ p):decide p=false:=decide_eq_false h
theorem bs_ {α β:Type} {o:Option α} {f:α→Option β} {b:β} (h:o.bind f=some b):∃ a,o=some a∧f a=some b:=Option.bind_eq_some_iff.mp h
theorem sj_ {α:Type} {a b:α} (h:some a=some b):a=b:=Option.some.inj h
theorem bl_ (w:World) (a:Addr) {v:Value} (h:w.cell? a=some v):a.block < w.heap.size:=World.block_lt_of_cell? w a h
theorem bn_ {α:Type} [BEq α] [LawfulBEq α] {a b:α} (h:a≠b):(a==b)=false:=beq_eq_false_iff_ne.mpr h
theorem be_ {α:Type} [BEq α] [LawfulBEq α] {a b:α} (h:a=b):(a != b)=false:=bne_eq_false_iff_eq.mpr h
theorem bel_ {p:Prop} (h:p:=by repeat (first|(with_reducible first|exact HB.out|apply wA_|apply pw_below_drewN|apply below_drew1|refine wS_ ?_ (Aside0.out (by assumption))|refine wS_ ?_ (IsS102.ge (Aside0.out (by assumption))))|exact HB.out)):p:=h
theorem bp_ {p q:Prop} (h:p) (f:p→q:=by intro h_;(with_reducible repeat (first|refine bN_ ?_ _|refine bD_ ?_|refine bA_ ?_ _));exact h_):q:=f h
theorem rp_ {p q:Prop} (h:p) (f:p→q:=by intro h_;(with_reducible repeat (first|apply Kd.R_alloc|apply Kd.R_drewN|apply Kd.R_drew));exact h_):q:=f h
theorem ar_ {p:Prop} (h:p:=by (try simp only [List.map_toArray,List.map_cons,List.map_nil]);first|done|rfl|(simp only [List.length_drop,List.length_take];rfl)):p:=h
theorem fi_ {p:Prop} (h:p:=by first|rfl|(simp [errW_none,errW_some] <;> rfl)|(simp [*,errW_none,errW_some] <;> rfl)):p:=h
theorem cp_ {p q:Prop} (h:p) (f:p→q:=by intro h_;repeat (first|exact (Kd.C_below h_ HB.out)|(with_reducible refine Kd.C_alloc ?_ _)|(with_reducible refine Kd.C_drewN ?_ _)|(with_reducible refine Kd.C_drew ?_))):q:=f h
theorem ke_ {p:Prop} (h:p:=by repeat (first|(with_reducible first|exact HK.out|apply KeepBut.set_|apply keep_drewN|apply keep_drew|apply keep_alloc)|exact HK.out)):p:=h
theorem kf_ {w w1 W:World} {g:Nat} {row:Option Nat} (h0:KeepBut w w1 g row) (h:KeepBut w W g row:=by repeat (first|(with_reducible first|exact HK.out|apply KeepBut.set_|apply keep_drewN|apply keep_drew|apply keep_alloc|refine keep_far ?_ (Aside0.out (by assumption)) _)|exact HK.out)):KeepBut w W g row:=h
theorem qp_ {p q:Prop} (h:p) (f:p→q:=by intro h_;(with_reducible repeat (first|apply Kd.Q_alloc|apply Kd.Q_drewN|apply Kd.Q_drew));exact h_):q:=f h
theorem cz_ {W:World} {g:Nat} {t:TypeId} {cs:Array Value} (h:W.heap[g]?=some (.cells cs t (0,0))) (i:Nat) (v:Value) (hv:cs[i]?=some v:=by exact rfl):W.cell? ⟨g,i,none⟩=some v:=(bC_ h i).trans hv
theorem kb_ {w w1 W0:World} {g g':Nat} {o:Obj} (hk:KeepBut w w1 g none) (h0:W0.heap[g']?=some o) (hn:g'≠g) (f:W0.heap[g']?=some o→w.heap[g']?=some o:=by intro h_;(with_reducible repeat (first|refine bN_ ?_ _|refine bD_ ?_|refine bA_ ?_ _));exact h_):w1.heap[g']?=some o:=hk.blk (f h0) hn (by simp)
theorem bb_ {w w1 W0:World} {g:Nat} {o:Obj} (h0:W0.heap[g]?=some o) (hb:Below w.heap.size w w1) (f:W0.heap[g]?=some o→w.heap[g]?=some o:=by intro h_;(with_reducible repeat (first|refine bN_ ?_ _|refine bD_ ?_|refine bA_ ?_ _));exact h_):w1.heap[g]?=some o:=blk_below (f h0) hb
theorem bx_ {P:Program} {ops:Array Oper} {Q:Exit→Act→World→Prop} {rest:List Oper} {o:Oper} {a:Act} {W:World} (N:Tmp) (cs:Array Value) (t:TypeId)
    (h:∀ g,g=W.heap.size→∀ w1,w1.heap[g]?=some (.cells cs t (0,0))→Below W.heap.size W w1→wpList P ops Q rest (a.put o.dst (.pointer (some ⟨g,0,none⟩))) w1) (hd:o.dst=some N:=by exact rfl) (hg:o.guard=none:=by exact rfl)
    (hr:(execOp a.eval o).run P W=.ok (.value (.pointer (some ⟨W.heap.size,0,none⟩))) (W.alloc (.cells cs t (0,0))):=by first|(go_simp;done)|(go_simp;rfl)):wpList P ops Q (o::rest) a W:=box_event hg hd hr h
theorem cx_ {p q:Prop} (h:p) (f:p→q:=by intro h_;repeat (first|exact h_|(with_reducible refine Kd.C_alloc ?_ _)|(with_reducible refine Kd.C_drewN ?_ _)|(with_reducible refine Kd.C_drew ?_))):q:=f h
theorem hg_ {p:Prop} (h:p:=by repeat (first|(with_reducible first|exact HG.out|apply Glob.drewN|apply Glob.drew)|exact HG.out)):p:=h
theorem od_ {p:Prop} [d:Decidable p] (h:decide p=true:=by first|(with_reducible assumption)|assumption):p:=of_decide_eq_true h
theorem si_ {p:Prop} (h:p:=by first|rfl|(simp;done)|(simp [*];done)):p:=h
theorem cb_ {w w':World} {p:Addr} {v:Value} (hb:Below w.heap.size w w') (h:w.cell? p=some v):w'.cell? p=some v:=(hb.cell (bl_ w _ h)).trans h
theorem gl_ {P:Program} {ops:Array Oper} {Q:Exit→Act→World→Prop} {rest:List Oper} {oi:Oper} {a:Act} {w:World} (n:Tmp) {f:FuncId} {fn:Func} (hf:P.funcs[f]?=some fn) (args:Array Value) {as_:Array Operand} {ts:Array TypeId}
    (h:Calls P f args w fun e w'=>∃ v,e=.returned v∧wpList P ops Q rest (a.put (some n) v) w') (hd:oi.dst=some n:=by exact rfl) (hg:oi.guard=none:=by exact rfl)
    (hname:(fn.name == "runtime.NumGoroutine")=false:=by kernel_rfl) (hb:fn.body.isSome=true:=by exact rfl) (hop:oi.op=.call { callee:=.value (.func f),args:=as_,argTypes:=ts }:=by exact rfl)
    (hargs:as_.map a.eval=args:=by (try simp only [List.map_toArray,List.map_cons,List.map_nil]);first|done|rfl|(simp only [List.length_drop,List.length_take];rfl)):wpList P ops Q (oi::rest) a w:=goesL_ (some n) hd hg hf hname hb args hop hargs h
theorem pa_ {P:Program} {md:Region.Mode} {ops:Array Oper} {Q:Exit→Act→World→Prop} {S:World→Prop} {ds:List Nat} (i:Nat) (n:Tmp) {oi:Oper} {v:Value} {fuel:Nat} {l:Array Bool} {a:Act} {w:World} {a':Act}
    (h:wpAnyLast P md ops Q S ds fuel (l.setIfInBounds i true) a' w) (hi:ops[i]?=some oi:=by exact rfl) (hN:oi.dst=some n:=by exact rfl) (hc:anyB md ops l (l.setIfInBounds i true) i=true:=by exact any_of HT_.out (by kernel_rfl))
    (hQ:∀ c a w,Q (.panic c) (a.put oi.dst v) w→Q (.panic c) a w:=by exact fun _ _ _ h=>h) (hy:Yields P ops oi v a:=by exact Or.inl ⟨by rfl,by intro w';go_simp;with_reducible rfl⟩)
    (ha:a.put (some n) v=a':=by simp only [Act.put,List.setIfInBounds_toArray,List.set_cons_zero,List.set_cons_succ,i64_w,i32_w];rfl):wpAnyLast P md ops Q S ds (fuel+1) l a w:=pure_ _ hi hN hc hQ hy ha h
theorem po_ {P:Program} {md:Region.Mode} {ops:Array Oper} {Q:Exit→Act→World→Prop} {S:World→Prop} {ds:List Nat} (i:Nat) (n:Tmp) {oi:Oper} {fuel:Nat} {l:Array Bool} {a:Act} {w:World} {a':Act}
    (h:wpAnyLast P md ops Q S ds fuel (l.setIfInBounds i true) a' w) (hi:ops[i]?=some oi:=by exact rfl) (hN:oi.dst=some n:=by exact rfl) (hc:anyB md ops l (l.setIfInBounds i true) i=true:=by exact any_of HT_.out (by kernel_rfl))
    (hQ:∀ c a w,Q (.panic c) (a.put oi.dst undef) w→Q (.panic c) a w:=by exact fun _ _ _ h=>h) (hy:Yields P ops oi undef a:=by exact Or.inr ⟨by rfl,rfl⟩)
    (ha:a.put (some n) undef=a':=by simp only [Act.put,List.setIfInBounds_toArray,List.set_cons_zero,List.set_cons_succ,i64_w,i32_w];rfl):wpAnyLast P md ops Q S ds (fuel+1) l a w:=pure_ _ hi hN hc hQ hy ha h
theorem on_ {P:Program} {md:Region.Mode} {ops:Array Oper} {Q:Exit→Act→World→Prop} {S:World→Prop} {ds:List Nat} (i:Nat) (n:Tmp) {oi:Oper} {fuel:Nat} {l:Array Bool} {a:Act} {w:World}
    (h:∀ K:Act→World→Prop,Shut (∀ a' w',S w'→(S w'→wpAnyLast P md ops Q S ds fuel (l.setIfInBounds i true) a' w')→K a' w')→if Region.wanted oi (yielded ops a.tmps)=true then Oper.wp P oi a w K Q else K (a.put (some n) undef) w)
    (hi:ops[i]?=some oi:=by exact rfl) (hN:oi.dst=some n:=by exact rfl) (hc:readyB md ops l (l.setIfInBounds i true) i=true:=by exact one_of HT_.out (by kernel_rfl)) (hd:i∉ds:=by decide):wpAnyLast P md ops Q S ds (fuel+1) l a w:=one_ _ hi hN hc hd h
theorem no_ (n:Tmp) {P:Program} {md:Region.Mode} {ops:Array Oper} {Q:Exit→Act→World→Prop} {S:World→Prop} {ds:List Nat} {fuel:Nat} {l:Array Bool} {a a':Act} {v:Value} {w:World} (h:wpAnyLast P md ops Q S ds fuel l a' w)
    (ha:a.put (some n) v=a':=by simp only [Act.put,List.setIfInBounds_toArray,List.set_cons_zero,List.set_cons_succ,i64_w,i32_w];rfl):wpAnyLast P md ops Q S ds fuel l (a.put (some n) v) w:=norm_ ha h
theorem ta3_ {P:Program} {md:Region.Mode} {ops:Array Oper} {Q:Exit→Act→World→Prop} {S:World→Prop} {ds:List Nat} (i:Nat) (n:Tmp) {oi:Oper} {v:Value} {fuel:Nat} {l:Array Bool} {a:Act} {w:World} {a':Act} (hS:S w)
    (h:wpAnyLast P md ops Q S ds fuel (l.setIfInBounds i true) a' w) (hi:ops[i]?=some oi:=by exact rfl) (hN:oi.dst=some n:=by exact rfl) (hc:takeB md ops ds l (l.setIfInBounds i true) i=true:=by exact take_ofW HT_.out HW_.out (by kernel_rfl))
    (hQ:∀ c a w,Q (.panic c) (a.put oi.dst v) w→Q (.panic c) a w:=by exact fun _ _ _ h=>h) (hy:YieldsIf P ops S oi v a:=by exact Or.inl ⟨by rfl,by rintro w' ⟨s0,s1,s2⟩;go_simp;with_reducible rfl⟩)
    (ha:a.put (some n) v=a':=by simp only [Act.put,List.setIfInBounds_toArray,List.set_cons_zero,List.set_cons_succ,i64_w,i32_w];rfl):wpAnyLast P md ops Q S ds (fuel+1) l a w:=take_ _ hi hN hc hQ hy hS ha h
theorem ta6_ {P:Program} {md:Region.Mode} {ops:Array Oper} {Q:Exit→Act→World→Prop} {S:World→Prop} {ds:List Nat} (i:Nat) (n:Tmp) {oi:Oper} {v:Value} {fuel:Nat} {l:Array Bool} {a:Act} {w:World} {a':Act} (hS:S w)
    (h:wpAnyLast P md ops Q S ds fuel (l.setIfInBounds i true) a' w) (hi:ops[i]?=some oi:=by exact rfl) (hN:oi.dst=some n:=by exact rfl) (hc:takeB md ops ds l (l.setIfInBounds i true) i=true:=by exact take_ofW HT_.out HW_.out (by kernel_rfl))
    (hQ:∀ c a w,Q (.panic c) (a.put oi.dst v) w→Q (.panic c) a w:=by exact fun _ _ _ h=>h) (hy:YieldsIf P ops S oi v a:=by exact Or.inl ⟨by rfl,by rintro w' ⟨s0,s1,s2,s3,s4,s5⟩;go_simp;with_reducible rfl⟩)
    (ha:a.put (some n) v=a':=by simp only [Act.put,List.setIfInBounds_toArray,List.set_cons_zero,List.set_cons_succ,i64_w,i32_w];rfl):wpAnyLast P md ops Q S ds (fuel+1) l a w:=take_ _ hi hN hc hQ hy hS ha h
theorem ta9_ {P:Program} {md:Region.Mode} {ops:Array Oper} {Q:Exit→Act→World→Prop} {S:World→Prop} {ds:List Nat} (i:Nat) (n:Tmp) {oi:Oper} {v:Value} {fuel:Nat} {l:Array Bool} {a:Act} {w:World} {a':Act} (hS:S w)
    (h:wpAnyLast P md ops Q S ds fuel (l.setIfInBounds i true) a' w) (hi:ops[i]?=some oi:=by exact rfl) (hN:oi.dst=some n:=by exact rfl) (hc:takeB md ops ds l (l.setIfInBounds i true) i=true:=by exact take_ofW HT_.out HW_.out (by kernel_rfl))
    (hQ:∀ c a w,Q (.panic c) (a.put oi.dst v) w→Q (.panic c) a w:=by exact fun _ _ _ h=>h) (hy:YieldsIf P ops S oi v a:=by exact Or.inl ⟨by rfl,by rintro w' ⟨s0,s1,s2,s3,s4,s5,s6,s7,s8⟩;go_simp;with_reducible rfl⟩)
    (ha:a.put (some n) v=a':=by simp only [Act.put,List.setIfInBounds_toArray,List.set_cons_zero,List.set_cons_succ,i64_w,i32_w];rfl):wpAnyLast P md ops Q S ds (fuel+1) l a w:=take_ _ hi hN hc hQ hy hS ha h
theorem op3_ {W:World} {g:Nat} {t:TypeId} {v0 v1 v2:Value} (h:W.heap[g]?=some (.cells #[v0,v1,v2] t (0,0))):W.cell? ⟨g,0,none⟩=some v0∧W.cell? ⟨g,1,none⟩=some v1∧W.cell? ⟨g,2,none⟩=some v2∧W.frozen? ⟨g,0,none⟩=false∧W.frozen? ⟨g,1,none⟩=false∧W.frozen? ⟨g,2,none⟩=false:=⟨(bC_ h 0).trans rfl,(bC_ h 1).trans rfl,(bC_ h 2).trans rfl,bF_ h 0,bF_ h 1,bF_ h 2⟩
theorem op5_ {W:World} {g:Nat} {t:TypeId} {v0 v1 v2 v3 v4:Value} (h:W.heap[g]?=some (.cells #[v0,v1,v2,v3,v4] t (0,0))):W.cell? ⟨g,0,none⟩=some v0∧W.cell? ⟨g,1,none⟩=some v1∧W.cell? ⟨g,2,none⟩=some v2∧W.cell? ⟨g,3,none⟩=some v3∧W.cell? ⟨g,4,none⟩=some v4∧W.frozen? ⟨g,0,none⟩=false∧W.frozen? ⟨g,1,none⟩=false∧W.frozen? ⟨g,2,none⟩=false∧W.frozen? ⟨g,3,none⟩=false∧W.frozen? ⟨g,4,none⟩=false:=⟨(bC_ h 0).trans rfl,(bC_ h 1).trans rfl,(bC_ h 2).trans rfl,(bC_ h 3).trans rfl,(bC_ h 4).trans rfl,bF_ h 0,bF_ h 1,bF_ h 2,bF_ h 3,bF_ h 4⟩
theorem bk5_ {W:World} {g:Nat} {t:TypeId} {a0 a1 a2 a3 a4 b0 b1 b2 b3 b4:Value} (h:W.heap[g]?=some (.cells #[b0,b1,b2,b3,b4] t (0,0))):(((((W.setCell ⟨g,0,none⟩ a0).setCell ⟨g,1,none⟩ a1).setCell ⟨g,2,none⟩ a2).setCell ⟨g,3,none⟩ a3).setCell ⟨g,4,none⟩ a4).heap[g]?=some (.cells #[a0,a1,a2,a3,a4] t (0,0)):=blk_put (cs:=#[a0,a1,a2,a3,b4]) (blk_put (cs:=#[a0,a1,a2,b3,b4]) (blk_put (cs:=#[a0,a1,b2,b3,b4]) (blk_put (cs:=#[a0,b1,b2,b3,b4]) (blk_put (cs:=#[b0,b1,b2,b3,b4]) h 0 _ rfl) 1 _ rfl) 2 _ rfl) 3 _ rfl) 4 _ rfl
end Go.Proofs.YtlkheeegkifblaaDoor.P
namespace Go.Proofs.YtlkheeegkifblaaDoor.P
open Go.RowKit Go.Proofs.YtlkheeegkifblaaDoorW.PrintWords Go.Proofs.YtlkheeegkifblaaDoorW.PrintLast
def errW:Option Int→Value
 | none=>.nilIface
 | some c=>.iface 0 (.int .i64 c)
theorem errW_none:errW none=.nilIface:=rfl
theorem errW_some (c:Int):errW (some c)=.iface 0 (.int .i64 c):=rfl

theorem info3:(Tryd.prog.info? 3).map (fun i=>(i.zero,i.size,i.bytes))=some (some (.int .i64 0),1,8):=by kernel_rfl
theorem info5:(Tryd.prog.info? 5).map (fun i=>(i.zero,i.size,i.bytes))=some (some (.int .u8 0),1,1):=by kernel_rfl
theorem info37:(Tryd.prog.info? 37).map (fun i=>(i.zero,i.size,i.bytes))=some (some (.agg #[(.int .i64 0),(.int .i64 0),(.string ⟨#[]⟩)]),3,32):=by kernel_rfl
structure S37 where
 f0:Int
 f1:Int
 f2:ByteArray
def z37:S37:=⟨(0:Int),(0:Int),(⟨#[]⟩:ByteArray)⟩
def k37:Kd S37:=Kd.iso (Kd.pair (Kd.int .i64) (Kd.pair (Kd.int .i64) Kd.string)) (fun x:S37=>(x.f0,x.f1,x.f2))
theorem k37_open {w:World} {x:S37} {cs:List Value} (h:k37.K w x cs):cs=[.int .i64 x.f0,.int .i64 x.f1,.string x.f2]:=by
 obtain ⟨_,_,rfl,rfl,⟨_,_,rfl,rfl,rfl⟩⟩:=h
 exact rfl
theorem k37_openM {w:World} {base:Nat} {ok:Nat→Prop} {x:S37} {cs:List Value} (h:k37.M w base ok x cs):cs=[.int .i64 x.f0,.int .i64 x.f1,.string x.f2]:=by
 obtain ⟨_,_,rfl,rfl,⟨_,_,rfl,rfl,rfl⟩⟩:=h
 exact rfl
theorem k37_mkM (w:World) (base:Nat) (ok:Nat→Prop) (x:S37)  : k37.M w base ok x [.int .i64 x.f0,.int .i64 x.f1,.string x.f2]:=⟨[.int .i64 x.f0],[.int .i64 x.f1,.string x.f2],rfl,rfl,⟨[.int .i64 x.f1],[.string x.f2],rfl,rfl,rfl⟩⟩
def rd_T37 (xs:List S37) (i:Int):S37:=xs.getD i.toNat z37
theorem at_T37 {w:World} {A:Option Addr} {n:Nat} {xs:List S37} (h:Kd.C k37 w A n xs) (i:Int) (h0:0≤i) (h1:i < n):∃ ad ,A=some ad∧w.cell? (ad.add (i.toNat * 3))=some (.int .i64 (rd_T37 xs i).f0)∧w.cell? ⟨(ad.add (i.toNat * 3)).block,(ad.add (i.toNat * 3)).off+1,none⟩=some (.int .i64 (rd_T37 xs i).f1)∧w.cell? ⟨(ad.add (i.toNat * 3)).block,(ad.add (i.toNat * 3)).off+2,none⟩=some (.string (rd_T37 xs i).f2):=by
 obtain ⟨ad,c,e,_,hK,hc0⟩:=Kd.C_get h z37 i h0 h1
 have hc:∀ j u,c[j]?=some u→w.cell? (ad.add (i.toNat * 3+j))=some u:=hc0
 obtain rfl:=k37_open hK
 exact ⟨ad,e,hc 0 _ rfl,by rw [←add_field _ _ 1 (by omega)];exact hc 1 _ rfl,by rw [←add_field _ _ 2 (by omega)];exact hc 2 _ rfl⟩

end Go.Proofs.YtlkheeegkifblaaDoor.P
namespace Go.Proofs.YtlkheeegkifblaaDoor.FP
open Go.Proofs.YtlkheeegkifblaaDoor.P
inductive Fo where
 | nil
 | nd (i:Nat) (t:ByteArray) (k n:Fo)
structure Nd where
 t:ByteArray
 up:Nat
 first:Nat
 next:Nat
def Fo.hd:Fo→Nat
 | .nil=>0
 | .nd i _ _ _=>i
def Fo.ids:Fo→List Nat
 | .nil=>[]
 | .nd i _ k n=>i::(k.ids++n.ids)
def Fo.tops:Fo→List Nat
 | .nil=>[]
 | .nd i _ _ n=>i::n.tops
def Fo.fl (d:Nat):Fo→List S37
 | .nil=>[]
 | .nd i t k n=>⟨(i:Int),(d:Int),t⟩::(k.fl (d+1)++n.fl d)
def Rep (h:Nat→Nd) (up:Nat):Fo→Prop
 | .nil=>True
 | .nd i t k n=>i≠0∧h i=⟨t,up,k.hd,n.hd⟩∧Rep h i k∧Rep h up n
def insAfter (a i:Nat) (t:ByteArray) (s:Fo):Fo→Fo
 | .nil=>.nil
 | .nd j u k n=>if j=a then .nd j u k (.nd i t s n) else .nd j u (insAfter a i t s k) (insAfter a i t s n)
def insFirst (p i:Nat) (t:ByteArray) (s:Fo):Fo→Fo
 | .nil=>.nil
 | .nd j u k n=>if j=p then .nd j u (.nd i t s k) n else .nd j u (insFirst p i t s k) (insFirst p i t s n)
def del (x:Nat):Fo→Fo
 | .nil=>.nil
 | .nd j u k n=>if j=x then n else .nd j u (del x k) (del x n)
def sub (x:Nat):Fo→Fo
 | .nil=>.nil
 | .nd j u k n=>if j=x then k else if x∈k.ids then sub x k else sub x n
def attachH (h:Nat→Nd) (i up a:Nat):Nat→Nd:=fun j =>
 if a=0 then
  if j=up then ⟨(h up).t,(h up).up,i,(h up).next⟩ else if j=i then ⟨(h i).t,up,(h i).first,(h up).first⟩ else h j
 else
  if j=a then ⟨(h a).t,(h a).up,(h a).first,i⟩ else if j=i then ⟨(h i).t,up,(h i).first,(h a).next⟩ else h j
def detachH (h:Nat→Nd) (x a:Nat):Nat→Nd:=fun j =>
 if j=x then ⟨(h x).t,0,(h x).first,0⟩
 else if a=0 then (if j=(h x).up then ⟨(h j).t,(h j).up,(h x).next,(h j).next⟩ else h j)
 else (if j=a then ⟨(h j).t,(h j).up,(h j).first,(h x).next⟩ else h j)
theorem Rep.ext {h h':Nat→Nd} {up:Nat}:∀ {F:Fo},Rep h up F→(∀ i∈F.ids,h' i=h i)→Rep h' up F
 | .nil,_,_=>trivial
 | .nd i t k n,⟨h1,h2,h3,h4⟩,e=>⟨h1,(e i (by simp [Fo.ids])).trans h2,Rep.ext h3 fun j hj=>e j (by simp [Fo.ids,hj]),Rep.ext h4 fun j hj=>e j (by simp [Fo.ids,hj])⟩
theorem Rep.ne0 {h:Nat→Nd} {up:Nat}:∀ {F:Fo},Rep h up F→∀ i∈F.ids,i≠0
 | .nil,_,i,hi=>by simp [Fo.ids] at hi
 | .nd j t k n,⟨h1,h2,h3,h4⟩,i,hi=>by
  simp only [Fo.ids,List.mem_cons,List.mem_append] at hi
  rcases hi with rfl|hi|hi
  ·exact h1
  ·exact Rep.ne0 h3 i hi
  ·exact Rep.ne0 h4 i hi
theorem attachH_zero (h:Nat→Nd) (i up:Nat) (j:Nat):attachH h i up 0 j=if j=up then ⟨(h up).t,(h up).up,i,(h up).next⟩ else if j=i then ⟨(h i).t,up,(h i).first,(h up).first⟩ else h j:=rfl
theorem attachH_pos (h:Nat→Nd) (i up a:Nat) (ha:a≠0) (j:Nat):attachH h i up a j=if j=a then ⟨(h a).t,(h a).up,(h a).first,i⟩ else if j=i then ⟨(h i).t,up,(h i).first,(h a).next⟩ else h j:=if_neg ha
theorem detachH_self (h:Nat→Nd) (x a:Nat):detachH h x a x=⟨(h x).t,0,(h x).first,0⟩:=if_pos rfl
theorem detachH_zero (h:Nat→Nd) (x:Nat) {j:Nat} (e:j≠x):detachH h x 0 j=if j=(h x).up then ⟨(h j).t,(h j).up,(h x).next,(h j).next⟩ else h j:=by unfold detachH;rw [if_neg e,if_pos rfl]
theorem detachH_pos (h:Nat→Nd) (x a:Nat) (ha:a≠0) {j:Nat} (e:j≠x):detachH h x a j=if j=a then ⟨(h j).t,(h j).up,(h j).first,(h x).next⟩ else h j:=by unfold detachH;rw [if_neg e,if_neg ha]
structure Free (h:Nat→Nd) (i:Nat) (t:ByteArray) (s:Fo):Prop where
 ne:i≠0
 t:(h i).t=t
 first:(h i).first=s.hd
 rep:Rep h i s
 out:i∉s.ids
theorem insAfter_id (a i:Nat) (t:ByteArray) (s:Fo):∀ {F:Fo},a∉F.ids→insAfter a i t s F=F
 | .nil,_=>rfl
 | .nd j u k n,h=>by
  simp only [Fo.ids,List.mem_cons,List.mem_append,not_or] at h
  unfold insAfter
  rw [if_neg (fun e=>h.1 e.symm),insAfter_id a i t s h.2.1,insAfter_id a i t s h.2.2]
theorem insFirst_id (p i:Nat) (t:ByteArray) (s:Fo):∀ {F:Fo},p∉F.ids→insFirst p i t s F=F
 | .nil,_=>rfl
 | .nd j u k n,h=>by
  simp only [Fo.ids,List.mem_cons,List.mem_append,not_or] at h
  unfold insFirst
  rw [if_neg (fun e=>h.1 e.symm),insFirst_id p i t s h.2.1,insFirst_id p i t s h.2.2]
theorem del_id (x:Nat):∀ {F:Fo},x∉F.ids→del x F=F
 | .nil,_=>rfl
 | .nd j u k n,h=>by
  simp only [Fo.ids,List.mem_cons,List.mem_append,not_or] at h
  unfold del
  rw [if_neg (fun e=>h.1 e.symm),del_id x h.2.1,del_id x h.2.2]
theorem insAfter_hd (a i:Nat) (t:ByteArray) (s:Fo):∀ (F:Fo),(insAfter a i t s F).hd=F.hd
 | .nil=>rfl
 | .nd j u k n=>by unfold insAfter;split <;> rfl
theorem insFirst_hd (p i:Nat) (t:ByteArray) (s:Fo):∀ (F:Fo),(insFirst p i t s F).hd=F.hd
 | .nil=>rfl
 | .nd j u k n=>by unfold insFirst;split <;> rfl
theorem nodup_nd {j:Nat} {u:ByteArray} {k n:Fo} (h:(Fo.nd j u k n).ids.Nodup):j∉k.ids∧j∉n.ids∧k.ids.Nodup∧n.ids.Nodup∧(∀ x∈k.ids,x∉n.ids):=by
 simp only [Fo.ids,List.nodup_cons,List.nodup_append,List.mem_append,not_or] at h
 exact ⟨h.1.1,h.1.2,h.2.1,h.2.2.1,fun x hx hn=>h.2.2.2 x hx x hn rfl⟩
theorem rep_insAfter {h:Nat→Nd} {a i q:Nat} {t:ByteArray} {s:Fo} (hf:Free h i t s) (ha0:a≠0) (hq:(h a).up=q) :
  ∀ {F:Fo} {up:Nat},Rep h up F→F.ids.Nodup→i∉F.ids→a∉s.ids→a≠i→(∀ j∈s.ids,j∉F.ids)→Rep (attachH h i q a) up (insAfter a i t s F)
 | .nil,up,_,_,_,_,_,_=>trivial
 | .nd j u k n,up,⟨h1,h2,h3,h4⟩,hn,hi,has,hai,hd=>by
  obtain ⟨n1,n2,n3,n4,n5⟩:=nodup_nd hn
  have hat:=attachH_pos h i q a ha0
  simp only [Fo.ids,List.mem_cons,List.mem_append,not_or] at hi
  have hs:Rep (attachH h i q a) i s:=hf.rep.ext fun x hx=>by
   rw [hat x,if_neg (fun (e:x=a)=>has (e ▸ hx)),if_neg (fun (e:x=i)=>hf.out (e ▸ hx))]
  unfold insAfter
  by_cases hj:j=a
  ·subst hj
   rw [if_pos rfl]
   have hup:q=up:=by rw [←hq,h2]
   refine ⟨h1,?_,?_,hf.ne,?_,hs,?_⟩
   ·rw [hat j,if_pos rfl,h2];rfl
   ·exact h3.ext fun x hx=>by rw [hat x,if_neg (fun (e:x=j)=>n1 (e ▸ hx)),if_neg (fun (e:x=i)=>hi.2.1 (e ▸ hx))]
   ·rw [hat i,if_neg (fun e=>hai e.symm),if_pos rfl,h2,hup]
    show Nd.mk (h i).t up (h i).first n.hd=_
    rw [hf.t,hf.first]
   ·exact h4.ext fun x hx=>by rw [hat x,if_neg (fun (e:x=j)=>n2 (e ▸ hx)),if_neg (fun (e:x=i)=>hi.2.2 (e ▸ hx))]
  ·rw [if_neg hj]
   refine ⟨h1,?_,?_,?_⟩
   ·rw [hat j,if_neg hj,if_neg (fun e=>hi.1 e.symm),h2,insAfter_hd,insAfter_hd]
   ·exact rep_insAfter hf ha0 hq h3 n3 hi.2.1 has hai fun x hx hk=>hd x hx (by simp [Fo.ids,hk])
   ·exact rep_insAfter hf ha0 hq h4 n4 hi.2.2 has hai fun x hx hk=>hd x hx (by simp [Fo.ids,hk])
theorem rep_insFirst {h:Nat→Nd} {p i:Nat} {t:ByteArray} {s:Fo} (hf:Free h i t s) :
  ∀ {F:Fo} {up:Nat},Rep h up F→F.ids.Nodup→i∉F.ids→p∉s.ids→p≠i→(∀ j∈s.ids,j∉F.ids)→Rep (attachH h i p 0) up (insFirst p i t s F)
 | .nil,up,_,_,_,_,_,_=>trivial
 | .nd j u k n,up,⟨h1,h2,h3,h4⟩,hn,hi,has,hai,hd=>by
  obtain ⟨n1,n2,n3,n4,n5⟩:=nodup_nd hn
  have hat:=attachH_zero h i p
  simp only [Fo.ids,List.mem_cons,List.mem_append,not_or] at hi
  have hs:Rep (attachH h i p 0) i s:=hf.rep.ext fun x hx=>by
   rw [hat x,if_neg (fun (e:x=p)=>has (e ▸ hx)),if_neg (fun (e:x=i)=>hf.out (e ▸ hx))]
  unfold insFirst
  by_cases hj:j=p
  ·subst hj
   rw [if_pos rfl]
   refine ⟨h1,?_,⟨hf.ne,?_,hs,?_⟩,?_⟩
   ·rw [hat j,if_pos rfl,h2];rfl
   ·rw [hat i,if_neg (fun e=>hai e.symm),if_pos rfl,h2]
    show Nd.mk (h i).t j (h i).first k.hd=_
    rw [hf.t,hf.first]
   ·exact h3.ext fun x hx=>by rw [hat x,if_neg (fun (e:x=j)=>n1 (e ▸ hx)),if_neg (fun (e:x=i)=>hi.2.1 (e ▸ hx))]
   ·exact h4.ext fun x hx=>by rw [hat x,if_neg (fun (e:x=j)=>n2 (e ▸ hx)),if_neg (fun (e:x=i)=>hi.2.2 (e ▸ hx))]
  ·rw [if_neg hj]
   refine ⟨h1,?_,?_,?_⟩
   ·rw [hat j,if_neg hj,if_neg (fun e=>hi.1 e.symm),h2,insFirst_hd,insFirst_hd]
   ·exact rep_insFirst hf h3 n3 hi.2.1 has hai fun x hx hk=>hd x hx (by simp [Fo.ids,hk])
   ·exact rep_insFirst hf h4 n4 hi.2.2 has hai fun x hx hk=>hd x hx (by simp [Fo.ids,hk])
def sib (x:Nat):Nat→Fo→Nat
 | _,.nil=>0
 | p,.nd j u k n=>if j=x then p else if x∈k.ids then sib x 0 k else sib x j n
theorem sib_mem (x:Nat):∀ (F:Fo) (p:Nat),sib x p F=p∨sib x p F=0∨sib x p F∈F.ids
 | .nil,p=>Or.inr (Or.inl rfl)
 | .nd j u k n,p=>by
  unfold sib
  by_cases h1:j=x
  ·rw [if_pos h1];exact Or.inl rfl
  ·rw [if_neg h1]
   by_cases h2:x∈k.ids
   ·rw [if_pos h2]
    rcases sib_mem x k 0 with h|h|h
    ·exact Or.inr (Or.inl h)
    ·exact Or.inr (Or.inl h)
    ·exact Or.inr (Or.inr (by simp [Fo.ids,h]))
   ·rw [if_neg h2]
    rcases sib_mem x n j with h|h|h
    ·rw [h];exact Or.inr (Or.inr (by simp [Fo.ids]))
    ·exact Or.inr (Or.inl h)
    ·exact Or.inr (Or.inr (by simp [Fo.ids,h]))
theorem rep_up {h:Nat→Nd} {x:Nat}:∀ {F:Fo} {up:Nat},Rep h up F→F.ids.Nodup→x∈F.ids→(h x).up=up∨(h x).up∈F.ids
 | .nil,_,_,_,hx=>by simp [Fo.ids] at hx
 | .nd j u k n,up,⟨h1,h2,h3,h4⟩,hn,hx=>by
  obtain ⟨n1,n2,n3,n4,n5⟩:=nodup_nd hn
  simp only [Fo.ids,List.mem_cons,List.mem_append] at hx
  rcases hx with rfl|hx|hx
  ·left;rw [h2]
  ·rcases rep_up h3 n3 hx with e|e
   ·right;rw [e];simp [Fo.ids]
   ·right;simp [Fo.ids,e]
  ·rcases rep_up h4 n4 hx with e|e
   ·exact Or.inl e
   ·right;simp [Fo.ids,e]
theorem sib_zero {h:Nat→Nd} {x:Nat}:∀ {F:Fo} {up p:Nat},Rep h up F→F.ids.Nodup→x∈F.ids→sib x p F=0→(p≠0∨F.hd≠x)→(h x).up∈F.ids
 | .nil,_,_,_,_,hx,_,_=>by simp [Fo.ids] at hx
 | .nd j u k n,up,p,⟨h1,h2,h3,h4⟩,hn,hx,hs,hp=>by
  obtain ⟨n1,n2,n3,n4,n5⟩:=nodup_nd hn
  unfold sib at hs
  simp only [Fo.ids,List.mem_cons,List.mem_append] at hx
  by_cases e:j=x
  ·rw [if_pos e] at hs
   rcases hp with hp|hp
   ·exact absurd hs hp
   ·exact absurd e hp
  ·rw [if_neg e] at hs
   by_cases hk:x∈k.ids
   ·rcases rep_up h3 n3 hk with e|e
    ·rw [e];simp [Fo.ids]
    ·simp [Fo.ids,e]
   ·rw [if_neg hk] at hs
    have hxn:x∈n.ids:=by
     rcases hx with e'|e'|e'
     ·exact absurd e'.symm e
     ·exact absurd e' hk
     ·exact e'
    have:=sib_zero (p:=j) h4 n4 hxn hs (Or.inl h1)
    simp [Fo.ids,this]
theorem del_hd (x:Nat) (F:Fo) (h:F.hd≠x):(del x F).hd=F.hd:=by
 cases F with
 | nil=>rfl
 | nd j u k n=>unfold del;rw [if_neg (show j≠x from h)];rfl
theorem del_hd_self {h:Nat→Nd} {up x:Nat} {F:Fo} (hr:Rep h up F) (e:F.hd=x) (hx:x≠0):(del x F).hd=(h x).next∧(h x).up=up:=by
 cases F with
 | nil=>exact absurd e.symm hx
 | nd j u k n =>
  obtain rfl:j=x:=e
  obtain ⟨h1,h2,h3,h4⟩:=hr
  unfold del
  rw [if_pos rfl,h2]
  exact ⟨rfl,rfl⟩
theorem sib_hd {x p:Nat} {F:Fo} (e:F.hd=x) (hx:x≠0):sib x p F=p:=by
 cases F with
 | nil=>exact absurd e.symm hx
 | nd j u k n=>unfold sib;exact if_pos e
theorem up_ne {h:Nat→Nd} {x:Nat}:∀ {F:Fo} {up:Nat},Rep h up F→F.ids.Nodup→x∈F.ids→up∉F.ids→(h x).up≠x
 | .nil,_,_,_,hx,_=>by simp [Fo.ids] at hx
 | .nd j u k n,up,⟨h1,h2,h3,h4⟩,hn,hx,hup=>by
  obtain ⟨n1,n2,n3,n4,n5⟩:=nodup_nd hn
  simp only [Fo.ids,List.mem_cons,List.mem_append,not_or] at hx hup
  rcases hx with rfl|hx|hx
  ·rw [h2];exact hup.1
  ·exact up_ne h3 n3 hx n1
  ·exact up_ne h4 n4 hx hup.2.2
theorem sib_ne {x:Nat} (hx0:x≠0):∀ {F:Fo} {p:Nat},F.ids.Nodup→x∈F.ids→p≠x→sib x p F≠x
 | .nil,_,_,hx,_=>by simp [Fo.ids] at hx
 | .nd j u k n,p,hn,hx,hp=>by
  obtain ⟨n1,n2,n3,n4,n5⟩:=nodup_nd hn
  simp only [Fo.ids,List.mem_cons,List.mem_append] at hx
  unfold sib
  by_cases e1:j=x
  ·rw [if_pos e1];exact hp
  ·rw [if_neg e1]
   by_cases e2:x∈k.ids
   ·rw [if_pos e2];exact sib_ne hx0 n3 e2 (fun e=>hx0 e.symm)
   ·rw [if_neg e2]
    exact sib_ne hx0 n4 (by rcases hx with g|g|g;exact absurd g.symm e1;exact absurd g e2;exact g) e1
theorem rep_del {h:Nat→Nd} {x:Nat}:∀ {F:Fo} {up p:Nat},Rep h up F→F.ids.Nodup→x∈F.ids→up∉F.ids→p∉F.ids→Rep (detachH h x (sib x p F)) up (del x F)
 | .nil,_,_,_,_,hx,_,_=>by simp [Fo.ids] at hx
 | .nd j u k n,up,p,hR,hn,hx,hup,hp=>by
  have hx0:x≠0:=hR.ne0 x hx
  have hxup:(h x).up≠x:=up_ne hR hn hx hup
  obtain ⟨h1,h2,h3,h4⟩:=hR
  obtain ⟨n1,n2,n3,n4,n5⟩:=nodup_nd hn
  simp only [Fo.ids,List.mem_cons,List.mem_append,not_or] at hx hup hp
  unfold sib del
  by_cases e:j=x
  ·subst e
   rw [if_pos rfl,if_pos rfl]
   refine h4.ext fun y hy=>?_
   have hyj:y≠j:=fun e=>n2 (e ▸ hy)
   by_cases hp0:p=0
   ·subst hp0
    rw [detachH_zero h j hyj,h2,if_neg (fun (e:y=up)=>hup.2.2 (e ▸ hy))]
   ·rw [detachH_pos h j p hp0 hyj,if_neg (fun (e:y=p)=>hp.2.2 (e ▸ hy))]
  ·rw [if_neg e,if_neg e]
   by_cases hk:x∈k.ids
   ·rw [if_pos hk]
    have z3:(0:Nat)∉k.ids:=fun h0=>h3.ne0 0 h0 rfl
    have ih:=rep_del (p:=0) h3 n3 hk n1 z3
    have hnx:x∉n.ids:=n5 x hk
    have hsx:=sib_ne (p:=0) hx0 n3 hk (fun e=>hx0 e.symm)
    have hsm:sib x 0 k≠0→sib x 0 k∈k.ids:=fun hs=>by
     rcases sib_mem x k 0 with h'|h'|h'
     ·exact absurd h' hs
     ·exact absurd h' hs
     ·exact h'
    rw [del_id x hnx]
    refine ⟨h1,?_,ih,?_⟩
    ·by_cases hh:k.hd=x
     ·have hs:sib x 0 k=0:=sib_hd hh hx0
      obtain ⟨d1,d2⟩:=del_hd_self h3 hh hx0
      rw [hs,detachH_zero h x e,d2,if_pos rfl,d1,h2]
     ·rw [del_hd x k hh]
      by_cases hs:sib x 0 k=0
      ·have hq:=sib_zero (p:=0) h3 n3 hk hs (Or.inr hh)
       rw [hs,detachH_zero h x e,if_neg (fun (e2:j=(h x).up)=>n1 (e2 ▸ hq)),h2]
      ·rw [detachH_pos h x _ hs e,if_neg (fun (e2:j=sib x 0 k)=>n1 (e2 ▸ hsm hs)),h2]
    ·refine h4.ext fun y hy=>?_
     have hyx:y≠x:=fun e2=>hnx (e2 ▸ hy)
     by_cases hs:sib x 0 k=0
     ·rw [hs,detachH_zero h x hyx,if_neg]
      intro e2
      rcases rep_up h3 n3 hk with e3|e3
      ·exact n2 (e3 ▸ e2 ▸ hy)
      ·exact n5 _ e3 (e2 ▸ hy)
     ·rw [detachH_pos h x _ hs hyx,if_neg (fun (e2:y=sib x 0 k)=>n5 _ (hsm hs) (e2 ▸ hy))]
   ·rw [if_neg hk]
    have hxn:x∈n.ids:=by
     rcases hx with g|g|g
     ·exact absurd g.symm e
     ·exact absurd g hk
     ·exact g
    have ih:=rep_del (p:=j) h4 n4 hxn hup.2.2 n2
    rw [del_id x hk]
    have hsm:sib x j n≠j→sib x j n≠0→sib x j n∈n.ids:=fun hj hs=>by
     rcases sib_mem x n j with h'|h'|h'
     ·exact absurd h' hj
     ·exact absurd h' hs
     ·exact h'
    refine ⟨h1,?_,?_,ih⟩
    ·by_cases hh:n.hd=x
     ·have hs:sib x j n=j:=sib_hd hh hx0
      obtain ⟨d1,d2⟩:=del_hd_self h4 hh hx0
      rw [hs,detachH_pos h x j h1 e,if_pos rfl,d1,h2]
     ·rw [del_hd x n hh]
      by_cases hs:sib x j n=0
      ·have hq:=sib_zero (p:=j) h4 n4 hxn hs (Or.inl h1)
       rw [hs,detachH_zero h x e,if_neg (fun (e2:j=(h x).up)=>n2 (e2 ▸ hq)),h2]
      ·have hsj:sib x j n≠j:=by
        cases n with
        | nil=>simp [Fo.ids] at hxn
        | nd j2 u2 k2 n2' =>
         have hj2:j2≠x:=hh
         unfold sib
         rw [if_neg hj2]
         obtain ⟨m1,m2,m3,m4,m5⟩:=nodup_nd n4
         simp only [Fo.ids,List.mem_cons,List.mem_append,not_or] at n2
         split
         ·rcases sib_mem x k2 0 with h'|h'|h'
          ·rw [h'];exact fun e=>h1 e.symm
          ·rw [h'];exact fun e=>h1 e.symm
          ·exact fun e=>n2.2.1 (e ▸ h')
         ·rcases sib_mem x n2' j2 with h'|h'|h'
          ·rw [h'];exact fun e=>n2.1 e.symm
          ·rw [h'];exact fun e=>h1 e.symm
          ·exact fun e=>n2.2.2 (e ▸ h')
       rw [detachH_pos h x _ hs e,if_neg (fun (e2:j=sib x j n)=>hsj e2.symm),h2]
    ·refine h3.ext fun y hy=>?_
     have hyx:y≠x:=fun e2=>hk (e2 ▸ hy)
     by_cases hs:sib x j n=0
     ·rw [hs,detachH_zero h x hyx,if_neg]
      intro e2
      have hq:=sib_zero (p:=j) h4 n4 hxn hs (Or.inl h1)
      exact n5 _ hy (e2 ▸ hq)
     ·rw [detachH_pos h x _ hs hyx,if_neg]
      intro e2
      by_cases hsj:sib x j n=j
      ·exact n1 (by rw [←hsj,←e2];exact hy)
      ·exact n5 _ hy (e2 ▸ hsm hsj hs)
def RepTop (h:Nat→Nd):Fo→Prop
 | .nil=>True
 | .nd i t k n=>i≠0∧h i=⟨t,0,k.hd,0⟩∧Rep h i k∧RepTop h n
theorem RepTop.ext {h h':Nat→Nd}:∀ {F:Fo},RepTop h F→(∀ i∈F.ids,h' i=h i)→RepTop h' F
 | .nil,_,_=>trivial
 | .nd i t k n,⟨h1,h2,h3,h4⟩,e=>⟨h1,(e i (by simp [Fo.ids])).trans h2,Rep.ext h3 fun j hj=>e j (by simp [Fo.ids,hj]),RepTop.ext h4 fun j hj=>e j (by simp [Fo.ids,hj])⟩
theorem RepTop.ne0 {h:Nat→Nd}:∀ {F:Fo},RepTop h F→∀ i∈F.ids,i≠0
 | .nil,_,i,hi=>by simp [Fo.ids] at hi
 | .nd j t k n,⟨h1,h2,h3,h4⟩,i,hi=>by
  simp only [Fo.ids,List.mem_cons,List.mem_append] at hi
  rcases hi with rfl|hi|hi
  ·exact h1
  ·exact Rep.ne0 h3 i hi
  ·exact RepTop.ne0 h4 i hi
theorem tops_ids:∀ {F:Fo} {x:Nat},x∈F.tops→x∈F.ids
 | .nil,x,h=>by cases h
 | .nd j t k n,x,h=>by
  simp only [Fo.tops,List.mem_cons] at h
  simp only [Fo.ids,List.mem_cons,List.mem_append]
  rcases h with h|h
  ·exact Or.inl h
  ·exact Or.inr (Or.inr (tops_ids h))
theorem reptop_up {h:Nat→Nd} {x:Nat}:∀ {F:Fo},RepTop h F→F.ids.Nodup→x∈F.ids→x∉F.tops→(h x).up∈F.ids∧(h x).up≠x
 | .nil,_,_,hx,_=>by simp [Fo.ids] at hx
 | .nd j u k n,⟨h1,h2,h3,h4⟩,hn,hx,ht=>by
  obtain ⟨n1,n2,n3,n4,n5⟩:=nodup_nd hn
  simp only [Fo.ids,Fo.tops,List.mem_cons,List.mem_append,not_or] at hx ht ⊢
  rcases hx with e|hx|hx
  ·exact absurd e ht.1
  ·refine ⟨?_,up_ne h3 n3 hx n1⟩
   rcases rep_up h3 n3 hx with e|e
   ·exact Or.inl e
   ·exact Or.inr (Or.inl e)
  ·obtain ⟨g1,g2⟩:=reptop_up h4 n4 hx ht.2
   exact ⟨Or.inr (Or.inr g1),g2⟩
theorem reptop_root {h:Nat→Nd} {x:Nat}:∀ {F:Fo},RepTop h F→x∈F.tops→(h x).up=0
 | .nil,_,hx=>by cases hx
 | .nd j u k n,⟨h1,h2,h3,h4⟩,hx=>by
  simp only [Fo.tops,List.mem_cons] at hx
  rcases hx with rfl|hx
  ·rw [h2]
  ·exact reptop_root h4 hx
theorem reptop_insAfter {h:Nat→Nd} {a i q:Nat} {t:ByteArray} {s:Fo} (hf:Free h i t s) (ha0:a≠0) (hq:(h a).up=q) :
  ∀ {F:Fo},RepTop h F→F.ids.Nodup→i∉F.ids→a∉F.tops→a∉s.ids→a≠i→(∀ j∈s.ids,j∉F.ids)→RepTop (attachH h i q a) (insAfter a i t s F)
 | .nil,_,_,_,_,_,_,_=>trivial
 | .nd j u k n,⟨h1,h2,h3,h4⟩,hn,hi,hta,has,hai,hd=>by
  obtain ⟨n1,n2,n3,n4,n5⟩:=nodup_nd hn
  simp only [Fo.ids,Fo.tops,List.mem_cons,List.mem_append,not_or] at hi hta
  have hj:j≠a:=fun e=>hta.1 e.symm
  unfold insAfter
  rw [if_neg hj]
  refine ⟨h1,?_,?_,?_⟩
  ·rw [attachH_pos h i q a ha0 j,if_neg hj,if_neg (fun e=>hi.1 e.symm),h2,insAfter_hd]
  ·exact rep_insAfter hf ha0 hq h3 n3 hi.2.1 has hai fun x hx hk=>hd x hx (by simp [Fo.ids,hk])
  ·exact reptop_insAfter hf ha0 hq h4 n4 hi.2.2 hta.2 has hai fun x hx hk=>hd x hx (by simp [Fo.ids,hk])
theorem reptop_insFirst {h:Nat→Nd} {p i:Nat} {t:ByteArray} {s:Fo} (hf:Free h i t s) :
  ∀ {F:Fo},RepTop h F→F.ids.Nodup→i∉F.ids→p∉s.ids→p≠i→(∀ j∈s.ids,j∉F.ids)→RepTop (attachH h i p 0) (insFirst p i t s F)
 | .nil,_,_,_,_,_,_=>trivial
 | .nd j u k n,⟨h1,h2,h3,h4⟩,hn,hi,has,hai,hd=>by
  obtain ⟨n1,n2,n3,n4,n5⟩:=nodup_nd hn
  have hat:=attachH_zero h i p
  simp only [Fo.ids,List.mem_cons,List.mem_append,not_or] at hi
  unfold insFirst
  by_cases hj:j=p
  ·subst hj
   rw [if_pos rfl]
   refine ⟨h1,?_,⟨hf.ne,?_,?_,?_⟩,?_⟩
   ·rw [hat j,if_pos rfl,h2];rfl
   ·rw [hat i,if_neg (fun e=>hai e.symm),if_pos rfl,h2]
    show Nd.mk (h i).t j (h i).first k.hd=_
    rw [hf.t,hf.first]
   ·exact hf.rep.ext fun x hx=>by
     rw [hat x,if_neg (fun (e:x=j)=>has (e ▸ hx)),if_neg (fun (e:x=i)=>hf.out (e ▸ hx))]
   ·exact h3.ext fun x hx=>by rw [hat x,if_neg (fun (e:x=j)=>n1 (e ▸ hx)),if_neg (fun (e:x=i)=>hi.2.1 (e ▸ hx))]
   ·exact h4.ext fun x hx=>by rw [hat x,if_neg (fun (e:x=j)=>n2 (e ▸ hx)),if_neg (fun (e:x=i)=>hi.2.2 (e ▸ hx))]
  ·rw [if_neg hj]
   refine ⟨h1,?_,?_,?_⟩
   ·rw [hat j,if_neg hj,if_neg (fun e=>hi.1 e.symm),h2,insFirst_hd]
   ·exact rep_insFirst hf h3 n3 hi.2.1 has hai fun x hx hk=>hd x hx (by simp [Fo.ids,hk])
   ·exact reptop_insFirst hf h4 n4 hi.2.2 has hai fun x hx hk=>hd x hx (by simp [Fo.ids,hk])
def sibT (x:Nat):Fo→Nat
 | .nil=>0
 | .nd j u k n=>if x∈k.ids then sib x 0 k else sibT x n
theorem sibT_mem (x:Nat):∀ (F:Fo),sibT x F=0∨sibT x F∈F.ids
 | .nil=>Or.inl rfl
 | .nd j u k n=>by
  unfold sibT
  split
  ·rcases sib_mem x k 0 with h|h|h
   ·exact Or.inl h
   ·exact Or.inl h
   ·exact Or.inr (by simp [Fo.ids,h])
  ·rcases sibT_mem x n with h|h
   ·exact Or.inl h
   ·exact Or.inr (by simp [Fo.ids,h])
theorem reptop_del {h:Nat→Nd} {x:Nat}:∀ {F:Fo},RepTop h F→F.ids.Nodup→x∈F.ids→x∉F.tops→RepTop (detachH h x (sibT x F)) (del x F)
 | .nil,_,_,hx,_=>by simp [Fo.ids] at hx
 | .nd j u k n,hR,hn,hx,ht=>by
  have hx0:x≠0:=hR.ne0 x hx
  obtain ⟨h1,h2,h3,h4⟩:=hR
  obtain ⟨n1,n2,n3,n4,n5⟩:=nodup_nd hn
  simp only [Fo.ids,Fo.tops,List.mem_cons,List.mem_append,not_or] at hx ht
  have e:j≠x:=fun e=>ht.1 e.symm
  unfold sibT del
  rw [if_neg e]
  by_cases hk:x∈k.ids
  ·rw [if_pos hk]
   have z3:(0:Nat)∉k.ids:=fun h0=>h3.ne0 0 h0 rfl
   have hxup:(h x).up≠x:=up_ne h3 n3 hk n1
   have ih:=rep_del (p:=0) h3 n3 hk n1 z3
   have hnx:x∉n.ids:=n5 x hk
   have hsx:=sib_ne (p:=0) hx0 n3 hk (fun e=>hx0 e.symm)
   have hsm:sib x 0 k≠0→sib x 0 k∈k.ids:=fun hs=>by
    rcases sib_mem x k 0 with h'|h'|h'
    ·exact absurd h' hs
    ·exact absurd h' hs
    ·exact h'
   rw [del_id x hnx]
   refine ⟨h1,?_,ih,?_⟩
   ·by_cases hh:k.hd=x
    ·have hs:sib x 0 k=0:=sib_hd hh hx0
     obtain ⟨d1,d2⟩:=del_hd_self h3 hh hx0
     rw [hs,detachH_zero h x e,d2,if_pos rfl,d1,h2]
    ·rw [del_hd x k hh]
     by_cases hs:sib x 0 k=0
     ·have hq:=sib_zero (p:=0) h3 n3 hk hs (Or.inr hh)
      rw [hs,detachH_zero h x e,if_neg (fun (e2:j=(h x).up)=>n1 (e2 ▸ hq)),h2]
     ·rw [detachH_pos h x _ hs e,if_neg (fun (e2:j=sib x 0 k)=>n1 (e2 ▸ hsm hs)),h2]
   ·refine h4.ext fun y hy=>?_
    have hyx:y≠x:=fun e2=>hnx (e2 ▸ hy)
    by_cases hs:sib x 0 k=0
    ·rw [hs,detachH_zero h x hyx,if_neg]
     intro e2
     rcases rep_up h3 n3 hk with e3|e3
     ·exact n2 (e3 ▸ e2 ▸ hy)
     ·exact n5 _ e3 (e2 ▸ hy)
    ·rw [detachH_pos h x _ hs hyx,if_neg (fun (e2:y=sib x 0 k)=>n5 _ (hsm hs) (e2 ▸ hy))]
  ·rw [if_neg hk]
   have hxn:x∈n.ids:=by
    rcases hx with g|g|g
    ·exact absurd g.symm e
    ·exact absurd g hk
    ·exact g
   have ih:=reptop_del h4 n4 hxn ht.2
   obtain ⟨u1,u2⟩:=reptop_up h4 n4 hxn ht.2
   have hsm:sibT x n≠0→sibT x n∈n.ids:=fun hs=>by
    rcases sibT_mem x n with h'|h'
    ·exact absurd h' hs
    ·exact h'
   rw [del_id x hk]
   refine ⟨h1,?_,?_,ih⟩
   ·by_cases hs:sibT x n=0
    ·rw [hs,detachH_zero h x e,if_neg (fun (e2:j=(h x).up)=>n2 (e2 ▸ u1)),h2]
    ·rw [detachH_pos h x _ hs e,if_neg (fun (e2:j=sibT x n)=>n2 (e2 ▸ hsm hs)),h2]
   ·refine h3.ext fun y hy=>?_
    have hyx:y≠x:=fun e2=>hk (e2 ▸ hy)
    by_cases hs:sibT x n=0
    ·rw [hs,detachH_zero h x hyx,if_neg (fun (e2:y=(h x).up)=>n5 _ hy (e2 ▸ u1))]
    ·rw [detachH_pos h x _ hs hyx,if_neg (fun (e2:y=sibT x n)=>n5 _ hy (e2 ▸ hsm hs))]
theorem free_detach {h:Nat→Nd} {x a:Nat}:∀ {F:Fo} {up:Nat},Rep h up F→F.ids.Nodup→x∈F.ids→a∉(sub x F).ids→(h x).up∉(sub x F).ids→Free (detachH h x a) x (h x).t (sub x F)
 | .nil,_,_,_,hx,_,_=>by simp [Fo.ids] at hx
 | .nd j u k n,up,⟨h1,h2,h3,h4⟩,hn,hx,ha,hu=>by
  obtain ⟨n1,n2,n3,n4,n5⟩:=nodup_nd hn
  unfold sub at ha hu ⊢
  by_cases e:j=x
  ·subst e
   rw [if_pos rfl] at ha hu ⊢
   refine ⟨h1,by rw [detachH_self],by rw [detachH_self,h2],h3.ext fun y hy=>?_,n1⟩
   have hyj:y≠j:=fun e=>n1 (e ▸ hy)
   by_cases ha0:a=0
   ·subst ha0;rw [detachH_zero h j hyj,if_neg (fun (e:y=(h j).up)=>hu (e ▸ hy))]
   ·rw [detachH_pos h j a ha0 hyj,if_neg (fun (e:y=a)=>ha (e ▸ hy))]
  ·rw [if_neg e] at ha hu ⊢
   by_cases hk:x∈k.ids
   ·rw [if_pos hk] at ha hu ⊢
    exact free_detach h3 n3 hk ha hu
   ·rw [if_neg hk] at ha hu ⊢
    simp only [Fo.ids,List.mem_cons,List.mem_append] at hx
    exact free_detach h4 n4 (by rcases hx with g|g|g;exact absurd g.symm e;exact absurd g hk;exact g) ha hu
def dpth:Fo→Nat
 | .nil=>0
 | .nd _ _ k .nil=>dpth k+1
 | .nd _ _ _ (.nd i t k n)=>dpth (.nd i t k n)
def sp:Nat→Fo→Nat
 | _,.nil=>0
 | 0,.nd i _ _ .nil=>i
 | e+1,.nd _ _ k .nil=>sp e k
 | e,.nd _ _ _ (.nd i t k n)=>sp e (.nd i t k n)
def snoc (i:Nat) (t:ByteArray):Nat→Fo→Fo
 | _,.nil=>.nd i t .nil .nil
 | 0,.nd j u k .nil=>.nd j u k (.nd i t .nil .nil)
 | e+1,.nd j u k .nil=>.nd j u (snoc i t e k) .nil
 | e,.nd j u k (.nd j2 u2 k2 n2)=>.nd j u k (snoc i t e (.nd j2 u2 k2 n2))
theorem snoc_ne (i:Nat) (t:ByteArray):∀ (e:Nat) (G:Fo),∃ j u k n,snoc i t e G=.nd j u k n
 | e,.nil=>⟨_,_,_,_,by unfold snoc;rfl⟩
 | 0,.nd j u k .nil=>⟨_,_,_,_,by unfold snoc;rfl⟩
 | e+1,.nd j u k .nil=>⟨_,_,_,_,by unfold snoc;rfl⟩
 | e,.nd j u k (.nd j2 u2 k2 n2)=>⟨_,_,_,_,by unfold snoc;rfl⟩
theorem snoc_fl (i:Nat) (t:ByteArray):∀ (G:Fo) (e d:Nat),e≤dpth G→(snoc i t e G).fl d=G.fl d++[⟨(i:Int),((d+e:Nat):Int),t⟩]
 | .nil,e,d,h=>by
  have:e=0:=by simpa [dpth] using h
  subst this
  simp [snoc,Fo.fl]
 | .nd j u k .nil,0,d,h=>by simp [snoc,Fo.fl]
 | .nd j u k .nil,e+1,d,h=>by
  have:=snoc_fl i t k e (d+1) (by simp only [dpth] at h;omega)
  simp only [snoc,Fo.fl,this]
  rw [show d+1+e=d+(e+1) by omega]
  simp
 | .nd j u k (.nd j2 u2 k2 n2),e,d,h=>by
  have:=snoc_fl i t (.nd j2 u2 k2 n2) e d h
  have e1:snoc i t e (.nd j u k (.nd j2 u2 k2 n2))=.nd j u k (snoc i t e (.nd j2 u2 k2 n2)):=by cases e <;> rfl
  rw [e1]
  simp only [Fo.fl] at this ⊢
  rw [this]
  simp
theorem snoc_ids (i:Nat) (t:ByteArray):∀ (G:Fo) (e:Nat),(snoc i t e G).ids=G.ids++[i]
 | .nil,e=>by simp [snoc,Fo.ids]
 | .nd j u k .nil,0=>by simp [snoc,Fo.ids]
 | .nd j u k .nil,e+1=>by simp [snoc,Fo.ids,snoc_ids i t k e]
 | .nd j u k (.nd j2 u2 k2 n2),e=>by
  have e1:snoc i t e (.nd j u k (.nd j2 u2 k2 n2))=.nd j u k (snoc i t e (.nd j2 u2 k2 n2)):=by cases e <;> rfl
  rw [e1]
  show j::(k.ids++(snoc i t e (.nd j2 u2 k2 n2)).ids)=_
  rw [snoc_ids i t (.nd j2 u2 k2 n2) e]
  simp [Fo.ids]
theorem snoc_tops (i:Nat) (t:ByteArray):∀ (G:Fo) (e:Nat),e≤dpth G→(snoc i t e G).tops=if e=0 then G.tops++[i] else G.tops
 | .nil,e,h=>by
  have:e=0:=by simpa [dpth] using h
  subst this
  simp [snoc,Fo.tops]
 | .nd j u k .nil,0,_=>by simp [snoc,Fo.tops]
 | .nd j u k .nil,e+1,_=>by simp [snoc,Fo.tops]
 | .nd j u k (.nd j2 u2 k2 n2),e,h=>by
  have e1:snoc i t e (.nd j u k (.nd j2 u2 k2 n2))=.nd j u k (snoc i t e (.nd j2 u2 k2 n2)):=by cases e <;> rfl
  rw [e1]
  show j::(snoc i t e (.nd j2 u2 k2 n2)).tops=_
  rw [snoc_tops i t (.nd j2 u2 k2 n2) e h]
  by_cases he:e=0 <;> simp [he,Fo.tops]
theorem dpth_nd {j:Nat} {u:ByteArray} {k n:Fo} (h:∃ a b c d,n=.nd a b c d):dpth (.nd j u k n)=dpth n:=by
 obtain ⟨a,b,c,d,rfl⟩:=h
 rfl
theorem sp_nd {e j:Nat} {u:ByteArray} {k n:Fo} (h:∃ a b c d,n=.nd a b c d):sp e (.nd j u k n)=sp e n:=by
 obtain ⟨a,b,c,d,rfl⟩:=h
 cases e <;> rfl
theorem snoc_dpth (i:Nat) (t:ByteArray):∀ (G:Fo) (e:Nat),e≤dpth G→dpth (snoc i t e G)=e+1
 | .nil,e,h=>by
  have:e=0:=by simpa [dpth] using h
  subst this
  rfl
 | .nd j u k .nil,0,_=>rfl
 | .nd j u k .nil,e+1,h=>by
  show dpth (.nd j u (snoc i t e k) .nil)=_
  show dpth (snoc i t e k)+1=_
  rw [snoc_dpth i t k e (by simp only [dpth] at h;omega)]
 | .nd j u k (.nd j2 u2 k2 n2),e,h=>by
  have e1:snoc i t e (.nd j u k (.nd j2 u2 k2 n2))=.nd j u k (snoc i t e (.nd j2 u2 k2 n2)):=by cases e <;> rfl
  rw [e1,dpth_nd (snoc_ne i t e _)]
  exact snoc_dpth i t (.nd j2 u2 k2 n2) e h
theorem snoc_sp (i:Nat) (t:ByteArray):∀ (G:Fo) (e:Nat),e≤dpth G→sp e (snoc i t e G)=i∧∀ d,d < e→sp d (snoc i t e G)=sp d G
 | .nil,e,h=>by
  have:e=0:=by simpa [dpth] using h
  subst this
  exact ⟨rfl,fun d hd=>by omega⟩
 | .nd j u k .nil,0,_=>⟨rfl,fun d hd=>by omega⟩
 | .nd j u k .nil,e+1,h=>by
  obtain ⟨h1,h2⟩:=snoc_sp i t k e (by simp only [dpth] at h;omega)
  refine ⟨h1,fun d hd=>?_⟩
  cases d with
  | zero=>rfl
  | succ d=>exact h2 d (by omega)
 | .nd j u k (.nd j2 u2 k2 n2),e,h=>by
  have e1:snoc i t e (.nd j u k (.nd j2 u2 k2 n2))=.nd j u k (snoc i t e (.nd j2 u2 k2 n2)):=by cases e <;> rfl
  obtain ⟨h1,h2⟩:=snoc_sp i t (.nd j2 u2 k2 n2) e h
  rw [e1]
  refine ⟨(sp_nd (snoc_ne i t e _)).trans h1,fun d hd=>?_⟩
  rw [sp_nd (snoc_ne i t e _),h2 d hd]
  exact (sp_nd ⟨_,_,_,_,rfl⟩).symm
theorem sp_mem:∀ (G:Fo) (e:Nat),e < dpth G→sp e G∈G.ids
 | .nil,e,h=>by simp [dpth] at h
 | .nd j u k .nil,0,_=>by simp [sp,Fo.ids]
 | .nd j u k .nil,e+1,h=>by
  have:=sp_mem k e (by simp only [dpth] at h;omega)
  show sp e k∈_
  simp [Fo.ids,this]
 | .nd j u k (.nd j2 u2 k2 n2),e,h=>by
  have:=sp_mem (.nd j2 u2 k2 n2) e h
  rw [sp_nd ⟨_,_,_,_,rfl⟩]
  show _∈j::(k.ids++(Fo.nd j2 u2 k2 n2).ids)
  simp only [List.mem_cons,List.mem_append]
  exact Or.inr (Or.inr this)
theorem rep_sp {h:Nat→Nd}:∀ (G:Fo) {up:Nat} (e:Nat),Rep h up G→e < dpth G→(h (sp e G)).up=if e=0 then up else sp (e - 1) G
 | .nil,up,e,_,hl=>by simp [dpth] at hl
 | .nd j u k .nil,up,0,⟨h1,h2,h3,h4⟩,_=>by show (h j).up=_;rw [h2];rfl
 | .nd j u k .nil,up,e+1,⟨h1,h2,h3,h4⟩,hl=>by
  have:=rep_sp k e h3 (by simp only [dpth] at hl;omega)
  show (h (sp e k)).up=_
  rw [this,if_neg (by omega:¬ e+1=0)]
  cases e with
  | zero=>rfl
  | succ e=>rfl
 | .nd j u k (.nd j2 u2 k2 n2),up,e,⟨h1,h2,h3,h4⟩,hl=>by
  have:=rep_sp (.nd j2 u2 k2 n2) e h4 hl
  rw [sp_nd ⟨_,_,_,_,rfl⟩,sp_nd ⟨_,_,_,_,rfl⟩]
  exact this
theorem reptop_sp {h:Nat→Nd}:∀ (G:Fo) (e:Nat),RepTop h G→e+1 < dpth G→(h (sp (e+1) G)).up=sp e G
 | .nil,e,_,hl=>by simp [dpth] at hl
 | .nd j u k .nil,e,⟨h1,h2,h3,h4⟩,hl=>by
  have:=rep_sp k e h3 (by simp only [dpth] at hl;omega)
  show (h (sp e k)).up=_
  rw [this]
  cases e with
  | zero=>rfl
  | succ e=>rfl
 | .nd j u k (.nd j2 u2 k2 n2),e,⟨h1,h2,h3,h4⟩,hl=>by
  have:=reptop_sp (.nd j2 u2 k2 n2) e h4 hl
  rw [sp_nd ⟨_,_,_,_,rfl⟩,sp_nd ⟨_,_,_,_,rfl⟩]
  exact this
theorem sp_not_top:∀ (G:Fo) (e:Nat),G.ids.Nodup→e+1 < dpth G→sp (e+1) G∉G.tops
 | .nil,e,_,hl=>by simp [dpth] at hl
 | .nd j u k .nil,e,hn,hl=>by
  obtain ⟨n1,n2,n3,n4,n5⟩:=nodup_nd hn
  have hm:=sp_mem k e (by simp only [dpth] at hl;omega)
  show sp e k∉[j]
  intro hc
  rw [List.mem_singleton.1 hc] at hm
  exact n1 hm
 | .nd j u k (.nd j2 u2 k2 n2),e,hn,hl=>by
  obtain ⟨n1,m2,n3,n4,n5⟩:=nodup_nd hn
  have:=sp_not_top (.nd j2 u2 k2 n2) e n4 hl
  have hm:=sp_mem (.nd j2 u2 k2 n2) (e+1) hl
  rw [sp_nd ⟨_,_,_,_,rfl⟩]
  intro hc
  rcases List.mem_cons.1 hc with hc|hc
  ·rw [hc] at hm;exact m2 hm
  ·exact this hc
theorem snoc_after (i:Nat) (t:ByteArray):∀ (G:Fo) (e:Nat),G.ids.Nodup→e < dpth G→snoc i t e G=insAfter (sp e G) i t .nil G
 | .nil,e,_,hl=>by simp [dpth] at hl
 | .nd j u k .nil,0,hn,_=>by
  show Fo.nd j u k (.nd i t .nil .nil)=insAfter j i t .nil (.nd j u k .nil)
  unfold insAfter
  rw [if_pos rfl]
 | .nd j u k .nil,e+1,hn,hl=>by
  obtain ⟨n1,n2,n3,n4,n5⟩:=nodup_nd hn
  have hl':e < dpth k:=by simp only [dpth] at hl;omega
  have hm:=sp_mem k e hl'
  show Fo.nd j u (snoc i t e k) .nil=insAfter (sp e k) i t .nil (.nd j u k .nil)
  unfold insAfter
  rw [if_neg (fun (e2:j=sp e k)=>n1 (e2 ▸ hm)),snoc_after i t k e n3 hl']
  rfl
 | .nd j u k (.nd j2 u2 k2 n2),e,hn,hl=>by
  obtain ⟨n1,n2',n3,n4,n5⟩:=nodup_nd hn
  have e1:snoc i t e (.nd j u k (.nd j2 u2 k2 n2))=.nd j u k (snoc i t e (.nd j2 u2 k2 n2)):=by cases e <;> rfl
  have hm:=sp_mem (.nd j2 u2 k2 n2) e hl
  have e2:sp e (.nd j u k (.nd j2 u2 k2 n2))=sp e (.nd j2 u2 k2 n2):=sp_nd ⟨_,_,_,_,rfl⟩
  rw [e1,e2,snoc_after i t _ e n4 hl]
  have e3:insAfter (sp e (.nd j2 u2 k2 n2)) i t .nil (.nd j u k (.nd j2 u2 k2 n2))=.nd j u (insAfter (sp e (.nd j2 u2 k2 n2)) i t .nil k) (insAfter (sp e (.nd j2 u2 k2 n2)) i t .nil (.nd j2 u2 k2 n2)):=by
   conv=>lhs;unfold insAfter
   rw [if_neg (fun (e2:j=sp e (.nd j2 u2 k2 n2))=>n2' (e2 ▸ hm))]
  rw [e3,insAfter_id _ i t .nil (fun hk=>n5 _ hk hm)]
theorem snoc_first (i:Nat) (t:ByteArray):∀ (G:Fo) (e:Nat),G.ids.Nodup→dpth G=e+1→snoc i t (e+1) G=insFirst (sp e G) i t .nil G
 | .nil,e,_,hl=>by simp [dpth] at hl
 | .nd j u k .nil,0,hn,hl=>by
  have:dpth k=0:=by simp only [dpth] at hl;omega
  have hk:k=.nil:=by
   cases k with
   | nil=>rfl
   | nd a b c d =>
    exfalso
    have:∀ (F:Fo),dpth F=0→F=.nil:=by
     intro F
     induction F with
     | nil=>intro _;rfl
     | nd a b c d _ ihd =>
      intro h0
      cases d with
      | nil=>simp [dpth] at h0
      | nd a2 b2 c2 d2 =>
       have:=ihd (by simpa [dpth] using h0)
       cases this
    have h3:=this _ ‹dpth (Fo.nd a b c d)=0›
    cases h3
  subst hk
  show Fo.nd j u (.nd i t .nil .nil) .nil=insFirst j i t .nil (.nd j u .nil .nil)
  unfold insFirst
  rw [if_pos rfl]
 | .nd j u k .nil,e+1,hn,hl=>by
  obtain ⟨n1,n2,n3,n4,n5⟩:=nodup_nd hn
  have hl':dpth k=e+1:=by simp only [dpth] at hl;omega
  have hm:=sp_mem k e (by omega)
  show Fo.nd j u (snoc i t (e+1) k) .nil=insFirst (sp e k) i t .nil (.nd j u k .nil)
  unfold insFirst
  rw [if_neg (fun (e2:j=sp e k)=>n1 (e2 ▸ hm)),snoc_first i t k e n3 hl']
  rfl
 | .nd j u k (.nd j2 u2 k2 n2),e,hn,hl=>by
  obtain ⟨n1,n2',n3,n4,n5⟩:=nodup_nd hn
  have e1:snoc i t (e+1) (.nd j u k (.nd j2 u2 k2 n2))=.nd j u k (snoc i t (e+1) (.nd j2 u2 k2 n2)):=rfl
  have hl':dpth (.nd j2 u2 k2 n2)=e+1:=hl
  have hm:=sp_mem (.nd j2 u2 k2 n2) e (by omega)
  have e2:sp e (.nd j u k (.nd j2 u2 k2 n2))=sp e (.nd j2 u2 k2 n2):=sp_nd ⟨_,_,_,_,rfl⟩
  rw [e1,e2,snoc_first i t _ e n4 hl']
  have e3:insFirst (sp e (.nd j2 u2 k2 n2)) i t .nil (.nd j u k (.nd j2 u2 k2 n2))=.nd j u (insFirst (sp e (.nd j2 u2 k2 n2)) i t .nil k) (insFirst (sp e (.nd j2 u2 k2 n2)) i t .nil (.nd j2 u2 k2 n2)):=by
   conv=>lhs;unfold insFirst
   rw [if_neg (fun (e2:j=sp e (.nd j2 u2 k2 n2))=>n2' (e2 ▸ hm))]
  rw [e3,insFirst_id _ i t .nil (fun hk=>n5 _ hk hm)]
theorem reptop_snoc0 {h:Nat→Nd} {i:Nat} {t:ByteArray} (h0:i≠0) (hi:h i=⟨t,0,0,0⟩):∀ (G:Fo),RepTop h G→RepTop h (snoc i t 0 G)
 | .nil,_=>⟨h0,hi,trivial,trivial⟩
 | .nd j u k .nil,⟨h1,h2,h3,h4⟩=>⟨h1,h2,h3,h0,hi,trivial,trivial⟩
 | .nd j u k (.nd j2 u2 k2 n2),⟨h1,h2,h3,h4⟩=>⟨h1,h2,h3,reptop_snoc0 h0 hi _ h4⟩
end Go.Proofs.YtlkheeegkifblaaDoor.FP
namespace Go.Proofs.YtlkheeegkifblaaDoor.P
open Go.RowKit Go.Proofs.YtlkheeegkifblaaDoorW.PrintWords Go.Proofs.YtlkheeegkifblaaDoorW.PrintLast Go.Proofs.YtlkheeegkifblaaDoorW.PrintMore Go.Proofs.YtlkheeegkifblaaDoor.FP
def pa (o:Option Nat):Option Addr:=o.map fun b=>⟨b,0,none⟩
theorem pa_none:pa none=none:=rfl
theorem pa_some (b:Nat):pa (some b)=some ⟨b,0,none⟩:=rfl
def nodeC (A:Nat→Option Nat) (i:Nat) (x:Nd):Array Value:=#[.int .i64 (i:Int),.string x.t,.pointer (pa (A x.up)),.pointer (pa (A x.first)),.pointer (pa (A x.next))]
def tabC (A:Nat→Option Nat):Array Value:=((List.range 37).map fun i=>Value.pointer (pa (A i))).toArray
structure Mem (w:World) (n0 F:Nat) (A:Nat→Option Nat) (h:Nat→Nd):Prop where
 z:A 0=none
 rng:∀ i b,A i=some b→i < 37
 inj:∀ i j b,A i=some b→A j=some b→i=j
 ne:∀ i b,A i=some b→b≠F
 lo:∀ i b,A i=some b→n0≤b
 loF:n0≤F
 tab:w.heap[F]?=some (.cells (tabC A) 110 (0,0))
 nod:∀ i b,A i=some b→w.heap[b]?=some (.cells (nodeC A i (h i)) 85 (0,0))
 cu:∀ i,A i≠none→(h i).up=0∨A (h i).up≠none
 cf:∀ i,A i≠none→(h i).first=0∨A (h i).first≠none
 cn:∀ i,A i≠none→(h i).next=0∨A (h i).next≠none
theorem Mem.kept {w w':World} {n0 F:Nat} {A:Nat→Option Nat} {h:Nat→Nd} (m:Mem w n0 F A h) (hk:∀ b,b < w.heap.size→w'.heap[b]?=w.heap[b]?):Mem w' n0 F A h :=
 { m with tab:=(hk F (blk_lt m.tab)).trans m.tab,nod:=fun i b e=>(hk b (blk_lt (m.nod i b e))).trans (m.nod i b e) }
theorem Mem.below {w w':World} {n0 F:Nat} {A:Nat→Option Nat} {h:Nat→Nd} (m:Mem w n0 F A h) (hb:Below w.heap.size w w'):Mem w' n0 F A h:=m.kept fun b hl=>hb.block b hl
theorem Mem.alloc {w:World} {n0 F:Nat} {A:Nat→Option Nat} {h:Nat→Nd} (m:Mem w n0 F A h) (o:Obj):Mem (w.alloc o) n0 F A h:=m.kept fun b hl=>Below.heap_alloc w o b hl
theorem Mem.drew {w:World} {n0 F:Nat} {A:Nat→Option Nat} {h:Nat→Nd} (m:Mem w n0 F A h):Mem w.drew n0 F A h:=m.kept fun _ _=>rfl
theorem Mem.drewN {w:World} {n0 F:Nat} {A:Nat→Option Nat} {h:Nat→Nd} (m:Mem w n0 F A h) (n:Nat):Mem (w.drewN n) n0 F A h:=m.kept fun _ _=>rfl
theorem Mem.lt {w:World} {n0 F:Nat} {A:Nat→Option Nat} {h:Nat→Nd} (m:Mem w n0 F A h) {i b:Nat} (e:A i=some b):b < w.heap.size:=blk_lt (m.nod i b e)
theorem Mem.ltF {w:World} {n0 F:Nat} {A:Nat→Option Nat} {h:Nat→Nd} (m:Mem w n0 F A h):F < w.heap.size:=blk_lt m.tab
theorem Mem.c0 {w:World} {n0 F:Nat} {A:Nat→Option Nat} {h:Nat→Nd} (m:Mem w n0 F A h) {i b:Nat} (e:A i=some b):w.cell? ⟨b,0,none⟩=some (.int .i64 (i:Int)):=(bC_ (m.nod i b e) 0).trans rfl
theorem Mem.c1 {w:World} {n0 F:Nat} {A:Nat→Option Nat} {h:Nat→Nd} (m:Mem w n0 F A h) {i b:Nat} (e:A i=some b):w.cell? ⟨b,1,none⟩=some (.string (h i).t):=(bC_ (m.nod i b e) 1).trans rfl
theorem Mem.c2 {w:World} {n0 F:Nat} {A:Nat→Option Nat} {h:Nat→Nd} (m:Mem w n0 F A h) {i b:Nat} (e:A i=some b):w.cell? ⟨b,2,none⟩=some (.pointer (pa (A (h i).up))):=(bC_ (m.nod i b e) 2).trans rfl
theorem Mem.c3 {w:World} {n0 F:Nat} {A:Nat→Option Nat} {h:Nat→Nd} (m:Mem w n0 F A h) {i b:Nat} (e:A i=some b):w.cell? ⟨b,3,none⟩=some (.pointer (pa (A (h i).first))):=(bC_ (m.nod i b e) 3).trans rfl
theorem Mem.c4 {w:World} {n0 F:Nat} {A:Nat→Option Nat} {h:Nat→Nd} (m:Mem w n0 F A h) {i b:Nat} (e:A i=some b):w.cell? ⟨b,4,none⟩=some (.pointer (pa (A (h i).next))):=(bC_ (m.nod i b e) 4).trans rfl
theorem Mem.fz {w:World} {n0 F:Nat} {A:Nat→Option Nat} {h:Nat→Nd} (m:Mem w n0 F A h) {i b:Nat} (e:A i=some b) (j:Nat):w.frozen? ⟨b,j,none⟩=false:=bF_ (m.nod i b e) j
theorem Mem.fzF {w:World} {n0 F:Nat} {A:Nat→Option Nat} {h:Nat→Nd} (m:Mem w n0 F A h) (j:Nat):w.frozen? ⟨F,j,none⟩=false:=bF_ m.tab j
theorem tabC_get (A:Nat→Option Nat) (i:Nat) (hi:i < 37):(tabC A)[i]?=some (.pointer (pa (A i))):=by
 simp [tabC,hi]
theorem Mem.cF {w:World} {n0 F:Nat} {A:Nat→Option Nat} {h:Nat→Nd} (m:Mem w n0 F A h) (i:Nat) (hi:i < 37):w.cell? ⟨F,i,none⟩=some (.pointer (pa (A i))):=(bC_ m.tab i).trans (tabC_get A i hi)
def upN (h:Nat→Nd) (i:Nat) (x:Nd):Nat→Nd:=fun j=>if j=i then x else h j
theorem Mem.set {w:World} {n0 F:Nat} {A:Nat→Option Nat} {h:Nat→Nd} (m:Mem w n0 F A h) {i b:Nat} (e:A i=some b) (k:Nat) (v:Value) (x:Nd) (hx:(nodeC A i (h i)).setIfInBounds k v=nodeC A i x)
  (xu:x.up=0∨A x.up≠none) (xf:x.first=0∨A x.first≠none) (xn:x.next=0∨A x.next≠none):Mem (w.setCell ⟨b,k,none⟩ v) n0 F A (upN h i x) where
 z:=m.z
 rng:=m.rng
 inj:=m.inj
 ne:=m.ne
 lo:=m.lo
 loF:=m.loF
 tab:=blk_far m.tab (fun e2=>m.ne i b e e2.symm) v
 nod:=fun j c ec=>by
  unfold upN
  by_cases hj:j=i
  ·subst hj
   obtain rfl:c=b:=by rw [e] at ec;exact (sj_ ec).symm
   rw [if_pos rfl,←hx]
   exact blk_set (m.nod j c e) k v
  ·rw [if_neg hj]
   exact blk_far (m.nod j c ec) (fun (e2:c=b)=>hj (m.inj j i c ec (e2 ▸ e))) v
 cu:=fun j hj=>by unfold upN;split;exact xu;exact m.cu j hj
 cf:=fun j hj=>by unfold upN;split;exact xf;exact m.cf j hj
 cn:=fun j hj=>by unfold upN;split;exact xn;exact m.cn j hj
theorem Mem.ext {w:World} {n0 F:Nat} {A:Nat→Option Nat} {h h':Nat→Nd} (m:Mem w n0 F A h) (e:∀ j,h j=h' j):Mem w n0 F A h':=(funext e:h=h') ▸ m
def upA (A:Nat→Option Nat) (i b:Nat):Nat→Option Nat:=fun j=>if j=i then some b else A j
theorem tabC_up (A:Nat→Option Nat) (i b:Nat) (hi:i < 37):(tabC A).setIfInBounds i (.pointer (some ⟨b,0,none⟩))=tabC (upA A i b):=by
 unfold tabC
 rw [List.setIfInBounds_toArray]
 congr 1
 apply List.ext_getElem (by simp)
 intro k h1 h2
 simp only [List.getElem_set,List.getElem_map,List.getElem_range,upA]
 by_cases hk:i=k
 ·rw [if_pos hk,if_pos hk.symm];rfl
 ·rw [if_neg hk,if_neg (fun e=>hk e.symm)]
theorem Mem.add {w:World} {n0 F:Nat} {A:Nat→Option Nat} {h:Nat→Nd} (m:Mem w n0 F A h) {i:Nat} (h0:i≠0) (hi:i < 37) (hA:A i=none) (hne:∀ j,A j≠none→(h j).up≠i∧(h j).first≠i∧(h j).next≠i) {b:Nat} {t:ByteArray} (hb:∀ j,A j≠some b) (hbF:b≠F) (hlo:n0≤b)
  (hnew:w.heap[b]?=some (.cells #[.int .i64 (i:Int),.string t,.pointer none,.pointer none,.pointer none] 85 (0,0))) :
  Mem (w.setCell ⟨F,i,none⟩ (.pointer (some ⟨b,0,none⟩))) n0 F (upA A i b) (upN h i ⟨t,0,0,0⟩) where
 z:=by unfold upA;rw [if_neg (fun e=>h0 e.symm)];exact m.z
 rng:=fun j c e=>by
  unfold upA at e
  by_cases hj:j=i
  ·rw [hj];exact hi
  ·rw [if_neg hj] at e;exact m.rng j c e
 inj:=fun j k c ej ek=>by
  unfold upA at ej ek
  by_cases hj:j=i
  ·by_cases hk:k=i
   ·rw [hj,hk]
   ·rw [if_pos hj] at ej;rw [if_neg hk] at ek
    exact absurd (ek.trans ej.symm) (hb k)
  ·by_cases hk:k=i
   ·rw [if_neg hj] at ej;rw [if_pos hk] at ek
    exact absurd (ej.trans ek.symm) (hb j)
   ·rw [if_neg hj] at ej;rw [if_neg hk] at ek
    exact m.inj j k c ej ek
 ne:=fun j c e=>by
  unfold upA at e
  by_cases hj:j=i
  ·rw [if_pos hj] at e;rw [←sj_ e];exact hbF
  ·rw [if_neg hj] at e;exact m.ne j c e
 lo:=fun j c e=>by
  unfold upA at e
  by_cases hj:j=i
  ·rw [if_pos hj] at e;rw [←sj_ e];exact hlo
  ·rw [if_neg hj] at e;exact m.lo j c e
 loF:=m.loF
 tab:=by
  rw [←tabC_up A i b hi]
  exact blk_set m.tab i _
 nod:=fun j c e=>by
  have hF:∀ {c:Nat} {cs:Array Value} {t:TypeId},c≠F→w.heap[c]?=some (.cells cs t (0,0))→(w.setCell ⟨F,i,none⟩ (.pointer (some ⟨b,0,none⟩))).heap[c]?=some (.cells cs t (0,0)):=fun hc hh=>blk_far hh (p:=⟨F,i,none⟩) hc _
  unfold upA at e
  by_cases hj:j=i
  ·rw [if_pos hj] at e
   obtain rfl:=sj_ e
   subst hj
   have:nodeC (upA A j b) j (upN h j ⟨t,0,0,0⟩ j)=#[.int .i64 (j:Int),.string t,.pointer none,.pointer none,.pointer none]:=by
    have h0':¬ (0=j):=fun e=>h0 e.symm
    simp [nodeC,upN,upA,h0',m.z,pa]
   rw [this]
   exact hF hbF hnew
  ·rw [if_neg hj] at e
   have hn:=m.nod j c e
   have e2:nodeC (upA A i b) j (upN h i ⟨t,0,0,0⟩ j)=nodeC A j (h j):=by
    obtain ⟨n1,n2,n3⟩:=hne j (by rw [e];simp)
    unfold nodeC upN upA
    rw [if_neg hj,if_neg n1,if_neg n2,if_neg n3]
   rw [e2]
   exact hF (m.ne j c e) hn
 cu:=fun j hj=>by
  unfold upN
  by_cases hji:j=i
  ·rw [if_pos hji];exact Or.inl rfl
  ·rw [if_neg hji]
   have hj':A j≠none:=by unfold upA at hj;rw [if_neg hji] at hj;exact hj
   rcases m.cu j hj' with h1|h1
   ·exact Or.inl h1
   ·right;unfold upA;split;simp;exact h1
 cf:=fun j hj=>by
  unfold upN
  by_cases hji:j=i
  ·rw [if_pos hji];exact Or.inl rfl
  ·rw [if_neg hji]
   have hj':A j≠none:=by unfold upA at hj;rw [if_neg hji] at hj;exact hj
   rcases m.cf j hj' with h1|h1
   ·exact Or.inl h1
   ·right;unfold upA;split;simp;exact h1
 cn:=fun j hj=>by
  unfold upN
  by_cases hji:j=i
  ·rw [if_pos hji];exact Or.inl rfl
  ·rw [if_neg hji]
   have hj':A j≠none:=by unfold upA at hj;rw [if_neg hji] at hj;exact hj
   rcases m.cn j hj' with h1|h1
   ·exact Or.inl h1
   ·right;unfold upA;split;simp;exact h1
theorem nodeSize:(Tryd.prog.info? 85).map (·.size)=some 5:=by kernel_rfl
theorem equalS (a:Addr) (w:World):(Op.equal 70 (.pointer (some a)) (.pointer (some a))).run Tryd.prog w=.ok true w:=by
 obtain ⟨j,hj,hjs⟩:=Option.map_eq_some_iff.1 nodeSize
 have h:∀ d:Nat,(Op.equalIn (d+1) 70 (.pointer (some a)) (.pointer (some a))).run Tryd.prog w=.ok true w:=fun d=>by
  simp [Op.equalIn,run_underlying Tryd.underlying70,sizeOf,typeInfo,hj,run_sameAddr_same]
 simp [Op.equal,Op.maxDepth,h 9999]
theorem equalO {a b:Addr} {ca cb:Array Value} {ta tb:TypeId} (w:World) (hne:a≠b) (ha:w.heap[a.block]?=some (.cells ca ta (0,0))) (hb:w.heap[b.block]?=some (.cells cb tb (0,0))) :
  (Op.equal 70 (.pointer (some a)) (.pointer (some b))).run Tryd.prog w=.ok false w:=by
 obtain ⟨j,hj,hjs⟩:=Option.map_eq_some_iff.1 nodeSize
 have hsz:j.size≠0:=by rw [hjs];decide
 have h:∀ d:Nat,(Op.equalIn (d+1) 70 (.pointer (some a)) (.pointer (some b))).run Tryd.prog w=.ok false w:=fun d=>by
  simp [Op.equalIn,run_underlying Tryd.underlying70,sizeOf,typeInfo,hj,hsz,run_sameAddr_other w hne ha hb]
 simp [Op.equal,Op.maxDepth,h 9999]
theorem eqS (a:Addr) (w:World):(binOp .eql 70 (.pointer (some a)) (.pointer (some a))).run Tryd.prog w=.ok (.bool true) w:=by
 simp only [binOp];simp [equalS]
theorem neS (a:Addr) (w:World):(binOp .neq 70 (.pointer (some a)) (.pointer (some a))).run Tryd.prog w=.ok (.bool false) w:=by
 simp only [binOp];simp [equalS]
theorem eqO {a b:Addr} {ca cb:Array Value} {ta tb:TypeId} (w:World) (hne:a≠b) (ha:w.heap[a.block]?=some (.cells ca ta (0,0))) (hb:w.heap[b.block]?=some (.cells cb tb (0,0))) :
  (binOp .eql 70 (.pointer (some a)) (.pointer (some b))).run Tryd.prog w=.ok (.bool false) w:=by
 simp only [binOp];simp [equalO w hne ha hb]
theorem neO {a b:Addr} {ca cb:Array Value} {ta tb:TypeId} (w:World) (hne:a≠b) (ha:w.heap[a.block]?=some (.cells ca ta (0,0))) (hb:w.heap[b.block]?=some (.cells cb tb (0,0))) :
  (binOp .neq 70 (.pointer (some a)) (.pointer (some b))).run Tryd.prog w=.ok (.bool true) w:=by
 simp only [binOp];simp [equalO w hne ha hb]
theorem blk_ne {b c:Nat} (h:b≠c):(⟨b,0,none⟩:Addr)≠⟨c,0,none⟩:=fun e=>h (congrArg Addr.block e)
theorem Mem.eqn {w:World} {n0 F:Nat} {A:Nat→Option Nat} {h:Nat→Nd} (m:Mem w n0 F A h) {i j b c:Nat} (hi:A i=some b) (hj:A j=some c) (hne:i≠j):(binOp .eql 70 (.pointer (some ⟨b,0,none⟩)) (.pointer (some ⟨c,0,none⟩))).run Tryd.prog w=.ok (.bool false) w :=
 eqO w (blk_ne fun e=>hne (m.inj i j b hi (e ▸ hj))) (m.nod i b hi) (m.nod j c hj)
theorem Mem.nen {w:World} {n0 F:Nat} {A:Nat→Option Nat} {h:Nat→Nd} (m:Mem w n0 F A h) {i j b c:Nat} (hi:A i=some b) (hj:A j=some c) (hne:i≠j):(binOp .neq 70 (.pointer (some ⟨b,0,none⟩)) (.pointer (some ⟨c,0,none⟩))).run Tryd.prog w=.ok (.bool true) w :=
 neO w (blk_ne fun e=>hne (m.inj i j b hi (e ▸ hj))) (m.nod i b hi) (m.nod j c hj)
def findA (A:Nat→Option Nat) (id:Int):Option Nat:=if 0≤id∧id < 37 then A id.toNat else none
theorem find_any {w:World} {n0 F:Nat} {A:Nat→Option Nat} {h:Nat→Nd} (m:Mem w n0 F A h) (id:Int) :
  Calls Tryd.prog 61 #[.pointer (some ⟨F,0,none⟩),.int .i64 id] w fun e w'=>e=.returned (.pointer (pa (findA A id)))∧w'=w:=by
 unfold findA
 by_cases h0:id < 0
 ·rw [if_neg (by omega)]
  have hd:decide (id < 0)=true:=dt_ h0
  go_enter Tryd.func61,Tryd.ntmps61
  go_wp2
  go_ret
  exact ⟨rfl,rfl⟩
 ·by_cases h1:37≤id
  ·rw [if_neg (by omega)]
   have hd:decide (id < 0)=false:=df_ h0
   have hd1:decide (37≤id)=true:=dt_ h1
   go_enter Tryd.func61,Tryd.ntmps61
   go_wp2
   go_ret
   exact ⟨rfl,rfl⟩
  ·rw [if_pos (by omega)]
   obtain ⟨i,rfl⟩:=Int.eq_ofNat_of_zero_le (show 0≤id by omega)
   have hd:decide ((i:Int) < 0)=false:=df_ h0
   have hd1:decide (37≤(i:Int))=false:=df_ h1
   have hc:=m.cF i (by omega)
   have hi:(i:Int) < 37:=by omega
   have hi0:0≤(i:Int):=by omega
   rw [Int.toNat_natCast]
   go_enter Tryd.func61,Tryd.ntmps61
   go_wp2
   go_ret
   exact ⟨rfl,rfl⟩
theorem nodeC_2 (A:Nat→Option Nat) (i:Nat) (x:Nd) (u:Nat):(nodeC A i x).setIfInBounds 2 (.pointer (pa (A u)))=nodeC A i ⟨x.t,u,x.first,x.next⟩:=rfl
theorem nodeC_3 (A:Nat→Option Nat) (i:Nat) (x:Nd) (u:Nat):(nodeC A i x).setIfInBounds 3 (.pointer (pa (A u)))=nodeC A i ⟨x.t,x.up,u,x.next⟩:=rfl
theorem nodeC_4 (A:Nat→Option Nat) (i:Nat) (x:Nd) (u:Nat):(nodeC A i x).setIfInBounds 4 (.pointer (pa (A u)))=nodeC A i ⟨x.t,x.up,x.first,u⟩:=rfl
theorem nodeC_1 (A:Nat→Option Nat) (i:Nat) (x:Nd) (t:ByteArray):(nodeC A i x).setIfInBounds 1 (.string t)=nodeC A i ⟨t,x.up,x.first,x.next⟩:=rfl
theorem Mem.setU {w:World} {n0 F:Nat} {A:Nat→Option Nat} {h:Nat→Nd} (m:Mem w n0 F A h) {i b:Nat} (e:A i=some b) (u:Nat) (hu:u=0∨A u≠none):Mem (w.setCell ⟨b,2,none⟩ (.pointer (pa (A u)))) n0 F A (upN h i ⟨(h i).t,u,(h i).first,(h i).next⟩) :=
 m.set e 2 _ _ (nodeC_2 A i (h i) u) hu (m.cf i (by rw [e];simp)) (m.cn i (by rw [e];simp))
theorem Mem.setF {w:World} {n0 F:Nat} {A:Nat→Option Nat} {h:Nat→Nd} (m:Mem w n0 F A h) {i b:Nat} (e:A i=some b) (u:Nat) (hu:u=0∨A u≠none):Mem (w.setCell ⟨b,3,none⟩ (.pointer (pa (A u)))) n0 F A (upN h i ⟨(h i).t,(h i).up,u,(h i).next⟩) :=
 m.set e 3 _ _ (nodeC_3 A i (h i) u) (m.cu i (by rw [e];simp)) hu (m.cn i (by rw [e];simp))
theorem Mem.setN {w:World} {n0 F:Nat} {A:Nat→Option Nat} {h:Nat→Nd} (m:Mem w n0 F A h) {i b:Nat} (e:A i=some b) (u:Nat) (hu:u=0∨A u≠none):Mem (w.setCell ⟨b,4,none⟩ (.pointer (pa (A u)))) n0 F A (upN h i ⟨(h i).t,(h i).up,(h i).first,u⟩) :=
 m.set e 4 _ _ (nodeC_4 A i (h i) u) (m.cu i (by rw [e];simp)) (m.cf i (by rw [e];simp)) hu
theorem Mem.setT {w:World} {n0 F:Nat} {A:Nat→Option Nat} {h:Nat→Nd} (m:Mem w n0 F A h) {i b:Nat} (e:A i=some b) (t:ByteArray):Mem (w.setCell ⟨b,1,none⟩ (.string t)) n0 F A (upN h i ⟨t,(h i).up,(h i).first,(h i).next⟩) :=
 m.set e 1 _ _ (nodeC_1 A i (h i) t) (m.cu i (by rw [e];simp)) (m.cf i (by rw [e];simp)) (m.cn i (by rw [e];simp))
theorem attach_first {w:World} {n0 F:Nat} {A:Nat→Option Nat} {h:Nat→Nd} (m:Mem w n0 F A h) {i u bi bu:Nat} (hi:A i=some bi) (hu:A u=some bu) (hne:u≠i) :
  Calls Tryd.prog 96 #[.pointer (some ⟨bi,0,none⟩),.pointer (some ⟨bu,0,none⟩),.pointer none] w fun e w'=>(∃ v,e=.returned v)∧Mem w' n0 F A (attachH h i u 0)∧Below n0 w w'∧(∀ k,(∀ x,A x≠some k)→w'.heap[k]?=w.heap[k]?):=by
 have hnb:bu≠bi:=fun e=>hne (m.inj u i bu hu (e ▸ hi))
 have hnb':bi≠bu:=fun e=>hnb e.symm
 have c3:=m.c3 hu
 have c4:=m.c4 hi
 have c2:=m.c2 hi
 have z2:=m.fz hi 2
 have z4:=m.fz hi 4
 have z3:=m.fz hu 3
 have M3:=a_ (((m.setU hi u (Or.inr (by rw [hu];simp))).setN hi (h u).first (m.cf u (by rw [hu];simp))).setF hu i (Or.inr (by rw [hi];simp)))
 rw [hu,hi,pa_some,pa_some] at M3
 have L1:=m.lo i bi hi
 have L2:=m.lo u bu hu
 have HI:=a_ hi
 have HU:=a_ hu
 clear m hi hu
 go_enter Tryd.func96,Tryd.ntmps96
 go_wp2
 refine bodyPost_ret (results_none rfl _ _ _) rfl ?_
 refine ⟨⟨_,rfl⟩,M3.out.ext (fun j=>?_),(((Below.refl n0 w).setCell (p:=⟨bi,2,none⟩) L1 _).setCell (p:=⟨bi,4,none⟩) L1 _).setCell (p:=⟨bu,3,none⟩) L2 _,fun k hk=>by
  rw [Below.heap_setCell _ _ _ _ (fun e=>hk u (by rw [HU.out,e])),Below.heap_setCell _ _ _ _ (fun e=>hk i (by rw [HI.out,e])),Below.heap_setCell _ _ _ _ (fun e=>hk i (by rw [HI.out,e]))]⟩
 unfold attachH upN
 by_cases e1:j=u
 ·subst e1;simp [hne]
 ·by_cases e2:j=i
  ·subst e2;simp [e1]
  ·simp [e1,e2]
theorem attach_behind {w:World} {n0 F:Nat} {A:Nat→Option Nat} {h:Nat→Nd} (m:Mem w n0 F A h) {i u a bi bu ba:Nat} (hi:A i=some bi) (hu:A u=some bu) (ha:A a=some ba) (hne:a≠i) :
  Calls Tryd.prog 96 #[.pointer (some ⟨bi,0,none⟩),.pointer (some ⟨bu,0,none⟩),.pointer (some ⟨ba,0,none⟩)] w fun e w'=>(∃ v,e=.returned v)∧Mem w' n0 F A (attachH h i u a)∧Below n0 w w'∧(∀ k,(∀ x,A x≠some k)→w'.heap[k]?=w.heap[k]?):=by
 have hnb:ba≠bi:=fun e=>hne (m.inj a i ba ha (e ▸ hi))
 have hnb':bi≠ba:=fun e=>hnb e.symm
 have ha0:a≠0:=fun e=>by rw [e,m.z] at ha;cases ha
 have c4:=m.c4 hi
 have c2:=m.c2 hi
 have d4:=m.c4 ha
 have z2:=m.fz hi 2
 have z4:=m.fz hi 4
 have z3:=m.fz ha 4
 have M3:=a_ (((m.setU hi u (Or.inr (by rw [hu];simp))).setN hi (h a).next (m.cn a (by rw [ha];simp))).setN ha i (Or.inr (by rw [hi];simp)))
 rw [hu,hi,pa_some,pa_some] at M3
 have L1:=m.lo i bi hi
 have L2:=m.lo a ba ha
 have HI:=a_ hi
 have HA:=a_ ha
 clear m hi hu ha
 go_enter Tryd.func96,Tryd.ntmps96
 go_wp2
 go_end0
 refine ⟨⟨_,rfl⟩,M3.out.ext (fun j=>?_),(((Below.refl n0 w).setCell (p:=⟨bi,2,none⟩) L1 _).setCell (p:=⟨bi,4,none⟩) L1 _).setCell (p:=⟨ba,4,none⟩) L2 _,fun k hk=>by
  rw [Below.heap_setCell _ _ _ _ (fun e=>hk a (by rw [HA.out,e])),Below.heap_setCell _ _ _ _ (fun e=>hk i (by rw [HI.out,e])),Below.heap_setCell _ _ _ _ (fun e=>hk i (by rw [HI.out,e]))]⟩
 unfold attachH upN
 rw [if_neg ha0]
 by_cases e1:j=a
 ·subst e1;simp [hne]
 ·by_cases e2:j=i
  ·subst e2;simp [e1]
  ·simp [e1,e2]
def withinF (h:Nat→Nd) (u:Nat):Nat→Nat→Option Bool
 | 0,_=>none
 | k+1,x=>if x=0 then some false else if x=u then some true else withinF h u k (h x).up
theorem within_any {w:World} {n0 F:Nat} {A:Nat→Option Nat} {h:Nat→Nd} (m:Mem w n0 F A h) (x u:Nat) (hx:x=0∨A x≠none) {c:Nat} (hu:A u=some c) (k:Nat) (r:Bool) (hr:withinF h u k x=some r) :
  Calls Tryd.prog 62 #[.pointer (pa (A x)),.pointer (some ⟨c,0,none⟩)] w fun e w'=>e=.returned (.bool r)∧w'=w:=by
 have HX:=a_ hx
 have HR:=a_ hr
 have M:=a_ m
 have HU:=a_ hu
 clear hx hr m hu
 go_enter Tryd.func62,Tryd.ntmps62
 go_wp2
 go_loopg [0] k (fun kq v w'=>∃ y:Nat,v=.pointer (pa (A y))∧Aside0 (y=0∨A y≠none)∧Aside0 (withinF h u kq y=some r)∧w'=w)
 case atStart=>exact ⟨x,rfl,HX,HR,rfl⟩
 case round =>
  obtain ⟨y,rfl,HY,HQ,rfl⟩:=hrel
  clear HX HR
  cases gk with
  | zero=>exact absurd HQ.out (by simp [withinF])
  | succ k1 =>
   have hq:=HQ.out
   clear HQ
   unfold withinF at hq
   by_cases hy0:y=0
   ·rw [if_pos hy0] at hq
    obtain rfl:=sj_ hq
    subst hy0
    have hz:=M.out.z
    rw [hz,pa_none]
    clear hq hz HY
    go_wp2
    go_ret
    exact ⟨rfl,rfl⟩
   ·rw [if_neg hy0] at hq
    obtain ⟨b,hb⟩:=Option.ne_none_iff_exists'.1 (HY.out.resolve_left hy0)
    have HB:=a_ hb
    have HC:=HU
    clear hb
    by_cases hyu:y=u
    ·rw [if_pos hyu] at hq
     obtain rfl:=sj_ hq
     subst hyu
     obtain rfl:b=c:=sj_ (HB.out.symm.trans HC.out)
     rw [HB.out,pa_some]
     have hE:=eqS ⟨b,0,none⟩ wr
     clear hq
     go_wp2
     go_ret
     exact ⟨rfl,rfl⟩
    ·rw [if_neg hyu] at hq
     have hbc:b≠c:=fun e=>hyu (M.out.inj y u b HB.out (e ▸ HC.out))
     have c2:=M.out.c2 HB.out
     have HQ:=a_ hq
     have HUP:=a_ (M.out.cu y (by rw [HB.out];simp))
     have hE:=M.out.eqn HB.out HC.out hyu
     rw [HB.out,pa_some]
     clear hq
     go_wp2
     go_roundg k1
     case measure=>exact Nat.lt_succ_self _
     case rel=>exact ⟨(h y).up,rfl,HUP,HQ,rfl⟩
end Go.Proofs.YtlkheeegkifblaaDoor.P
namespace Go.Proofs.YtlkheeegkifblaaDoor.P
open Go.RowKit Go.Shelf Go.Proofs.YtlkheeegkifblaaDoorW.PrintWords Go.Proofs.YtlkheeegkifblaaDoorW.PrintLast Go.Proofs.YtlkheeegkifblaaDoorW.PrintMore Go.Proofs.YtlkheeegkifblaaDoor.FP
attribute [local go_sem] Oper.semAt_some

def NList (A:Nat→Option Nat) (n0:Nat) (W:World):Option Addr→List Nat→Prop
 | p,[]=>p=none
 | p,x::rest=>∃ b q,A x=some b∧p=some ⟨b,0,none⟩∧b < n0∧W.cell? ⟨b,4,none⟩=some (.pointer q)∧NList A n0 W q rest
theorem NList.below {A:Nat→Option Nat} {n0:Nat} {V W:World} (h:Below n0 V W):∀ {p:Option Addr} {xs:List Nat},NList A n0 V p xs→NList A n0 W p xs
 | _,[],hl=>hl
 | _,_::_,⟨b,q,h1,h2,h3,h4,h5⟩=>⟨b,q,h1,h2,h3,(h.cell (p:=⟨b,4,none⟩) h3).trans h4,NList.below h h5⟩
theorem NList.len {A:Nat→Option Nat} {n0:Nat} {W:World}:∀ {xs ys:List Nat} {p:Option Addr},NList A n0 W p xs→NList A n0 W p ys→xs.length=ys.length
 | [],[],_,_,_=>rfl
 | [],_::_,_,h,⟨b,q,_,h2,_⟩=>by rw [show _=none from h] at h2;cases h2
 | _::_,[],_,⟨b,q,_,h2,_⟩,h=>by rw [show _=none from h] at h2;cases h2
 | _::_,_::_,_,⟨b,q,h1,h2,h3,h4,h5⟩,⟨c,r,g1,g2,g3,g4,g5⟩=>by
  rw [h2] at g2
  obtain rfl:b=c:=congrArg Addr.block (sj_ g2)
  rw [h4] at g4
  obtain rfl:q=r:=by injection g4 with e;injection e
  rw [List.length_cons,List.length_cons,NList.len h5 g5]
open Classical in
noncomputable def nleft (A:Nat→Option Nat) (n0:Nat) (W:World) (v:Value):Nat :=
 if h:∃ r:Option Addr×List Nat,v=.pointer r.1∧NList A n0 W r.1 r.2 then (Classical.choose h).2.length else 0
theorem nleft_eq {A:Nat→Option Nat} {n0:Nat} {W:World} {q:Option Addr} {xs:List Nat} (h:NList A n0 W q xs):nleft A n0 W (.pointer q)=xs.length:=by
 have hex:∃ r:Option Addr×List Nat,Value.pointer q=.pointer r.1∧NList A n0 W r.1 r.2:=⟨(q,xs),rfl,h⟩
 unfold nleft
 rw [dif_pos hex]
 obtain ⟨e,hl⟩:=Classical.choose_spec hex
 have e':q=(Classical.choose hex).1:=by simpa using e
 rw [←e'] at hl
 exact NList.len hl h
theorem nlist_of {w:World} {n0 F:Nat} {A:Nat→Option Nat} {h:Nat→Nd} (m:Mem w n0 F A h) {up:Nat}:∀ {G:Fo},Rep h up G→(∀ x∈G.ids,A x≠none)→NList A w.heap.size w (pa (A G.hd)) G.tops
 | .nil,_,_=>by show pa (A 0)=none;rw [m.z];rfl
 | .nd i t k n,⟨h1,h2,h3,h4⟩,hA=>by
  obtain ⟨b,hb⟩:=Option.ne_none_iff_exists'.1 (hA i (by simp [Fo.ids]))
  refine ⟨b,pa (A n.hd),hb,by show pa (A i)=_;rw [hb];rfl,m.lt hb,?_,nlist_of m h4 fun x hx=>hA x (by simp [Fo.ids,hx])⟩
  rw [m.c4 hb,h2]
theorem kids_in (F:Fence) (n:Nat) (hf:F.fn 77) (hro:F.round=none) (p0:Option Addr) (w:World) :
  CallsIn F n Tryd.prog 77 #[.pointer p0] w fun e w'=>e=.returned (.func (.func 105) #[] #[.pointer (some ⟨w.heap.size,0,none⟩)])∧w'=w.alloc (.cells #[.pointer p0] 70):=by
 refine callsIn_of_wp Tryd.func77 rfl hf ?_ hro
 simp only [Tryd.ntmps77,List.size_toArray,List.length_cons,List.length_nil,Nat.reduceAdd,Nat.reduceSub,Array.replicate_succ,Array.replicate_zero,List.push_toArray,List.append_toArray,List.nil_append,List.cons_append]
 gi_wp2
 go_ret
 exact ⟨rfl,rfl⟩
structure KA (Q:Nat→Prop) where
 val:Nat
 ok:Q val
theorem kids1_in (F:Fence) (n:Nat) (hf:F.fn 105) (hro:F.round=none) (hn:1≤n) (l Bn n0 b:Nat) (Q:Nat→Prop) (A:Nat→Option Nat) (p0:Option Addr) (xs:List (KA Q)) (J Jx:List (KA Q)→World→Prop)
  (hY:∀ pre x W,J pre W→pre.length < xs.length→YieldAt F (n - 1) Tryd.prog l #[.pointer (pa (A x.val))] W fun e W' =>
   (e=.returned (.bool true)∧J (pre++[x]) W'∧Below n0 W W')∨(e=.returned (.bool false)∧Jx (pre++[x]) W'))
  (W:World) (hBn:W.cell? ⟨Bn,0,none⟩=some (.pointer (some ⟨b,0,none⟩))) (hb3:W.cell? ⟨b,3,none⟩=some (.pointer p0)) (hL:NList A n0 W p0 (xs.map KA.val)) (h0:J [] W) :
  CallsIn F n Tryd.prog 105 #[.func (.yield l) #[] #[],.pointer (some ⟨Bn,0,none⟩)] W fun e W'=>(∃ v,e=.returned v) ∧
   ((∃ ys,ys=xs∧J ys W')∨(∃ pre,pre <+: xs∧Jx pre W')):=by
 refine callsIn_of_wp Tryd.func105 rfl hf ?_ hro
 simp only [Tryd.ntmps105,List.size_toArray,List.length_cons,List.length_nil,Nat.reduceAdd,Nat.reduceSub,Array.replicate_succ,Array.replicate_zero,List.push_toArray,List.append_toArray,List.nil_append,List.cons_append]
 gi_wp2
 gi_loopw [3] (fun p wr=>∃ (pre rest:List (KA Q)) (q:Option Addr),p=.pointer q∧xs=pre++rest∧NList A n0 wr q (rest.map KA.val)∧J pre wr)
  (fun p wr=>nleft A n0 wr p)
 case atStart =>
  exact ⟨[],xs,p0,rfl,rfl,hL,h0⟩
 case round =>
  obtain ⟨pre,rest,q,rfl,hx,hl,hJs⟩:=hrel
  cases rest with
  | nil =>
   obtain rfl:q=none:=hl
   gi_wp2
   go_end0
   exact ⟨⟨_,rfl⟩,.inl ⟨pre,by simp [hx],hJs⟩⟩
  | cons x rest =>
   have hl':=hl
   obtain ⟨c,q',hA,rfl,hc,hq,hr⟩:=hl
   obtain ⟨fn,tmps,assign,body,hy,hR⟩:=hY pre x wr hJs (by rw [hx];simp)
   rw [hA,pa_some] at hy
   have HA:=a_ hA
   clear hA
   gi_wp2
   refine hR.mono ?_
   rintro e W3 (⟨rfl,hJ3,hk3⟩|⟨rfl,hJx3⟩)
   ·have hq3:W3.cell? ⟨c,4,none⟩=some (.pointer q'):=(hk3.cell (p:=⟨c,4,none⟩) hc).trans hq
    gi_wp2
    go_roundw
    case rel=>exact ⟨pre++[x],rest,q',rfl,by simp [hx],hr.below hk3,hJ3⟩
    case measure=>rw [nleft_eq (hr.below hk3),nleft_eq hl'];simp
   ·gi_wp2
    refine bodyPost_ret (results_none rfl _ _ _) rfl ?_
    exact ⟨⟨_,rfl⟩,.inr ⟨pre++[x],⟨rest,by simp [hx]⟩,hJx3⟩⟩
theorem kids_stops (F:Fence) (n:Nat) (hf:F.fn 105) (hro:F.round=none) (hn:1≤n) (Bn n0 b:Nat) (Q:Nat→Prop) (A:Nat→Option Nat) (p0:Option Addr) (xs:List (KA Q)) (w:World) (hBn:Bn < w.heap.size) (hn0:n0≤w.heap.size) (hb:b < w.heap.size)
  (hc:w.cell? ⟨Bn,0,none⟩=some (.pointer (some ⟨b,0,none⟩))) (hb3:w.cell? ⟨b,3,none⟩=some (.pointer p0)) (hL:NList A n0 w p0 (xs.map KA.val)) :
  SeqStopsK F n Tryd.prog 105 #[.pointer (some ⟨Bn,0,none⟩)] (fun x:KA Q=>#[.pointer (pa (A x.val))]) (Below n0) (fun ys=>ys=xs) (fun pre=>pre <+: xs) xs.length w:=fun l J Jx W hW _ _ hY h0 =>
 kids1_in F n hf hro hn l Bn n0 b Q A p0 xs J Jx hY W ((hW.cell (p:=⟨Bn,0,none⟩) hBn).trans hc) ((hW.cell (p:=⟨b,3,none⟩) hb).trans hb3) (hL.below (hW.mono hn0)) h0
theorem attach_val {Q:Nat→Prop}:∀ {l:List Nat} (h:∀ x∈l,Q x),∃ xs:List (KA Q),xs.map KA.val=l
 | [],_=>⟨[],rfl⟩
 | x::l,h=>by
  obtain ⟨xs,hx⟩:=attach_val (l:=l) fun y hy=>h y (List.mem_cons_of_mem _ hy)
  exact ⟨⟨x,h x List.mem_cons_self⟩::xs,by rw [List.map_cons,hx]⟩
def pv (i:Nat):Nat→List Nat→Nat
 | p,[]=>p
 | p,y::r=>if y=i then p else pv i y r
def lastN (p:Nat) (l:List Nat):Nat:=l.foldl (fun _ y=>y) p
theorem pv_done (i:Nat):∀ (l:List Nat) (p:Nat),(∀ y∈l,y≠i)→pv i p l=lastN p l
 | [],p,_=>rfl
 | y::r,p,h=>by
  unfold pv
  rw [if_neg (h y List.mem_cons_self),pv_done i r y fun z hz=>h z (List.mem_cons_of_mem _ hz)]
  rfl
theorem pv_stop (i:Nat) (rest:List Nat):∀ (l:List Nat) (p:Nat),(∀ y∈l,y≠i)→pv i p (l++i::rest)=lastN p l
 | [],p,_=>by show pv i p (i::rest)=p;unfold pv;rw [if_pos rfl]
 | y::r,p,h=>by
  show pv i p (y::(r++i::rest))=_
  unfold pv
  rw [if_neg (h y List.mem_cons_self),pv_stop i rest r y fun z hz=>h z (List.mem_cons_of_mem _ hz)]
  rfl
theorem lastN_snoc (p:Nat) (l:List Nat) (x:Nat):lastN p (l++[x])=x:=by simp [lastN]
theorem cell_of_box_f {W:World} {B:Nat} {v:Value} {t:TypeId} (h:W.heap[B]?=some (.cells #[v] t (0,0))):W.cell? ⟨B,0,none⟩=some v∧W.frozen? ⟨B,0,none⟩=false:=by
 constructor <;> simp [World.cell?,World.frozen?,h]
theorem cell_new_f (W:World) (v:Value) (t:TypeId):(W.alloc (.cells #[v] t)).cell? ⟨W.heap.size,0,none⟩=some v∧(W.alloc (.cells #[v] t)).frozen? ⟨W.heap.size,0,none⟩=false :=
 cell_of_box_f (World.alloc_heap_new W _)
theorem cell_alloc_f {W:World} {a:Addr} {v:Value} (o:Obj) (h:W.cell? a=some v):(W.alloc o).cell? a=some v:=cell_kept h (World.grownBy_alloc W o none) (fun r e=>by cases e)
theorem frozen_alloc_f {W:World} {a:Addr} {v:Value} (o:Obj) (h:W.cell? a=some v) (hf:W.frozen? a=false):(W.alloc o).frozen? a=false:=(frozen_kept h (World.grownBy_alloc W o none) (fun r e=>by cases e)).trans hf
def AheadI (w:World) (A:Nat→Option Nat) (i b:Nat) (pre:List (KA fun x=>A x≠none)) (W:World):Prop :=
 (∀ y∈pre,y.val≠i)∧W.cell? ⟨w.heap.size,0,none⟩=some (.pointer (some ⟨b,0,none⟩))∧W.cell? ⟨w.heap.size+1,0,none⟩=some (.pointer (pa (A (lastN 0 (pre.map KA.val)))))∧W.frozen? ⟨w.heap.size+1,0,none⟩=false
def AheadX (w:World) (A:Nat→Option Nat) (i:Nat) (c:Code) (pre:List (KA fun x=>A x≠none)) (W:World):Prop :=
 c=.exit 0∧∃ (pre':List (KA fun x=>A x≠none)) (x:KA fun x=>A x≠none),pre=pre'++[x]∧x.val=i∧(∀ y∈pre',y.val≠i)∧W.cell? ⟨w.heap.size+1,0,none⟩=some (.pointer (pa (A (lastN 0 (pre'.map KA.val)))))
theorem aheadI_own (w:World) (A:Nat→Option Nat) (i b:Nat):Own (AheadI w A i b):=fun s V W row hs hg hr=>⟨hs.1,cell_kept hs.2.1 hg hr,cell_kept hs.2.2.1 hg hr,(frozen_kept hs.2.2.1 hg hr).trans hs.2.2.2⟩
theorem aheadX_own (w:World) (A:Nat→Option Nat) (i:Nat) (c:Code):Own (AheadX w A i c):=fun s V W row hs hg hr=>by
 obtain ⟨e1,p',x,e2,e3,e4,e5⟩:=hs
 exact ⟨e1,p',x,e2,e3,e4,cell_kept e5 hg hr⟩
theorem ahead_in (F:Fence) (n:Nat) (h79:F.fn 76) (h56:F.fn 77) (h76:F.fn 105) (hro:F.round=none) (hn:3≤n) {w:World} {n0 Fb:Nat} {A:Nat→Option Nat} {h:Nat→Nd} (m:Mem w n0 Fb A h)
  {i u b bu:Nat} (hi:A i=some b) (hu:A u=some bu) (hup:(h i).up=u) (xs:List Nat) (hxs:∀ x∈xs,A x≠none) (hL:NList A w.heap.size w (pa (A (h u).first)) xs) :
  CallsIn F n Tryd.prog 76 #[.pointer (some ⟨b,0,none⟩)] w fun e W'=>e=.returned (.pointer (pa (A (pv i 0 xs))))∧Below w.heap.size w W':=by
 have h1:1≤n:=by omega
 obtain ⟨ys,hys⟩:=attach_val (Q:=fun x=>A x≠none) hxs
 subst hys
 have hz:=m.z
 have c2:=m.c2 hi
 rw [hup,hu,pa_some] at c2
 replace c2:=cell_alloc_f (.cells #[.pointer none] 70) (cell_alloc_f (.cells #[.pointer (some ⟨b,0,none⟩)] 70) c2)
 have c3:=m.c3 hu
 have HBU:=a_ (m.lt hu)
 have HB:=a_ (m.lt hi)
 have M:=a_ m
 have HI:=a_ hi
 have HZ:=a_ hz
 clear hz hi hu hup m
 refine callsIn_of_wp_marks Tryd.func76 rfl h79 ?_ hro
 simp only [Tryd.ntmps76,List.size_toArray,List.length_cons,List.length_nil,Nat.reduceAdd,Nat.reduceSub,Array.replicate_succ,Array.replicate_zero,List.push_toArray,List.append_toArray,List.nil_append,List.cons_append]
 gi_wp2_with (gi_at_call 77;refine (kids_in F (n - 1) h56 hro _ _).mono ?_;rintro e w' ⟨rfl,rfl⟩)
 have b0:=cell_new_f w (.pointer (some ⟨b,0,none⟩)) 70
 have b1:=cell_new_f (w.alloc (.cells #[.pointer (some ⟨b,0,none⟩)] 70)) (.pointer none) 70
 have b2:=cell_new_f ((w.alloc (.cells #[.pointer (some ⟨b,0,none⟩)] 70)).alloc (.cells #[.pointer none] 70)) (.pointer (some ⟨bu,0,none⟩)) 70
 simp only [World.size_alloc] at b1 b2
 have hB0:Below w.heap.size w (((w.alloc (.cells #[.pointer (some ⟨b,0,none⟩)] 70)).alloc (.cells #[.pointer none] 70)).alloc (.cells #[.pointer (some ⟨bu,0,none⟩)] 70)):=(((Below.refl _ w).alloc (Nat.le_refl _) _).alloc (by simp) _).alloc (by simp;omega) _
 refine wpIn_rangeFunc_ownF hro h1 (gf:=105) (lb:=#[.pointer (some ⟨w.heap.size+1+1,0,none⟩)]) rfl h76 (enters_of Tryd.func105 (by kernel_rfl) rfl)
  (kids_stops F (n - 1) h76 hro (by omega) (w.heap.size+1+1) w.heap.size bu _ A _ ys _ (by simp) (by simp;omega) (by simp;have:=HBU.out;omega) b2.1 (cell_alloc_f _ (cell_alloc_f _ (cell_alloc_f _ c3))) (hL.below hB0)) belowK_t (belowK_b (by simp;omega)) (Below.refl _ _) (fun _=>by rfl)
  (fun pre W=>AheadI w A i b pre W∧Below w.heap.size w W)
  (fun c pre W=>AheadX w A i c pre W∧Below w.heap.size w W)
  (OwnFrom.and (Own.from (aheadI_own w A i b) _) (ownFrom_below (Nat.le_refl _) (by simp;omega)))
  (fun c=>OwnFrom.and (Own.from (aheadX_own w A i c) _) (ownFrom_below (Nat.le_refl _) (by simp;omega)))
  ⟨⟨by simp,cell_alloc_f _ (cell_alloc_f _ b0.1),by rw [show lastN 0 (([]:List (KA fun x=>A x≠none)).map KA.val)=0 from rfl,HZ.out];exact cell_alloc_f _ b1.1,frozen_alloc_f _ b1.1 b1.2⟩,hB0⟩
  (fun x=>{ tmps:=#[.pointer (some ⟨b,0,none⟩),.pointer (some ⟨w.heap.size,0,none⟩),.pointer none,.pointer (some ⟨w.heap.size+1,0,none⟩),.pointer (pa (A x.val)),.pointer (some ⟨b,0,none⟩),.pointer (some ⟨b,0,none⟩),.pointer (some ⟨b,2,none⟩),.pointer (some ⟨bu,0,none⟩),.func (.func 105) #[] #[.pointer (some ⟨w.heap.size+1+1,0,none⟩)],.pointer (pa (A x.val)),undef,undef,undef,undef,undef],defers:=[] }) ?assign ?body ?done ?stop
 case assign =>
  intro l x W K hK
  gi_wp2
  exact hK
 case body =>
  rintro l pre x W ⟨⟨hp,hcn,hca,hfa⟩,hB⟩ _
  obtain ⟨c,hc⟩:=Option.ne_none_iff_exists'.1 x.ok
  have MW:=M.out.below hB
  have hbelow:Below w.heap.size W (W.setCell ⟨w.heap.size+1,0,none⟩ (.pointer (some ⟨c,0,none⟩))):=(Below.refl _ W).setCell (p:=⟨w.heap.size+1,0,none⟩) (by simp) _
  by_cases hx:x.val=i
  ·obtain rfl:c=b:=by rw [hx,HI.out] at hc;exact (sj_ hc).symm
   have hE:=eqS ⟨c,0,none⟩ W
   have HX:=a_ hx
   rw [hc,pa_some]
   clear hx hc
   gi_wp2
   exact ⟨KeepsOthers.refl _,⟨rfl,pre,x,rfl,HX.out,hp,hca⟩,hB⟩
  ·have hE:=MW.eqn hc HI.out hx
   have HX:=a_ hx
   have HC:=a_ hc
   rw [hc,pa_some]
   clear hx hc
   gi_wp2
   refine ⟨KeepsOthers.setCell _ _ _,hbelow,⟨fun y hy=>?_,?_,?_,?_⟩,hB.trans hbelow⟩
   ·rcases List.mem_append.1 hy with hy|hy
    ·exact hp y hy
    ·rw [List.mem_singleton.1 hy];exact HX.out
   ·rw [World.cell?_setCell_other _ _ _ _ (by intro e;have:=congrArg Addr.block e;simp at this)];exact hcn
   ·rw [List.map_append,List.map_cons,List.map_nil,lastN_snoc,HC.out]
    exact World.cell?_setCell_same' _ _ _ (by rw [hca];rfl)
   ·rw [World.frozen?_setCell];exact hfa
 case done =>
  rintro D zs W hD rfl ⟨⟨hp,_,hca,_⟩,hB⟩ hK
  gi_wp2
  refine ⟨by simp,.inl ⟨_,_,rfl,run_takeDeferred hK,?_⟩⟩
  refine ⟨_,results_tmp rfl _ _ _,?_,hB.trans (belowK_b (w:=w) (Nat.le_refl _) W D _ _ (by simp at hD;omega) hK rfl rfl)⟩
  rw [pv_done i _ 0 (fun y hy=>by obtain ⟨z,hz,rfl⟩:=List.mem_map.1 hy;exact hp z hz)]
  rfl
 case stop =>
  rintro D c pre W hD hpre ⟨⟨rfl,pre',x,rfl,hx,hp,hca⟩,hB⟩ hK
  gi_wp2
  refine ⟨by simp,.inl ⟨_,_,rfl,run_takeDeferred hK,?_⟩⟩
  refine ⟨_,results_tmp rfl _ _ _,?_,hB.trans (belowK_b (w:=w) (Nat.le_refl _) W D _ _ (by simp at hD;omega) hK rfl rfl)⟩
  obtain ⟨rest,rfl⟩:=hpre
  rw [List.map_append,List.map_append,List.map_cons,List.map_nil,hx,List.append_assoc,List.singleton_append,pv_stop i _ _ 0 (fun y hy=>by obtain ⟨z,hz,rfl⟩:=List.mem_map.1 hy;exact hp z hz)]
  rfl
theorem ahead_any {w:World} {n0 Fb:Nat} {A:Nat→Option Nat} {h:Nat→Nd} (m:Mem w n0 Fb A h)
  {i u b bu:Nat} (hi:A i=some b) (hu:A u=some bu) (hup:(h i).up=u) (xs:List Nat) (hxs:∀ x∈xs,A x≠none) (hL:NList A w.heap.size w (pa (A (h u).first)) xs) :
  Calls Tryd.prog 76 #[.pointer (some ⟨b,0,none⟩)] w fun e W'=>e=.returned (.pointer (pa (A (pv i 0 xs))))∧Below w.heap.size w W' :=
 (callsIn_wide (n:=3)).1 (ahead_in _ 3 trivial trivial trivial rfl (by omega) m hi hu hup xs hxs hL)
theorem detach_any {w:World} {n0 Fb:Nat} {A:Nat→Option Nat} {h:Nat→Nd} (m:Mem w n0 Fb A h)
  {i u b bu:Nat} (hi:A i=some b) (hu:A u=some bu) (hup:(h i).up=u) (hui:u≠i) (xs:List Nat) (hxs:∀ x∈xs,A x≠none) (hL:NList A w.heap.size w (pa (A (h u).first)) xs) (hpv:pv i 0 xs≠0→A (pv i 0 xs)≠none∧pv i 0 xs≠i) :
  Calls Tryd.prog 99 #[.pointer (some ⟨b,0,none⟩)] w fun e W'=>(∃ v,e=.returned v)∧Mem W' n0 Fb A (detachH h i (pv i 0 xs))∧Below n0 w W':=by
 have HA:=a_ (ahead_any m hi hu hup xs hxs hL)
 generalize pv i 0 xs=a at HA hpv ⊢
 have HM:=a_ m
 have HI:=a_ hi
 have HU:=a_ hu
 have HP:=a_ hup
 have hne:bu≠b:=fun e=>hui (m.inj u i bu hu (e ▸ hi))
 have hne0:=a_ hui
 have HS:=a_ (show n0≤w.heap.size from Nat.le_of_lt (Nat.lt_of_le_of_lt (m.lo i b hi) (m.lt hi)))
 have L1:=a_ (m.lo i b hi)
 have L2:=a_ (m.lo u bu hu)
 by_cases ha:a=0
 ·subst ha
  rw [m.z,pa_none] at HA
  have hne':b≠bu:=fun e=>hne e.symm
  clear hL hpv m hi hu hup hui hxs
  go_enter Tryd.func99,Tryd.ntmps99
  go_wp2_with (go_at_call 76;refine (HA.out).mono ?_;clear HA;rintro e W1 ⟨rfl,hb1⟩;have HB1:=a_ hb1;have M1:=a_ (HM.out.below hb1);clear hb1)
  have c2:=M1.out.c2 HI.out
  rw [HP.out,HU.out,pa_some] at c2
  have c4:=M1.out.c4 HI.out
  have z2:=M1.out.fz HI.out 2
  have z4:=M1.out.fz HI.out 4
  have z3:=M1.out.fz HU.out 3
  have c3:=M1.out.c3 HU.out
  go_region
  all_goals go_wp2
  go_end0
  have z:=M1.out.z
  have M4:=((M1.out.setF HU.out (h i).next (M1.out.cn i (by rw [HI.out];simp))).setU HI.out 0 (Or.inl rfl)).setN HI.out 0 (Or.inl rfl)
  rw [z,pa_none] at M4
  refine ⟨⟨_,rfl⟩,M4.drew.ext fun j=>?_,?_⟩
  ·unfold upN detachH
   rw [HP.out]
   by_cases e1:j=i
   ·subst e1;have e':¬ (j=u):=fun e=>hne0.out e.symm
    simp [e']
   ·by_cases e2:j=u
    ·subst e2;simp [e1]
    ·simp [e1,e2]
  ·exact ((((HB1.out.mono HS.out).setCell (p:=⟨bu,3,none⟩) L2.out _).setCell (p:=⟨b,2,none⟩) L1.out _).setCell (p:=⟨b,4,none⟩) L1.out _).drew
 ·obtain ⟨hA1,hai⟩:=hpv ha
  obtain ⟨ba,hba⟩:=Option.ne_none_iff_exists'.1 hA1
  rw [hba,pa_some] at HA
  have HBA:=a_ hba
  have hab:ba≠b:=fun e=>hai (m.inj a i ba hba (e ▸ hi))
  have hab':b≠ba:=fun e=>hab e.symm
  have L3:=a_ (m.lo a ba hba)
  have ha0:=a_ ha
  have hai0:=a_ hai
  clear hL m hi hu hup hui hxs hba hA1 ha hai hne
  go_enter Tryd.func99,Tryd.ntmps99
  go_wp2_with (go_at_call 76;refine (HA.out).mono ?_;clear HA;rintro e W1 ⟨rfl,hb1⟩;have HB1:=a_ hb1;have M1:=a_ (HM.out.below hb1);clear hb1;have c4:=M1.out.c4 HI.out;have c2:=M1.out.c2 HI.out;have z2:=M1.out.fz HI.out 2;have z4:=M1.out.fz HI.out 4;have z3:=M1.out.fz HBA.out 4;have c3:=M1.out.c4 HBA.out)
  go_end0
  have z:=M1.out.z
  have M4:=((M1.out.setN HBA.out (h i).next (M1.out.cn i (by rw [HI.out];simp))).setU HI.out 0 (Or.inl rfl)).setN HI.out 0 (Or.inl rfl)
  rw [z,pa_none] at M4
  refine ⟨⟨_,rfl⟩,M4.ext fun j=>?_,?_⟩
  ·unfold upN detachH
   have ha:=ha0.out
   have hai:=hai0.out
   by_cases e1:j=i
   ·subst e1;have e':¬ (j=a):=fun e=>hai e.symm
    simp [e']
   ·by_cases e2:j=a
    ·subst e2;simp [e1,ha]
    ·simp [e1,e2,ha]
  ·exact (((HB1.out.mono HS.out).setCell (p:=⟨ba,4,none⟩) L3.out _).setCell (p:=⟨b,2,none⟩) L1.out _).setCell (p:=⟨b,4,none⟩) L1.out _
end Go.Proofs.YtlkheeegkifblaaDoor.P
namespace Go.Proofs.YtlkheeegkifblaaDoor.FP
open Go.Proofs.YtlkheeegkifblaaDoor.P
theorem sub_ids (u:Nat):∀ {F:Fo} {y:Nat},y∈(sub u F).ids→y∈F.ids
 | .nil,y,h=>by simp [sub,Fo.ids] at h
 | .nd j t k n,y,h=>by
  unfold sub at h
  split at h
  ·simp [Fo.ids,h]
  ·split at h
   ·simp [Fo.ids,sub_ids u h]
   ·simp [Fo.ids,sub_ids u h]
theorem sub_nodup (u:Nat):∀ {F:Fo},F.ids.Nodup→(sub u F).ids.Nodup
 | .nil,_=>by simp [sub,Fo.ids]
 | .nd j t k n,hn=>by
  obtain ⟨n1,n2,n3,n4,n5⟩:=nodup_nd hn
  unfold sub
  split
  ·exact n3
  ·split
   ·exact sub_nodup u n3
   ·exact sub_nodup u n4
theorem sub_self (u:Nat):∀ {F:Fo},F.ids.Nodup→u∉(sub u F).ids
 | .nil,_=>by simp [sub,Fo.ids]
 | .nd j t k n,hn=>by
  obtain ⟨n1,n2,n3,n4,n5⟩:=nodup_nd hn
  unfold sub
  split
  ·rename_i h;exact h ▸ n1
  ·split
   ·exact sub_self u n3
   ·exact sub_self u n4
theorem rep_sub {h:Nat→Nd} {u:Nat}:∀ {F:Fo} {up:Nat},Rep h up F→F.ids.Nodup→u∈F.ids→Rep h u (sub u F)∧(h u).first=(sub u F).hd
 | .nil,_,_,_,hx=>by simp [Fo.ids] at hx
 | .nd j t k n,up,⟨h1,h2,h3,h4⟩,hn,hx=>by
  obtain ⟨n1,n2,n3,n4,n5⟩:=nodup_nd hn
  simp only [Fo.ids,List.mem_cons,List.mem_append] at hx
  unfold sub
  by_cases e:j=u
  ·subst e;rw [if_pos rfl];exact ⟨h3,by rw [h2]⟩
  ·rw [if_neg e]
   by_cases hk:u∈k.ids
   ·rw [if_pos hk];exact rep_sub h3 n3 hk
   ·rw [if_neg hk];exact rep_sub h4 n4 (by rcases hx with g|g|g;exact absurd g.symm e;exact absurd g hk;exact g)
theorem reptop_sub {h:Nat→Nd} {u:Nat}:∀ {F:Fo},RepTop h F→F.ids.Nodup→u∈F.ids→Rep h u (sub u F)∧(h u).first=(sub u F).hd
 | .nil,_,_,hx=>by simp [Fo.ids] at hx
 | .nd j t k n,⟨h1,h2,h3,h4⟩,hn,hx=>by
  obtain ⟨n1,n2,n3,n4,n5⟩:=nodup_nd hn
  simp only [Fo.ids,List.mem_cons,List.mem_append] at hx
  unfold sub
  by_cases e:j=u
  ·subst e;rw [if_pos rfl];exact ⟨h3,by rw [h2]⟩
  ·rw [if_neg e]
   by_cases hk:u∈k.ids
   ·rw [if_pos hk];exact rep_sub h3 n3 hk
   ·rw [if_neg hk];exact reptop_sub h4 n4 (by rcases hx with g|g|g;exact absurd g.symm e;exact absurd g hk;exact g)
theorem rep_at {h:Nat→Nd} {x:Nat}:∀ {F:Fo} {up:Nat},Rep h up F→F.ids.Nodup→x∈F.ids→(x∈F.tops∧(h x).up=up)∨(x∉F.tops∧(h x).up∈F.ids)
 | .nil,_,_,_,hx=>by simp [Fo.ids] at hx
 | .nd j u k n,up,⟨h1,h2,h3,h4⟩,hn,hx=>by
  obtain ⟨n1,n2,n3,n4,n5⟩:=nodup_nd hn
  simp only [Fo.ids,Fo.tops,List.mem_cons,List.mem_append,not_or] at hx ⊢
  rcases hx with rfl|hx|hx
  ·left;exact ⟨Or.inl rfl,by rw [h2]⟩
  ·right
   refine ⟨⟨fun e=>n1 (e ▸ hx),fun e=>n5 x hx (tops_ids e)⟩,?_⟩
   rcases rep_at h3 n3 hx with ⟨_,e⟩|⟨_,e⟩
   ·exact Or.inl e
   ·exact Or.inr (Or.inl e)
  ·rcases rep_at h4 n4 hx with ⟨e1,e2⟩|⟨e1,e2⟩
   ·exact Or.inl ⟨Or.inr e1,e2⟩
   ·exact Or.inr ⟨⟨fun e=>n2 (e ▸ hx),e1⟩,Or.inr (Or.inr e2)⟩
theorem sib_pv {h:Nat→Nd} {x:Nat}:∀ {F:Fo} {up:Nat} (p:Nat),Rep h up F→F.ids.Nodup→x∈F.ids→sib x p F=if x∈F.tops then pv x p F.tops else pv x 0 (sub (h x).up F).tops
 | .nil,_,_,_,_,hx=>by simp [Fo.ids] at hx
 | .nd j u k n,up,p,⟨h1,h2,h3,h4⟩,hn,hx=>by
  obtain ⟨n1,n2,n3,n4,n5⟩:=nodup_nd hn
  unfold sib
  by_cases e:j=x
  ·subst e
   rw [if_pos rfl,if_pos (by simp [Fo.tops])]
   show p=pv j p (j::n.tops)
   unfold pv
   rw [if_pos rfl]
  ·rw [if_neg e]
   have e':x≠j:=fun g=>e g.symm
   by_cases hk:x∈k.ids
   ·have hxn:x∉n.ids:=n5 x hk
    rw [if_pos hk,if_neg (by simp only [Fo.tops,List.mem_cons,not_or];exact ⟨e',fun g=>hxn (tops_ids g)⟩),sib_pv 0 h3 n3 hk]
    rcases rep_at h3 n3 hk with ⟨g1,g2⟩|⟨g1,g2⟩
    ·rw [if_pos g1,g2]
     unfold sub
     rw [if_pos rfl]
    ·rw [if_neg g1]
     rw [show sub (h x).up (Fo.nd j u k n)=sub (h x).up k by
      rw [sub,if_neg (fun (g:j=(h x).up)=>n1 (by rw [g];exact g2)),if_pos g2]]
   ·have hxn:x∈n.ids:=by
     simp only [Fo.ids,List.mem_cons,List.mem_append] at hx
     rcases hx with g|g|g
     ·exact absurd g e'
     ·exact absurd g hk
     ·exact g
    rw [if_neg hk,sib_pv j h4 n4 hxn]
    rcases rep_at h4 n4 hxn with ⟨g1,g2⟩|⟨g1,g2⟩
    ·rw [if_pos g1,if_pos (by simp [Fo.tops,g1])]
     show pv x j n.tops=pv x p (j::n.tops)
     rw [pv,if_neg e]
    ·rw [if_neg g1,if_neg (by simp only [Fo.tops,List.mem_cons,not_or];exact ⟨e',g1⟩)]
     rw [show sub (h x).up (Fo.nd j u k n)=sub (h x).up n by
      rw [sub,if_neg (fun (g:j=(h x).up)=>n2 (by rw [g];exact g2)),if_neg (fun g=>n5 _ g g2)]]
theorem sibT_pv {h:Nat→Nd} {x:Nat}:∀ {F:Fo},RepTop h F→F.ids.Nodup→x∈F.ids→x∉F.tops→sibT x F=pv x 0 (sub (h x).up F).tops∧x∈(sub (h x).up F).tops
 | .nil,_,_,hx,_=>by simp [Fo.ids] at hx
 | .nd j u k n,⟨h1,h2,h3,h4⟩,hn,hx,ht=>by
  obtain ⟨n1,n2,n3,n4,n5⟩:=nodup_nd hn
  simp only [Fo.ids,Fo.tops,List.mem_cons,List.mem_append,not_or] at hx ht
  unfold sibT
  by_cases hk:x∈k.ids
  ·rw [if_pos hk,sib_pv 0 h3 n3 hk]
   rcases rep_at h3 n3 hk with ⟨g1,g2⟩|⟨g1,g2⟩
   ·rw [if_pos g1,g2]
    unfold sub
    rw [if_pos rfl]
    exact ⟨rfl,g1⟩
   ·rw [if_neg g1]
    rw [show sub (h x).up (Fo.nd j u k n)=sub (h x).up k by rw [sub,if_neg (fun (g:j=(h x).up)=>n1 (by rw [g];exact g2)),if_pos g2]]
    exact ⟨rfl,in_sub h3 n3 hk g1⟩
  ·have hxn:x∈n.ids:=by rcases hx with g|g|g;exact absurd g ht.1;exact absurd g hk;exact g
   rw [if_neg hk]
   obtain ⟨a1,a2⟩:=sibT_pv h4 n4 hxn ht.2
   obtain ⟨a3,_⟩:=reptop_up h4 n4 hxn ht.2
   rw [show sub (h x).up (Fo.nd j u k n)=sub (h x).up n by rw [sub,if_neg (fun (g:j=(h x).up)=>n2 (by rw [g];exact a3)),if_neg (fun g=>n5 _ g a3)]]
   exact ⟨a1,a2⟩
where
 in_sub {h:Nat→Nd} {x:Nat}:∀ {F:Fo} {up:Nat},Rep h up F→F.ids.Nodup→x∈F.ids→x∉F.tops→x∈(sub (h x).up F).tops
 | .nil,_,_,_,hx,_=>by simp [Fo.ids] at hx
 | .nd j u k n,up,⟨h1,h2,h3,h4⟩,hn,hx,ht=>by
  obtain ⟨n1,n2,n3,n4,n5⟩:=nodup_nd hn
  simp only [Fo.ids,Fo.tops,List.mem_cons,List.mem_append,not_or] at hx ht
  rcases hx with g|hk|hxn
  ·exact absurd g ht.1
  ·rcases rep_at h3 n3 hk with ⟨g1,g2⟩|⟨g1,g2⟩
   ·rw [g2,sub,if_pos rfl];exact g1
   ·rw [sub,if_neg (fun (g:j=(h x).up)=>n1 (by rw [g];exact g2)),if_pos g2];exact in_sub h3 n3 hk g1
  ·rcases rep_at h4 n4 hxn with ⟨g1,g2⟩|⟨g1,g2⟩
   ·exact absurd g1 ht.2
   ·rw [sub,if_neg (fun (g:j=(h x).up)=>n2 (by rw [g];exact g2)),if_neg (fun g=>n5 _ g g2)];exact in_sub h4 n4 hxn g1
def under (u x:Nat) (F:Fo):Prop:=u∈F.ids∧(x=u∨x∈(sub u F).ids)
instance (u x:Nat) (F:Fo):Decidable (under u x F):=by unfold under;exact inferInstance
theorem within_rep {h:Nat→Nd} {u x:Nat}:∀ {F:Fo} {up:Nat},Rep h up F→F.ids.Nodup→x∈F.ids→∃ c,∀ k,(under u x F→withinF h u (c+k) x=some true)∧(¬ under u x F→withinF h u (c+k) x=withinF h u k up)
 | .nil,_,_,_,hx=>by simp [Fo.ids] at hx
 | .nd j t m n,up,⟨h1,h2,h3,h4⟩,hn,hx=>by
  obtain ⟨n1,n2,n3,n4,n5⟩:=nodup_nd hn
  have step:∀ k,withinF h u (k+1) j=if j=u then some true else withinF h u k up:=fun k=>by
   rw [withinF,if_neg h1,h2]
  simp only [Fo.ids,List.mem_cons,List.mem_append] at hx
  rcases hx with rfl|hk|hxn
  ·refine ⟨1,fun k=>⟨fun hu=>?_,fun hu=>?_⟩⟩
   ·rw [Nat.add_comm,step]
    by_cases e:x=u
    ·rw [if_pos e]
    ·exfalso
     rcases hu.2 with g|g
     ·exact e g
     ·rw [sub,if_neg e] at g
      split at g
      ·exact n1 (sub_ids u g)
      ·exact n2 (sub_ids u g)
   ·rw [Nat.add_comm,step,if_neg]
    intro e
    exact hu ⟨by simp [Fo.ids,e],Or.inl e⟩
  ·obtain ⟨c,hc⟩:=within_rep (u:=u) h3 n3 hk
   have key:∀ k,withinF h u (c+(k+1)) x=if under u x m then some true else if j=u then some true else withinF h u k up:=fun k=>by
    by_cases hu:under u x m
    ·rw [if_pos hu,(hc (k+1)).1 hu]
    ·rw [if_neg hu,(hc (k+1)).2 hu,step]
   have hiff:under u x (.nd j t m n)↔(under u x m∨j=u):=by
    unfold under
    constructor
    ·rintro ⟨g1,g2⟩
     by_cases e:j=u
     ·exact Or.inr e
     ·left
      rw [sub,if_neg e] at g2
      simp only [Fo.ids,List.mem_cons,List.mem_append] at g1
      by_cases hum:u∈m.ids
      ·rw [if_pos hum] at g2;exact ⟨hum,g2⟩
      ·rw [if_neg hum] at g2
       exfalso
       rcases g2 with g2|g2
       ·exact hum (g2 ▸ hk)
       ·exact n5 x hk (sub_ids u g2)
    ·rintro (⟨g1,g2⟩|e)
     ·refine ⟨by simp [Fo.ids,g1],?_⟩
      rw [sub,if_neg (fun (e:j=u)=>n1 (by rw [e];exact g1)),if_pos g1]
      exact g2
     ·refine ⟨by simp [Fo.ids,e],Or.inr ?_⟩
      rw [sub,if_pos e];exact hk
   refine ⟨c+1,fun k=>?_⟩
   rw [show c+1+k=c+(k+1) by omega,key,hiff]
   refine ⟨fun hu=>?_,fun hu=>?_⟩
   ·rcases hu with hu|hu
    ·rw [if_pos hu]
    ·rw [if_pos hu];split <;> rfl
   ·rw [if_neg (fun g=>hu (Or.inl g)),if_neg (fun g=>hu (Or.inr g))]
  ·obtain ⟨c,hc⟩:=within_rep (u:=u) h4 n4 hxn
   refine ⟨c,fun k=>?_⟩
   have hiff:under u x (.nd j t m n)↔under u x n:=by
    unfold under
    constructor
    ·rintro ⟨g1,g2⟩
     have e:j≠u:=fun e=>by
      rw [sub,if_pos e] at g2
      rcases g2 with g2|g2
      ·exact n2 (by rw [e,←g2];exact hxn)
      ·exact n5 x g2 hxn
     rw [sub,if_neg e] at g2
     by_cases hum:u∈m.ids
     ·rw [if_pos hum] at g2
      exfalso
      rcases g2 with g2|g2
      ·exact n5 u hum (g2 ▸ hxn)
      ·exact n5 x (sub_ids u g2) hxn
     ·rw [if_neg hum] at g2
      simp only [Fo.ids,List.mem_cons,List.mem_append] at g1
      exact ⟨by rcases g1 with g|g|g;exact absurd g.symm e;exact absurd g hum;exact g,g2⟩
    ·rintro ⟨g1,g2⟩
     refine ⟨by simp [Fo.ids,g1],?_⟩
     rw [sub,if_neg (fun (e:j=u)=>n2 (by rw [e];exact g1)),if_neg (fun g=>n5 u g g1)]
     exact g2
   rw [hiff]
   exact hc k
theorem within_top {h:Nat→Nd} {u x:Nat}:∀ {F:Fo},RepTop h F→F.ids.Nodup→x∈F.ids→∃ c,∀ k,(under u x F→withinF h u (c+k) x=some true)∧(¬ under u x F→withinF h u (c+k+1) x=some false)
 | .nil,_,_,hx=>by simp [Fo.ids] at hx
 | .nd j t m n,⟨h1,h2,h3,h4⟩,hn,hx=>by
  obtain ⟨n1,n2,n3,n4,n5⟩:=nodup_nd hn
  have hx2:=hx
  simp only [Fo.ids,List.mem_cons,List.mem_append] at hx
  have hRep:Rep h 0 (.nd j t m .nil):=⟨h1,h2,h3,trivial⟩
  have hnd1:(Fo.nd j t m .nil).ids.Nodup:=by simp [Fo.ids,n1,n3]
  have hz:∀ k,withinF h u (k+1) 0=some false:=fun k=>by rw [withinF,if_pos rfl]
  by_cases hxn:x∈n.ids
  ·obtain ⟨c,hc⟩:=within_top (u:=u) h4 n4 hxn
   have hiff:under u x (.nd j t m n)↔under u x n:=by
    unfold under
    constructor
    ·rintro ⟨g1,g2⟩
     have e:j≠u:=fun e=>by
      rw [sub,if_pos e] at g2
      rcases g2 with g2|g2
      ·exact n2 (by rw [e,←g2];exact hxn)
      ·exact n5 x g2 hxn
     rw [sub,if_neg e] at g2
     by_cases hum:u∈m.ids
     ·rw [if_pos hum] at g2
      exfalso
      rcases g2 with g2|g2
      ·exact n5 u hum (g2 ▸ hxn)
      ·exact n5 x (sub_ids u g2) hxn
     ·rw [if_neg hum] at g2
      simp only [Fo.ids,List.mem_cons,List.mem_append] at g1
      exact ⟨by rcases g1 with g|g|g;exact absurd g.symm e;exact absurd g hum;exact g,g2⟩
    ·rintro ⟨g1,g2⟩
     refine ⟨by simp [Fo.ids,g1],?_⟩
     rw [sub,if_neg (fun (e:j=u)=>n2 (by rw [e];exact g1)),if_neg (fun g=>n5 u g g1)]
     exact g2
   exact ⟨c,fun k=>by rw [hiff];exact hc k⟩
  ·have hx1:x∈(Fo.nd j t m .nil).ids:=by
    simp only [Fo.ids,List.mem_cons,List.mem_append,List.not_mem_nil,or_false]
    rcases hx with g|g|g
    ·exact Or.inl g
    ·exact Or.inr g
    ·exact absurd g hxn
   obtain ⟨c,hc⟩:=within_rep (u:=u) hRep hnd1 hx1
   have hiff:under u x (.nd j t m n)↔under u x (.nd j t m .nil):=by
    unfold under
    have hs:∀ {y:Nat},y∈(sub u (Fo.nd j t m n)).ids→u∉(Fo.nd j t m .nil).ids→y∈n.ids:=fun {y} hy hu=>by
     simp only [Fo.ids,List.mem_cons,List.mem_append,List.not_mem_nil,or_false,not_or] at hu
     rw [sub,if_neg (fun e=>hu.1 e.symm),if_neg hu.2] at hy
     exact sub_ids u hy
    have he:u∈(Fo.nd j t m .nil).ids→sub u (Fo.nd j t m n)=sub u (Fo.nd j t m .nil):=fun hu=>by
     simp only [Fo.ids,List.mem_cons,List.mem_append,List.not_mem_nil,or_false] at hu
     rw [sub,sub]
     by_cases e:j=u
     ·rw [if_pos e,if_pos e]
     ·have hum:u∈m.ids:=hu.resolve_left fun g=>e g.symm
      rw [if_neg e,if_neg e,if_pos hum,if_pos hum]
    constructor
    ·rintro ⟨g1,g2⟩
     by_cases hu:u∈(Fo.nd j t m .nil).ids
     ·exact ⟨hu,he hu ▸ g2⟩
     ·exfalso
      rcases g2 with g2|g2
      ·exact hu (g2 ▸ hx1)
      ·exact hxn (hs g2 hu)
    ·rintro ⟨g1,g2⟩
     refine ⟨?_,by rw [he g1];exact g2⟩
     simp only [Fo.ids,List.mem_cons,List.mem_append,List.not_mem_nil,or_false] at g1 ⊢
     rcases g1 with g|g
     ·exact Or.inl g
     ·exact Or.inr (Or.inl g)
   refine ⟨c,fun k=>?_⟩
   rw [hiff]
   refine ⟨(hc k).1,fun hu=>?_⟩
   rw [show c+k+1=c+(k+1) by omega,(hc (k+1)).2 hu,hz]
theorem ids_insAfter (a i:Nat) (t:ByteArray) (s:Fo):∀ (F:Fo),F.ids.Nodup→a∈F.ids→(insAfter a i t s F).ids.Perm (i::(s.ids++F.ids))
 | .nil,_,hx=>by simp [Fo.ids] at hx
 | .nd j u k n,hn,hx=>by
  obtain ⟨n1,n2,n3,n4,n5⟩:=nodup_nd hn
  simp only [Fo.ids,List.mem_cons,List.mem_append] at hx
  unfold insAfter
  by_cases e:j=a
  ·rw [if_pos e]
   simp only [Fo.ids]
   have:(j::(k.ids++i::(s.ids++n.ids))).Perm (i::(s.ids++(j::(k.ids++n.ids)))):=by
    refine List.perm_iff_count.2 fun z=>?_
    simp only [List.count_cons,List.count_append]
    omega
   exact this
  ·rw [if_neg e]
   simp only [Fo.ids]
   by_cases hk:a∈k.ids
   ·have p:=ids_insAfter a i t s k n3 hk
    rw [insAfter_id a i t s (n5 a hk)]
    refine List.perm_iff_count.2 fun z=>?_
    have q:=List.perm_iff_count.1 p z
    simp only [List.count_cons,List.count_append] at q ⊢
    omega
   ·have hxn:a∈n.ids:=by rcases hx with g|g|g;exact absurd g.symm e;exact absurd g hk;exact g
    have p:=ids_insAfter a i t s n n4 hxn
    rw [insAfter_id a i t s hk]
    refine List.perm_iff_count.2 fun z=>?_
    have q:=List.perm_iff_count.1 p z
    simp only [List.count_cons,List.count_append] at q ⊢
    omega
theorem ids_insFirst (a i:Nat) (t:ByteArray) (s:Fo):∀ (F:Fo),F.ids.Nodup→a∈F.ids→(insFirst a i t s F).ids.Perm (i::(s.ids++F.ids))
 | .nil,_,hx=>by simp [Fo.ids] at hx
 | .nd j u k n,hn,hx=>by
  obtain ⟨n1,n2,n3,n4,n5⟩:=nodup_nd hn
  simp only [Fo.ids,List.mem_cons,List.mem_append] at hx
  unfold insFirst
  by_cases e:j=a
  ·rw [if_pos e]
   simp only [Fo.ids]
   refine List.perm_iff_count.2 fun z=>?_
   simp only [List.count_cons,List.count_append]
   omega
  ·rw [if_neg e]
   simp only [Fo.ids]
   by_cases hk:a∈k.ids
   ·have p:=ids_insFirst a i t s k n3 hk
    rw [insFirst_id a i t s (n5 a hk)]
    refine List.perm_iff_count.2 fun z=>?_
    have q:=List.perm_iff_count.1 p z
    simp only [List.count_cons,List.count_append] at q ⊢
    omega
   ·have hxn:a∈n.ids:=by rcases hx with g|g|g;exact absurd g.symm e;exact absurd g hk;exact g
    have p:=ids_insFirst a i t s n n4 hxn
    rw [insFirst_id a i t s hk]
    refine List.perm_iff_count.2 fun z=>?_
    have q:=List.perm_iff_count.1 p z
    simp only [List.count_cons,List.count_append] at q ⊢
    omega
theorem ids_del (x:Nat):∀ (F:Fo),F.ids.Nodup→x∈F.ids→F.ids.Perm (x::((sub x F).ids++(del x F).ids))
 | .nil,_,hx=>by simp [Fo.ids] at hx
 | .nd j u k n,hn,hx=>by
  obtain ⟨n1,n2,n3,n4,n5⟩:=nodup_nd hn
  simp only [Fo.ids,List.mem_cons,List.mem_append] at hx
  unfold del sub
  by_cases e:j=x
  ·rw [if_pos e,if_pos e]
   simp only [Fo.ids,e]
   exact List.Perm.refl _
  ·rw [if_neg e,if_neg e]
   by_cases hk:x∈k.ids
   ·have p:=ids_del x k n3 hk
    rw [if_pos hk,del_id x (n5 x hk)]
    refine List.perm_iff_count.2 fun z=>?_
    have q:=List.perm_iff_count.1 p z
    simp only [Fo.ids,List.count_cons,List.count_append] at q ⊢
    omega
   ·have hxn:x∈n.ids:=by rcases hx with g|g|g;exact absurd g.symm e;exact absurd g hk;exact g
    have p:=ids_del x n n4 hxn
    rw [if_neg hk,del_id x hk]
    refine List.perm_iff_count.2 fun z=>?_
    have q:=List.perm_iff_count.1 p z
    simp only [Fo.ids,List.count_cons,List.count_append] at q ⊢
    omega
theorem tops_insAfter (a i:Nat) (t:ByteArray) (s:Fo):∀ (F:Fo),a∉F.tops→(insAfter a i t s F).tops=F.tops
 | .nil,_=>rfl
 | .nd j u k n,h=>by
  simp only [Fo.tops,List.mem_cons,not_or] at h
  unfold insAfter
  rw [if_neg (fun e=>h.1 e.symm)]
  simp only [Fo.tops]
  rw [tops_insAfter a i t s n h.2]
theorem tops_insFirst (a i:Nat) (t:ByteArray) (s:Fo):∀ (F:Fo),(insFirst a i t s F).tops=F.tops
 | .nil=>rfl
 | .nd j u k n=>by
  unfold insFirst
  split
  ·rfl
  ·simp only [Fo.tops]
   rw [tops_insFirst a i t s n]
theorem tops_del (x:Nat):∀ (F:Fo),x∉F.tops→(del x F).tops=F.tops
 | .nil,_=>rfl
 | .nd j u k n,h=>by
  simp only [Fo.tops,List.mem_cons,not_or] at h
  unfold del
  rw [if_neg (fun e=>h.1 e.symm)]
  simp only [Fo.tops]
  rw [tops_del x n h.2]
def setF (x:Nat) (t:ByteArray):Fo→Fo
 | .nil=>.nil
 | .nd j u k n=>.nd j (if j=x then t else u) (setF x t k) (setF x t n)
theorem setF_ids (x:Nat) (t:ByteArray):∀ (F:Fo),(setF x t F).ids=F.ids
 | .nil=>rfl
 | .nd j u k n=>by simp [setF,Fo.ids,setF_ids x t k,setF_ids x t n]
theorem setF_tops (x:Nat) (t:ByteArray):∀ (F:Fo),(setF x t F).tops=F.tops
 | .nil=>rfl
 | .nd j u k n=>by simp [setF,Fo.tops,setF_tops x t n]
theorem setF_hd (x:Nat) (t:ByteArray) (F:Fo):(setF x t F).hd=F.hd:=by cases F <;> rfl
theorem rep_setF {h:Nat→Nd} {x:Nat} {t:ByteArray}:∀ {F:Fo} {up:Nat},Rep h up F→Rep (upN h x ⟨t,(h x).up,(h x).first,(h x).next⟩) up (setF x t F)
 | .nil,_,_=>trivial
 | .nd j u k n,up,⟨h1,h2,h3,h4⟩=>by
  refine ⟨h1,?_,rep_setF h3,rep_setF h4⟩
  rw [setF_hd,setF_hd]
  unfold upN
  by_cases e:j=x
  ·rw [if_pos e,if_pos e,←e,h2]
  ·rw [if_neg e,if_neg e,h2]
theorem reptop_setF {h:Nat→Nd} {x:Nat} {t:ByteArray}:∀ {F:Fo},RepTop h F→RepTop (upN h x ⟨t,(h x).up,(h x).first,(h x).next⟩) (setF x t F)
 | .nil,_=>trivial
 | .nd j u k n,⟨h1,h2,h3,h4⟩=>by
  refine ⟨h1,?_,rep_setF h3,reptop_setF h4⟩
  rw [setF_hd]
  unfold upN
  by_cases e:j=x
  ·rw [if_pos e,if_pos e,←e,h2]
  ·rw [if_neg e,if_neg e,h2]
def par (x:Nat) (up:Nat):Fo→Nat
 | .nil=>0
 | .nd j _ k n=>if j=x then up else if x∈k.ids then par x j k else par x up n
theorem rep_par {h:Nat→Nd} {x:Nat}:∀ {F:Fo} {up:Nat},Rep h up F→F.ids.Nodup→x∈F.ids→(h x).up=par x up F
 | .nil,_,_,_,hx=>by simp [Fo.ids] at hx
 | .nd j t k n,up,⟨h1,h2,h3,h4⟩,hn,hx=>by
  obtain ⟨n1,n2,n3,n4,n5⟩:=nodup_nd hn
  simp only [Fo.ids,List.mem_cons,List.mem_append] at hx
  unfold par
  by_cases e:j=x
  ·subst e;rw [if_pos rfl,h2]
  ·rw [if_neg e]
   by_cases hk:x∈k.ids
   ·rw [if_pos hk];exact rep_par h3 n3 hk
   ·rw [if_neg hk];exact rep_par h4 n4 (by rcases hx with g|g|g;exact absurd g.symm e;exact absurd g hk;exact g)
theorem reptop_par {h:Nat→Nd} {x:Nat}:∀ {F:Fo},RepTop h F→F.ids.Nodup→x∈F.ids→(h x).up=par x 0 F
 | .nil,_,_,hx=>by simp [Fo.ids] at hx
 | .nd j t k n,⟨h1,h2,h3,h4⟩,hn,hx=>by
  obtain ⟨n1,n2,n3,n4,n5⟩:=nodup_nd hn
  simp only [Fo.ids,List.mem_cons,List.mem_append] at hx
  unfold par
  by_cases e:j=x
  ·subst e;rw [if_pos rfl,h2]
  ·rw [if_neg e]
   by_cases hk:x∈k.ids
   ·rw [if_pos hk];exact rep_par h3 n3 hk
   ·rw [if_neg hk];exact reptop_par h4 n4 (by rcases hx with g|g|g;exact absurd g.symm e;exact absurd g hk;exact g)
def txtF (x:Nat):Fo→ByteArray
 | .nil=>ByteArray.empty
 | .nd j u k n=>if j=x then u else if x∈k.ids then txtF x k else txtF x n
theorem rep_txt {h:Nat→Nd} {x:Nat}:∀ {F:Fo} {up:Nat},Rep h up F→F.ids.Nodup→x∈F.ids→(h x).t=txtF x F
 | .nil,_,_,_,hx=>by simp [Fo.ids] at hx
 | .nd j t k n,up,⟨h1,h2,h3,h4⟩,hn,hx=>by
  obtain ⟨n1,n2,n3,n4,n5⟩:=nodup_nd hn
  simp only [Fo.ids,List.mem_cons,List.mem_append] at hx
  unfold txtF
  by_cases e:j=x
  ·subst e;rw [if_pos rfl,h2]
  ·rw [if_neg e]
   by_cases hk:x∈k.ids
   ·rw [if_pos hk];exact rep_txt h3 n3 hk
   ·rw [if_neg hk];exact rep_txt h4 n4 (by rcases hx with g|g|g;exact absurd g.symm e;exact absurd g hk;exact g)
theorem reptop_txt {h:Nat→Nd} {x:Nat}:∀ {F:Fo},RepTop h F→F.ids.Nodup→x∈F.ids→(h x).t=txtF x F
 | .nil,_,_,hx=>by simp [Fo.ids] at hx
 | .nd j t k n,⟨h1,h2,h3,h4⟩,hn,hx=>by
  obtain ⟨n1,n2,n3,n4,n5⟩:=nodup_nd hn
  simp only [Fo.ids,List.mem_cons,List.mem_append] at hx
  unfold txtF
  by_cases e:j=x
  ·subst e;rw [if_pos rfl,h2]
  ·rw [if_neg e]
   by_cases hk:x∈k.ids
   ·rw [if_pos hk];exact rep_txt h3 n3 hk
   ·rw [if_neg hk];exact reptop_txt h4 n4 (by rcases hx with g|g|g;exact absurd g.symm e;exact absurd g hk;exact g)
theorem sib_out {x:Nat}:∀ {F:Fo} {h:Nat→Nd} {up p:Nat},Rep h up F→F.ids.Nodup→x∈F.ids→p∉F.ids→sib x p F∉(sub x F).ids
 | .nil,_,_,_,_,_,hx,_=>by simp [Fo.ids] at hx
 | .nd j t k n,h,up,p,⟨h1,h2,h3,h4⟩,hn,hx,hp=>by
  obtain ⟨n1,n2,n3,n4,n5⟩:=nodup_nd hn
  simp only [Fo.ids,List.mem_cons,List.mem_append,not_or] at hx hp
  unfold sib sub
  by_cases e:j=x
  ·rw [if_pos e,if_pos e];exact hp.2.1
  ·rw [if_neg e,if_neg e]
   by_cases hk:x∈k.ids
   ·rw [if_pos hk,if_pos hk];exact sib_out h3 n3 hk (fun g=>h3.ne0 0 g rfl)
   ·rw [if_neg hk,if_neg hk];exact sib_out h4 n4 (by rcases hx with g|g|g;exact absurd g.symm e;exact absurd g hk;exact g) n2
theorem sibT_out {x:Nat}:∀ {F:Fo} {h:Nat→Nd},RepTop h F→F.ids.Nodup→x∈F.ids→x∉F.tops→sibT x F∉(sub x F).ids
 | .nil,_,_,_,hx,_=>by simp [Fo.ids] at hx
 | .nd j t k n,h,⟨h1,h2,h3,h4⟩,hn,hx,ht=>by
  obtain ⟨n1,n2,n3,n4,n5⟩:=nodup_nd hn
  simp only [Fo.ids,Fo.tops,List.mem_cons,List.mem_append,not_or] at hx ht
  unfold sibT sub
  rw [if_neg (fun e=>ht.1 e.symm)]
  by_cases hk:x∈k.ids
  ·rw [if_pos hk,if_pos hk];exact sib_out h3 n3 hk (fun g=>h3.ne0 0 g rfl)
  ·rw [if_neg hk,if_neg hk];exact sibT_out h4 n4 (by rcases hx with g|g|g;exact absurd g ht.1;exact absurd g hk;exact g) ht.2
theorem up_out {h:Nat→Nd} {x:Nat}:∀ {F:Fo} {up:Nat},Rep h up F→F.ids.Nodup→x∈F.ids→up∉F.ids→(h x).up∉(sub x F).ids
 | .nil,_,_,_,hx,_=>by simp [Fo.ids] at hx
 | .nd j t k n,up,⟨h1,h2,h3,h4⟩,hn,hx,hp=>by
  obtain ⟨n1,n2,n3,n4,n5⟩:=nodup_nd hn
  simp only [Fo.ids,List.mem_cons,List.mem_append,not_or] at hx hp
  unfold sub
  by_cases e:j=x
  ·rw [if_pos e,←e,h2];exact hp.2.1
  ·rw [if_neg e]
   by_cases hk:x∈k.ids
   ·rw [if_pos hk];exact up_out h3 n3 hk n1
   ·rw [if_neg hk];exact up_out h4 n4 (by rcases hx with g|g|g;exact absurd g.symm e;exact absurd g hk;exact g) hp.2.2
theorem upT_out {h:Nat→Nd} {x:Nat}:∀ {F:Fo},RepTop h F→F.ids.Nodup→x∈F.ids→x∉F.tops→(h x).up∉(sub x F).ids
 | .nil,_,_,hx,_=>by simp [Fo.ids] at hx
 | .nd j t k n,⟨h1,h2,h3,h4⟩,hn,hx,ht=>by
  obtain ⟨n1,n2,n3,n4,n5⟩:=nodup_nd hn
  simp only [Fo.ids,Fo.tops,List.mem_cons,List.mem_append,not_or] at hx ht
  unfold sub
  rw [if_neg (fun e=>ht.1 e.symm)]
  by_cases hk:x∈k.ids
  ·rw [if_pos hk];exact up_out h3 n3 hk n1
  ·rw [if_neg hk];exact upT_out h4 n4 (by rcases hx with g|g|g;exact absurd g ht.1;exact absurd g hk;exact g) ht.2
theorem freeT_detach {h:Nat→Nd} {x a:Nat}:∀ {F:Fo},RepTop h F→F.ids.Nodup→x∈F.ids→x∉F.tops→a∉(sub x F).ids→(h x).up∉(sub x F).ids→Free (detachH h x a) x (h x).t (sub x F)
 | .nil,_,_,hx,_,_,_=>by simp [Fo.ids] at hx
 | .nd j u k n,⟨h1,h2,h3,h4⟩,hn,hx,ht,ha,hu=>by
  obtain ⟨n1,n2,n3,n4,n5⟩:=nodup_nd hn
  simp only [Fo.ids,Fo.tops,List.mem_cons,List.mem_append,not_or] at hx ht
  unfold sub at ha hu ⊢
  rw [if_neg (fun e=>ht.1 e.symm)] at ha hu ⊢
  by_cases hk:x∈k.ids
  ·rw [if_pos hk] at ha hu ⊢;exact free_detach h3 n3 hk ha hu
  ·rw [if_neg hk] at ha hu ⊢;exact freeT_detach h4 n4 (by rcases hx with g|g|g;exact absurd g ht.1;exact absurd g hk;exact g) ht.2 ha hu
def fndF (G:Fo) (x:Int):Nat:=if 0≤x∧x.toNat∈G.ids then x.toNat else 0
theorem fndF_mem {G:Fo} {x:Int} (h:fndF G x≠0):fndF G x∈G.ids∧(fndF G x:Int)=x:=by
 unfold fndF at h ⊢
 split at h
 ·rename_i g;rw [if_pos g];exact ⟨g.2,by omega⟩
 ·exact absurd rfl h
def nearF (G:Fo) (id up at_:Int):Nat×Nat :=
 if fndF G up=0 then (3,0)
 else if fndF G at_=0 then (fndF G up,0)
 else if par (fndF G at_) 0 G≠fndF G up then (fndF G up,0)
 else if at_=id then (fndF G up,0)
 else (fndF G up,fndF G at_)
def putF (G:Fo) (p:Nat×Nat) (i:Nat) (t:ByteArray) (s:Fo):Fo:=if p.2=0 then insFirst p.1 i t s G else insAfter p.2 i t s G
def doF (G:Fo) (kd id up at_:Int) (s:ByteArray):Fo :=
 if kd=2 then (if fndF G id=0 then G else setF (fndF G id) s G)
 else if kd=1 then (if fndF G id=0 then putF G (nearF G id up at_) id.toNat s .nil else G)
 else (if fndF G id=0 then G else if under (fndF G id) (fndF G up) G then G else putF (del (fndF G id) G) (nearF G id up at_) (fndF G id) (txtF (fndF G id) G) (sub (fndF G id) G))
structure PlaceOk (G:Fo) (id:Int) (p:Nat×Nat):Prop where
 up:p.1∈G.ids
 at_:p.2=0∨(p.2∈G.ids∧par p.2 0 G=p.1∧(p.2:Int)≠id)
theorem near_ok {G:Fo} (h3:3∈G.ids) (id up at_:Int):PlaceOk G id (nearF G id up at_):=by
 unfold nearF
 by_cases h1:fndF G up=0
 ·rw [if_pos h1];exact ⟨h3,Or.inl rfl⟩
 ·rw [if_neg h1]
  have hu:=(fndF_mem h1).1
  by_cases h2:fndF G at_=0
  ·rw [if_pos h2];exact ⟨hu,Or.inl rfl⟩
  ·rw [if_neg h2]
   by_cases h4:par (fndF G at_) 0 G≠fndF G up
   ·rw [if_pos h4];exact ⟨hu,Or.inl rfl⟩
   ·rw [if_neg h4]
    by_cases h5:at_=id
    ·rw [if_pos h5];exact ⟨hu,Or.inl rfl⟩
    ·rw [if_neg h5]
     exact ⟨hu,Or.inr ⟨(fndF_mem h2).1,Decidable.of_not_not h4,by rw [(fndF_mem h2).2];exact h5⟩⟩
theorem par_top {G:Fo} (h:Nat→Nd) (hr:RepTop h G) (hn:G.ids.Nodup) {x:Nat} (hx:x∈G.ids) (hp:par x 0 G≠0):x∉G.tops:=fun ht=>by
 rw [←reptop_par hr hn hx,reptop_root hr ht] at hp
 exact hp rfl
theorem putF_rep {h:Nat→Nd} {G:Fo} {p:Nat×Nat} {i:Nat} {t:ByteArray} {s:Fo} (hf:Free h i t s) (hr:RepTop h G) (hn:G.ids.Nodup) (hi:i∉G.ids) (hd:∀ j∈s.ids,j∉G.ids) (hu:p.1∈G.ids) (ha:p.2=0∨(p.2∈G.ids∧(h p.2).up=p.1∧p.2∉G.tops)) :
  RepTop (attachH h i p.1 p.2) (putF G p i t s):=by
 unfold putF
 by_cases h0:p.2=0
 ·rw [if_pos h0,h0]
  exact reptop_insFirst hf hr hn hi (fun g=>hd _ g hu) (fun g=>hi (g ▸ hu)) hd
 ·rw [if_neg h0]
  obtain ⟨a1,a2,a3⟩:=ha.resolve_left h0
  exact reptop_insAfter hf h0 a2 hr hn hi a3 (fun g=>hd _ g a1) (fun g=>hi (g ▸ a1)) hd
theorem putF_ids {G:Fo} {p:Nat×Nat} {i:Nat} {t:ByteArray} {s:Fo} (hn:G.ids.Nodup) (hu:p.1∈G.ids) (ha:p.2=0∨p.2∈G.ids):(putF G p i t s).ids.Perm (i::(s.ids++G.ids)):=by
 unfold putF
 by_cases h0:p.2=0
 ·rw [if_pos h0];exact ids_insFirst _ _ _ _ G hn hu
 ·rw [if_neg h0];exact ids_insAfter _ _ _ _ G hn (ha.resolve_left h0)
theorem putF_tops {G:Fo} {p:Nat×Nat} {i:Nat} {t:ByteArray} {s:Fo} (ha:p.2=0∨p.2∉G.tops):(putF G p i t s).tops=G.tops:=by
 unfold putF
 by_cases h0:p.2=0
 ·rw [if_pos h0];exact tops_insFirst _ _ _ _ G
 ·rw [if_neg h0];exact tops_insAfter _ _ _ _ G (ha.resolve_left h0)
theorem near_del {h:Nat→Nd} {G:Fo} (hr:RepTop h G) (hn:G.ids.Nodup) (h3:3∈G.tops) {i:Nat} (hi:i∈G.ids) (hit:i∉G.tops) {id up at_:Int} (hid:(i:Int)=id) (hw:¬ under i (fndF G up) G) :
  (nearF G id up at_).1∈(del i G).ids∧((nearF G id up at_).2=0∨((nearF G id up at_).2∈(del i G).ids∧(h (nearF G id up at_).2).up=(nearF G id up at_).1∧(nearF G id up at_).2∉(del i G).tops∧(nearF G id up at_).2≠i)):=by
 have hp:=near_ok (G:=G) (tops_ids h3) id up at_
 have hperm:=ids_del i G hn hi
 have hmem:∀ y,y∈G.ids→y≠i→y∉(sub i G).ids→y∈(del i G).ids:=fun y hy h1 h2=>by
  have:=hperm.mem_iff.1 hy
  simp only [List.mem_cons,List.mem_append] at this
  rcases this with g|g|g
  ·exact absurd g h1
  ·exact absurd g h2
  ·exact g
 have ht:(del i G).tops=G.tops:=tops_del i G hit
 have hu:(nearF G id up at_).1∈(del i G).ids:=by
  by_cases h1:fndF G up=0
  ·have:nearF G id up at_=(3,0):=by unfold nearF;rw [if_pos h1]
   rw [this]
   exact tops_ids (ht ▸ h3)
  ·have:(nearF G id up at_).1=fndF G up:=by
    unfold nearF
    rw [if_neg h1]
    split
    ·rfl
    ·split
     ·rfl
     ·split <;> rfl
   rw [this]
   refine hmem _ (fndF_mem h1).1 (fun g=>hw ⟨hi,Or.inl g⟩) (fun g=>hw ⟨hi,Or.inr g⟩)
 refine ⟨hu,?_⟩
 rcases hp.at_ with h0|⟨h1,h2,h4⟩
 ·exact Or.inl h0
 ·right
  have e:(h (nearF G id up at_).2).up=(nearF G id up at_).1:=(reptop_par hr hn h1).trans h2
  have hne:(nearF G id up at_).2≠i:=fun g=>h4 (by rw [g];exact hid)
  have hp0:(nearF G id up at_).1≠0:=hr.ne0 _ hp.up
  refine ⟨hmem _ h1 hne fun g=>?_,e,?_,hne⟩
  ·obtain ⟨r1,_⟩:=reptop_sub hr hn hi
   have hd:=hperm.nodup_iff.1 hn
   rcases rep_up r1 (sub_nodup i hn) g with g2|g2
   ·rw [e] at g2
    have:i∉(del i G).ids:=fun g3=>by
     have:=List.nodup_cons.1 hd
     exact this.1 (List.mem_append_right _ g3)
    exact this (g2 ▸ hu)
   ·rw [e] at g2
    have:=(List.nodup_append.1 (List.nodup_cons.1 hd).2).2.2
    exact this _ g2 _ hu rfl
  ·rw [ht]
   exact par_top h hr hn h1 (by rw [h2];exact hp0)
end Go.Proofs.YtlkheeegkifblaaDoor.FP
namespace Go.Proofs.YtlkheeegkifblaaDoor.P
open Go.RowKit
def owners:List Int:=[0,1,1,1,0,0,0,0,0,0,0,2,2,2,2,2,2,0,0,0,0,3,3,3,3,3,3,0,0,0,0,4,4,4,4,4,4]
def Glob (w:World):Prop:=Lib.TabIs Tryd.prog w "loop.example/plashet/impl.rowOwners" .i64 owners
theorem gOwners:Tryd.prog.globalNamed "loop.example/plashet/impl.rowOwners" = some 0:=by kernel_rfl
theorem Glob.var {w:World} (h:Glob w):w.var? Tryd.prog "loop.example/plashet/impl.rowOwners" = some (owners.map fun z=>Value.int .i64 z).toArray:=h
theorem Glob.lt {w:World} (h:Glob w):0 < w.heap.size:=by
 have h:=h.var
 unfold World.var? at h
 simp only [gOwners,Option.bind_some] at h
 rcases Nat.lt_or_ge 0 w.heap.size with hl|hl
 ·exact hl
 ·rw [Array.getElem?_eq_none hl] at h
  cases h
theorem Glob.below {w w':World} (h:Glob w) (hb:Below w.heap.size w w'):Glob w':=by
 have hl:=h.lt
 have h:=h.var
 unfold Glob Lib.TabIs World.var? at *
 simp only [gOwners,Option.bind_some] at h ⊢
 rw [hb.block _ hl]
 exact h
theorem Glob.drew {w:World} (h:Glob w):Glob w.drew:=by
 have h:=h.var
 unfold Glob Lib.TabIs World.var? at *
 exact h
theorem Glob.drewN {w:World} (h:Glob w) (n:Nat):Glob (w.drewN n):=by
 induction n generalizing w with
 | zero=>exact h
 | succ n ih=>rw [←World.drew_drewN];exact ih h.drew
theorem Glob.cell {w:World} (h:Glob w) (i:Nat) (hi:i < 37):w.cell? ⟨0,i,none⟩=some (.int .i64 (owners.getD i 0)):=by
 have hc:=World.var?_cell gOwners h.var i
 rw [hc]
 have hl:i < owners.length:=hi
 simp [List.getD_eq_getElem?_getD,List.getElem?_eq_getElem hl]
def ownI (id:Int):Int:=if 0≤id∧id < 37 then owners.getD id.toNat 0 else 0
theorem Glob.at_ {w:World} (h:Glob w) (i:Int) (h0:0≤i) (h1:i < 37):w.cell? ⟨0,i.toNat,none⟩=some (.int .i64 (ownI i)):=by
 have:=h.cell i.toNat (by omega)
 rw [ownI,if_pos ⟨h0,h1⟩]
 exact this
theorem owners_range:∀ z∈owners,0≤z∧z≤4:=by decide
theorem ownI_range (i:Int):0≤ownI i∧ownI i≤4:=by
 unfold ownI
 split
 ·rename_i h
  have hl:i.toNat < owners.length:=by have:owners.length=37:=rfl;omega
  rw [List.getD_eq_getElem?_getD,List.getElem?_eq_getElem hl]
  exact owners_range _ (List.getElem_mem hl)
 ·omega
end Go.Proofs.YtlkheeegkifblaaDoor.P
namespace Go.Proofs.YtlkheeegkifblaaDoor.P
open Go.RowKit Go.Proofs.YtlkheeegkifblaaDoorW.PrintWords
def impl_RowWho.f (a0:Int):Option (Int×Bool):=some (if ownI a0=0 then (0,false) else (ownI a0 - 1,true))
theorem impl_RowWho.calls (a0:Int) (r1:Int) (r2:Bool) (w:World) (h:impl_RowWho.f a0=some (r1,r2)) (hG:Glob w) :
  Calls Tryd.prog 20 #[.int .i64 a0] w fun e w'=>e=.returned (.tuple #[.int .i64 r1,.bool r2])∧Drawn0 w w':=by
 unfold impl_RowWho.f at h
 by_cases h0:0≤a0
 ·by_cases h1:a0 < 37
  ·have hc:=hG.at_ a0 h0 h1
   have hr:=ownI_range a0
   generalize ownI a0=z at hc hr h
   by_cases hz:z=0
   ·subst hz
    simp only [if_true,Option.some.injEq,Prod.mk.injEq] at h
    obtain ⟨rfl,rfl⟩:=h
    clear hr hG
    go_enter Tryd.func20,Tryd.ntmps20
    go_wp2
    go_ret2
    exact ⟨rfl,Drawn0.refl _⟩
   ·rw [if_neg hz] at h
    simp only [Option.some.injEq,Prod.mk.injEq] at h
    obtain ⟨rfl,rfl⟩:=h
    have hz1:(z==0)=false:=beq_eq_false_iff_ne.2 hz
    have hr1:0≤z:=hr.1
    have hr2:z≤4:=hr.2
    clear hr hG
    go_enter Tryd.func20,Tryd.ntmps20
    go_wp2
    go_ret2
    exact ⟨rfl,Drawn0.refl _⟩
  ·have e:ownI a0=0:=by rw [ownI,if_neg (by omega)]
   rw [if_pos e] at h
   simp only [Option.some.injEq,Prod.mk.injEq] at h
   obtain ⟨rfl,rfl⟩:=h
   clear e hG
   go_enter Tryd.func20,Tryd.ntmps20
   go_wp2
   go_ret2
   exact ⟨rfl,Drawn0.refl _⟩
 ·have e:ownI a0=0:=by rw [ownI,if_neg (by omega)]
  rw [if_pos e] at h
  simp only [Option.some.injEq,Prod.mk.injEq] at h
  obtain ⟨rfl,rfl⟩:=h
  clear e hG
  have hlt:a0 < 0:=by omega
  go_enter Tryd.func20,Tryd.ntmps20
  go_wp2
  go_ret2
  exact ⟨rfl,Drawn0.refl _⟩
end Go.Proofs.YtlkheeegkifblaaDoor.P
namespace Go.Proofs.YtlkheeegkifblaaDoor.P
open Go.RowKit Go.Proofs.YtlkheeegkifblaaDoorW.PrintWords Go.Proofs.YtlkheeegkifblaaDoorW.PrintLast
def impl_isRoot.f (a0:Int):Option (Bool):=(impl_RowWho.f a0).bind fun bt352=>(if bt352.2=true then (some (bt352.1==0)) else (some false))
theorem impl_isRoot.calls (a0:Int) (r:Bool) (w:World) (h:impl_isRoot.f a0=some r) (hG:Glob w) :
  Calls Tryd.prog 67 #[.int .i64 a0] w fun e w'=>e=.returned (.bool r)∧Drawn0 w w':=by
 have HG:=a_ hG
 clear hG
 unfold impl_isRoot.f at h
 have H:=h
 clear h
 replace H:=bs_ H
 obtain ⟨⟨t352,t353⟩,A20,H⟩:=H
 try dsimp only at H
 have A2:=a_ A20
 clear A20
 by_cases c3:t353=true
 ·subst c3
  have H1:(some (t352==0))=some r:=by rw [if_pos rfl] at H;exact H
  clear H
  have H:=H1
  clear H1
  obtain rfl:=sj_ H
  go_enter Tryd.func67,Tryd.ntmps67
  go_wp2_with (first|((with_reducible refine gC_ (f:=20) rfl ?_);refine gl_ 7 Tryd.func20 #[.int .i64 a0] ?_;(with_reducible refine (impl_RowWho.calls a0 t352 true _ A2.out ?side1).mono ?_);(case side1=>exact hg_);rintro e w' ⟨rfl,⟨nd,rfl⟩⟩;refine ⟨_,rfl,?_⟩))
  go_ret
  exact ⟨si_,by repeat (first|exact Drawn0.refl _|apply Drawn0.step)⟩
 ·replace c3:=Bool.eq_false_iff.mpr c3
  subst c3
  have H1:(some false)=some r:=by rw [if_neg (show ¬ (false=true) by decide)] at H;exact H
  clear H
  have H:=H1
  clear H1
  obtain rfl:=sj_ H
  go_enter Tryd.func67,Tryd.ntmps67
  go_wp2_with (first|((with_reducible refine gC_ (f:=20) rfl ?_);refine gl_ 7 Tryd.func20 #[.int .i64 a0] ?_;(with_reducible refine (impl_RowWho.calls a0 t352 false _ A2.out ?side1).mono ?_);(case side1=>exact hg_);rintro e w' ⟨rfl,⟨nd,rfl⟩⟩;refine ⟨_,rfl,?_⟩))
  go_ret
  exact ⟨si_,by repeat (first|exact Drawn0.refl _|apply Drawn0.step)⟩

def impl_isMade.f (a0:Int):Option (Bool):=(impl_RowWho.f a0).bind fun bt354=>(if bt354.2=true then (some (bt354.1 != 0)) else (some false))
theorem impl_isMade.calls (a0:Int) (r:Bool) (w:World) (h:impl_isMade.f a0=some r) (hG:Glob w) :
  Calls Tryd.prog 94 #[.int .i64 a0] w fun e w'=>e=.returned (.bool r)∧Drawn0 w w':=by
 have HG:=a_ hG
 clear hG
 unfold impl_isMade.f at h
 have H:=h
 clear h
 replace H:=bs_ H
 obtain ⟨⟨t354,t355⟩,A20,H⟩:=H
 try dsimp only at H
 have A2:=a_ A20
 clear A20
 by_cases c3:t355=true
 ·subst c3
  have H1:(some (t354 != 0))=some r:=by rw [if_pos rfl] at H;exact H
  clear H
  have H:=H1
  clear H1
  obtain rfl:=sj_ H
  go_enter Tryd.func94,Tryd.ntmps94
  go_wp2_with (first|((with_reducible refine gC_ (f:=20) rfl ?_);refine gl_ 7 Tryd.func20 #[.int .i64 a0] ?_;(with_reducible refine (impl_RowWho.calls a0 t354 true _ A2.out ?side1).mono ?_);(case side1=>exact hg_);rintro e w' ⟨rfl,⟨nd,rfl⟩⟩;refine ⟨_,rfl,?_⟩))
  go_ret
  exact ⟨si_,by repeat (first|exact Drawn0.refl _|apply Drawn0.step)⟩
 ·replace c3:=Bool.eq_false_iff.mpr c3
  subst c3
  have H1:(some false)=some r:=by rw [if_neg (show ¬ (false=true) by decide)] at H;exact H
  clear H
  have H:=H1
  clear H1
  obtain rfl:=sj_ H
  go_enter Tryd.func94,Tryd.ntmps94
  go_wp2_with (first|((with_reducible refine gC_ (f:=20) rfl ?_);refine gl_ 7 Tryd.func20 #[.int .i64 a0] ?_;(with_reducible refine (impl_RowWho.calls a0 t354 false _ A2.out ?side1).mono ?_);(case side1=>exact hg_);rintro e w' ⟨rfl,⟨nd,rfl⟩⟩;refine ⟨_,rfl,?_⟩))
  go_ret
  exact ⟨si_,by repeat (first|exact Drawn0.refl _|apply Drawn0.step)⟩

def impl_textOk.l0:Nat→ByteArray→Int→Option (Bool)
 | 0,_,_=>none
 | k+1,x0,x3=>if x3 < (x0.size:Int) then (if 0≤x3 then (if (bt x0 x3) < 97 then (some false) else (if (bt x0 x3) > 100 then (some false) else (impl_textOk.l0 k x0 (wrap64 (x3+1))))) else (none)) else (some true)
def impl_textOk.f (k:Nat) (a0:ByteArray):Option (Bool):=if (a0.size:Int) > 4 then (some false) else (impl_textOk.l0 k a0 0)
theorem impl_textOk.mono_l:∀ k,(∀ y0 y1,LeO (impl_textOk.l0 k y0 y1) (impl_textOk.l0 (k+1) y0 y1))
 | 0=>fun _ _ r h=>by simp [impl_textOk.l0] at h
 | k+1=>by
  have ih0:=impl_textOk.mono_l k
  ·intro y0 y1
   unfold impl_textOk.l0
   repeat' first
   | (with_reducible exact ih0 _ _)
   | (with_reducible exact LeO.refl _)
   | (with_reducible exact LeO.none _)
   | (with_reducible refine LeO.ite ?_ ?_)
   | (with_reducible refine LeO.bind ?_ (fun _=>?_))
theorem impl_textOk.mono:∀ a0 k,LeO (impl_textOk.f k a0) (impl_textOk.f (k+1) a0):=by
 intro a0 k
 have ih0:=impl_textOk.mono_l k
 unfold impl_textOk.f
 repeat' first
   | (with_reducible exact ih0 _ _)
   | (with_reducible exact LeO.refl _)
   | (with_reducible exact LeO.none _)
   | (with_reducible refine LeO.ite ?_ ?_)
   | (with_reducible refine LeO.bind ?_ (fun _=>?_))
theorem impl_textOk.calls (k:Nat) (a0:ByteArray) (r:Bool) (w:World) (h:impl_textOk.f k a0=some r) :
  Calls Tryd.prog 98 #[.string a0] w fun e w'=>e=.returned (.bool r)∧Drawn0 w w':=by
 unfold impl_textOk.f at h
 have H:=h
 clear h
 by_cases c2:(a0.size:Int) > 4
 ·rw [if_pos c2] at H
  have c2b0:decide (4 < (a0.size:Int))=true:=dt_ c2
  have c2b1:decide (4 < a0.size)=true:=dt_ (by omega)
  clear c2
  obtain rfl:=sj_ H
  go_enter Tryd.func98,Tryd.ntmps98
  go_wp2
  go_ret
  exact ⟨si_,by repeat (first|exact Drawn0.refl _|apply Drawn0.step)⟩
 ·rw [if_neg c2] at H
  have c2b0:decide (4 < (a0.size:Int))=false:=df_ c2
  have c2b1:decide (4 < a0.size)=false:=df_ (by omega)
  clear c2
  have H':=a_ H
  clear H
  go_enter Tryd.func98,Tryd.ntmps98
  go_wp2
  go_loopg [3] k (fun kq v3 w'=>∃ (x3_1:Int),v3=.int .i64 x3_1∧Aside0 (impl_textOk.l0 kq a0 x3_1=some r)∧Aside0 (kq≤k)∧Drawn0 w w')
  case atStart=>exact ⟨(0),(si_),H',⟨Nat.le_refl _⟩,by repeat (first|exact Drawn0.refl _|apply Drawn0.step)⟩
  case round =>
   clear H'
   try clear c2
   try clear c2b0
   try clear c2b1
   try clear p2
   obtain ⟨x3_1,rfl,HA,HK1,⟨m1,rfl⟩⟩:=hrel
   cases gk with
   | zero=>exact absurd HA.out (by simp [impl_textOk.l0])
   | succ k1 =>
    have H:=HA.out
    clear HA
    simp only [impl_textOk.l0] at H
    by_cases c3:x3_1 < (a0.size:Int)
    ·rw [if_pos c3] at H
     have c3b0:decide (x3_1 < (a0.size:Int))=true:=dt_ c3
     clear c3
     by_cases c4:0≤x3_1
     ·rw [if_pos c4] at H
      have c4b0:decide (0≤x3_1)=true:=dt_ c4
      clear c4
      by_cases c6:(bt a0 x3_1) < 97
      ·rw [if_pos c6] at H
       have c6b0:decide ((bt a0 x3_1) < 97)=true:=dt_ c6
       clear c6
       obtain rfl:=sj_ H
       have p5:0≤(x3_1:Int):=od_
       have q5:x3_1 < (a0.size:Int):=od_
       have hx5:=bt_at a0 x3_1
       replace p5:=eq_true p5
       replace q5:=eq_true q5
       go_wp2
       go_ret
       exact ⟨si_,by repeat (first|exact Drawn0.refl _|apply Drawn0.step)⟩
      ·rw [if_neg c6] at H
       have c6b0:decide ((bt a0 x3_1) < 97)=false:=df_ c6
       clear c6
       by_cases c8:(bt a0 x3_1) > 100
       ·rw [if_pos c8] at H
        have c8b0:decide (100 < (bt a0 x3_1))=true:=dt_ c8
        clear c8
        obtain rfl:=sj_ H
        have p5:0≤(x3_1:Int):=od_
        have q5:x3_1 < (a0.size:Int):=od_
        have hx5:=bt_at a0 x3_1
        replace p5:=eq_true p5
        replace q5:=eq_true q5
        have p7:0≤(x3_1:Int):=od_
        have q7:x3_1 < (a0.size:Int):=od_
        have hx7:=bt_at a0 x3_1
        replace p7:=eq_true p7
        replace q7:=eq_true q7
        go_wp2
        go_ret
        exact ⟨si_,by repeat (first|exact Drawn0.refl _|apply Drawn0.step)⟩
       ·rw [if_neg c8] at H
        have c8b0:decide (100 < (bt a0 x3_1))=false:=df_ c8
        clear c8
        have H':=a_ H
        clear H
        have p5:0≤(x3_1:Int):=od_
        have q5:x3_1 < (a0.size:Int):=od_
        have hx5:=bt_at a0 x3_1
        replace p5:=eq_true p5
        replace q5:=eq_true q5
        have p7:0≤(x3_1:Int):=od_
        have q7:x3_1 < (a0.size:Int):=od_
        have hx7:=bt_at a0 x3_1
        replace p7:=eq_true p7
        replace q7:=eq_true q7
        go_wp2
        go_roundg k1
        case measure=>have:=HK1.out;omega
        case rel=>exact ⟨(wrap64 (x3_1+1)),(si_),H',⟨by have:=HK1.out;omega⟩,by repeat (first|exact Drawn0.refl _|apply Drawn0.step)⟩
     ·rw [if_neg c4] at H
      exact absurd H (by simp)
    ·rw [if_neg c3] at H
     have c3b0:decide (x3_1 < (a0.size:Int))=false:=df_ c3
     clear c3
     obtain rfl:=sj_ H
     go_wp2
     go_ret
     exact ⟨si_,by repeat (first|exact Drawn0.refl _|apply Drawn0.step)⟩

def impl_RowOk.f (k:Nat) (a0_0:Int) (a0_1:Int) (a0_2:ByteArray):Option (Bool):=(impl_isRoot.f a0_0).bind fun t357=>(if t357=true then (if a0_1=0 then (some (a0_2.toList==([]:List UInt8))) else (some false)) else ((impl_isMade.f a0_0).bind fun t358=>(if t358=true then (if a0_1≥1 then (if a0_1≤18 then ((impl_textOk.f k a0_2).bind fun t359=>(some t359)) else (some false)) else (some false)) else (some false))))
theorem impl_RowOk.mono:∀ a0 a1 a2 k,LeO (impl_RowOk.f k a0 a1 a2) (impl_RowOk.f (k+1) a0 a1 a2):=by
 intro a0 a1 a2 k
 unfold impl_RowOk.f
 repeat' first
   | (with_reducible exact impl_textOk.mono _ _)
   | (with_reducible exact LeO.refl _)
   | (with_reducible exact LeO.none _)
   | (with_reducible refine LeO.ite ?_ ?_)
   | (with_reducible refine LeO.bind ?_ (fun _=>?_))
theorem impl_RowOk.calls (k:Nat) (a0_0:Int) (a0_1:Int) (a0_2:ByteArray) (r:Bool) (w:World) (h:impl_RowOk.f k a0_0 a0_1 a0_2=some r) (hG:Glob w) :
  Calls Tryd.prog 66 #[.agg #[.int .i64 a0_0,.int .i64 a0_1,.string a0_2]] w fun e w'=>e=.returned (.bool r)∧Below w.heap.size w w':=by
 have hu37:=Tryd.underlying37
 have HB:=a_ (Below.refl w.heap.size w)
 have HG:=a_ hG
 clear hG
 unfold impl_RowOk.f at h
 have H:=h
 clear h
 replace H:=bs_ H
 obtain ⟨t357,A20,H⟩:=H
 try dsimp only at H
 have A2:=a_ A20
 clear A20
 by_cases c3:t357=true
 ·subst c3
  have H1:(if a0_1=0 then (some (a0_2.toList==([]:List UInt8))) else (some false))=some r:=by rw [if_pos rfl] at H;exact H
  clear H
  have H:=H1
  clear H1
  by_cases c4:a0_1=0
  ·rw [if_pos c4] at H
   have c4b0:(a0_1==0)=true:=beq_iff_eq.mpr c4
   have c4b1:(a0_1 != 0)=false:=be_ c4
   clear c4
   obtain rfl:=sj_ H
   go_enter Tryd.func66,Tryd.ntmps66
   go_wp2_with (first|((with_reducible refine gD_ (N:=1) rfl ?_);refine bx_ 1 (#[.int .i64 a0_0,.int .i64 a0_1,.string a0_2]) 37 ?_;intro gb356 hg w5 hbox hb;have n0_:=a_ (bS_ (bel_) hb);have n1_:=a_ (hbox);have n2_:=a_ ((by rw [hg];exact (below_size (bel_)):w.heap.size≤gb356));have n3_:=a_ ((by rw [hg];exact (below_size (bel_)):w.heap.size≤gb356));clear HB;have HB:=n0_;have BK356:=n1_;have GW356:=n2_;have GE356:=n3_;clear n0_ n1_ n2_ n3_;clear hb hbox hg;obtain ⟨Z6_0,Z6_1,Z6_2,Y6_0,Y6_1,Y6_2⟩:=op3_ BK356.out)|((with_reducible refine gC_ (f:=67) rfl ?_);refine gl_ 5 Tryd.func67 #[.int .i64 a0_0] ?_;(with_reducible refine (impl_isRoot.calls a0_0 true _ A2.out ?side1).mono ?_);(case side1=>exact Glob.below HG.out (bel_));rintro e w' ⟨rfl,⟨nd,rfl⟩⟩;refine ⟨_,rfl,?_⟩))
   go_ret
   exact ⟨fi_,bel_⟩
  ·rw [if_neg c4] at H
   have c4b0:(a0_1==0)=false:=bn_ c4
   have c4b1:(a0_1 != 0)=true:=bne_iff_ne.mpr c4
   obtain rfl:=sj_ H
   go_enter Tryd.func66,Tryd.ntmps66
   go_wp2_with (first|((with_reducible refine gD_ (N:=1) rfl ?_);refine bx_ 1 (#[.int .i64 a0_0,.int .i64 a0_1,.string a0_2]) 37 ?_;intro gb356 hg w7 hbox hb;have n0_:=a_ (bS_ (bel_) hb);have n1_:=a_ (hbox);have n2_:=a_ ((by rw [hg];exact (below_size (bel_)):w.heap.size≤gb356));have n3_:=a_ ((by rw [hg];exact (below_size (bel_)):w.heap.size≤gb356));clear HB;have HB:=n0_;have BK356:=n1_;have GW356:=n2_;have GE356:=n3_;clear n0_ n1_ n2_ n3_;clear hb hbox hg;obtain ⟨Z8_0,Z8_1,Z8_2,Y8_0,Y8_1,Y8_2⟩:=op3_ BK356.out)|((with_reducible refine gC_ (f:=67) rfl ?_);refine gl_ 5 Tryd.func67 #[.int .i64 a0_0] ?_;(with_reducible refine (impl_isRoot.calls a0_0 true _ A2.out ?side1).mono ?_);(case side1=>exact Glob.below HG.out (bel_));rintro e w' ⟨rfl,⟨nd,rfl⟩⟩;refine ⟨_,rfl,?_⟩))
   go_ret
   exact ⟨fi_,bel_⟩
 ·replace c3:=Bool.eq_false_iff.mpr c3
  subst c3
  have H1:((impl_isMade.f a0_0).bind fun t358=>(if t358=true then (if a0_1≥1 then (if a0_1≤18 then ((impl_textOk.f k a0_2).bind fun t359=>(some t359)) else (some false)) else (some false)) else (some false)))=some r:=by rw [if_neg (show ¬ (false=true) by decide)] at H;exact H
  clear H
  have H:=H1
  clear H1
  replace H:=bs_ H
  obtain ⟨t358,A90,H⟩:=H
  try dsimp only at H
  have A9:=a_ A90
  clear A90
  by_cases c10:t358=true
  ·subst c10
   have H1:(if a0_1≥1 then (if a0_1≤18 then ((impl_textOk.f k a0_2).bind fun t359=>(some t359)) else (some false)) else (some false))=some r:=by rw [if_pos rfl] at H;exact H
   clear H
   have H:=H1
   clear H1
   by_cases c11:a0_1≥1
   ·rw [if_pos c11] at H
    have c11b0:decide (1≤a0_1)=true:=dt_ c11
    clear c11
    by_cases c12:a0_1≤18
    ·rw [if_pos c12] at H
     have c12b0:decide (a0_1≤18)=true:=dt_ c12
     clear c12
     replace H:=bs_ H
     obtain ⟨t359,A130,H⟩:=H
     try dsimp only at H
     have A13:=a_ A130
     clear A130
     obtain rfl:=sj_ H
     go_enter Tryd.func66,Tryd.ntmps66
     go_wp2_with (first|((with_reducible refine gD_ (N:=1) rfl ?_);refine bx_ 1 (#[.int .i64 a0_0,.int .i64 a0_1,.string a0_2]) 37 ?_;intro gb356 hg w14 hbox hb;have n0_:=a_ (bS_ (bel_) hb);have n1_:=a_ (hbox);have n2_:=a_ ((by rw [hg];exact (below_size (bel_)):w.heap.size≤gb356));have n3_:=a_ ((by rw [hg];exact (below_size (bel_)):w.heap.size≤gb356));clear HB;have HB:=n0_;have BK356:=n1_;have GW356:=n2_;have GE356:=n3_;clear n0_ n1_ n2_ n3_;clear hb hbox hg;obtain ⟨Z15_0,Z15_1,Z15_2,Y15_0,Y15_1,Y15_2⟩:=op3_ BK356.out)|((with_reducible refine gC_ (f:=67) rfl ?_);refine gl_ 5 Tryd.func67 #[.int .i64 a0_0] ?_;(with_reducible refine (impl_isRoot.calls a0_0 false _ A2.out ?side1).mono ?_);(case side1=>exact Glob.below HG.out (bel_));rintro e w' ⟨rfl,⟨nd,rfl⟩⟩;refine ⟨_,rfl,?_⟩)|((with_reducible refine gC_ (f:=94) rfl ?_);refine gl_ 16 Tryd.func94 #[.int .i64 a0_0] ?_;(with_reducible refine (impl_isMade.calls a0_0 true _ A9.out ?side1).mono ?_);(case side1=>exact Glob.below HG.out (bel_));rintro e w' ⟨rfl,⟨nd,rfl⟩⟩;refine ⟨_,rfl,?_⟩)|(go_at_call 98;(with_reducible refine (impl_textOk.calls k a0_2 t359 _ A13.out).mono ?_);rintro e w' ⟨rfl,⟨nd,rfl⟩⟩))
     go_ret
     exact ⟨fi_,bel_⟩
    ·rw [if_neg c12] at H
     have c12b0:decide (a0_1≤18)=false:=df_ c12
     clear c12
     obtain rfl:=sj_ H
     go_enter Tryd.func66,Tryd.ntmps66
     go_wp2_with (first|((with_reducible refine gD_ (N:=1) rfl ?_);refine bx_ 1 (#[.int .i64 a0_0,.int .i64 a0_1,.string a0_2]) 37 ?_;intro gb356 hg w16 hbox hb;have n0_:=a_ (bS_ (bel_) hb);have n1_:=a_ (hbox);have n2_:=a_ ((by rw [hg];exact (below_size (bel_)):w.heap.size≤gb356));have n3_:=a_ ((by rw [hg];exact (below_size (bel_)):w.heap.size≤gb356));clear HB;have HB:=n0_;have BK356:=n1_;have GW356:=n2_;have GE356:=n3_;clear n0_ n1_ n2_ n3_;clear hb hbox hg;obtain ⟨Z17_0,Z17_1,Z17_2,Y17_0,Y17_1,Y17_2⟩:=op3_ BK356.out)|((with_reducible refine gC_ (f:=67) rfl ?_);refine gl_ 5 Tryd.func67 #[.int .i64 a0_0] ?_;(with_reducible refine (impl_isRoot.calls a0_0 false _ A2.out ?side1).mono ?_);(case side1=>exact Glob.below HG.out (bel_));rintro e w' ⟨rfl,⟨nd,rfl⟩⟩;refine ⟨_,rfl,?_⟩)|((with_reducible refine gC_ (f:=94) rfl ?_);refine gl_ 16 Tryd.func94 #[.int .i64 a0_0] ?_;(with_reducible refine (impl_isMade.calls a0_0 true _ A9.out ?side1).mono ?_);(case side1=>exact Glob.below HG.out (bel_));rintro e w' ⟨rfl,⟨nd,rfl⟩⟩;refine ⟨_,rfl,?_⟩))
     go_ret
     exact ⟨fi_,bel_⟩
   ·rw [if_neg c11] at H
    have c11b0:decide (1≤a0_1)=false:=df_ c11
    clear c11
    obtain rfl:=sj_ H
    go_enter Tryd.func66,Tryd.ntmps66
    go_wp2_with (first|((with_reducible refine gD_ (N:=1) rfl ?_);refine bx_ 1 (#[.int .i64 a0_0,.int .i64 a0_1,.string a0_2]) 37 ?_;intro gb356 hg w18 hbox hb;have n0_:=a_ (bS_ (bel_) hb);have n1_:=a_ (hbox);have n2_:=a_ ((by rw [hg];exact (below_size (bel_)):w.heap.size≤gb356));have n3_:=a_ ((by rw [hg];exact (below_size (bel_)):w.heap.size≤gb356));clear HB;have HB:=n0_;have BK356:=n1_;have GW356:=n2_;have GE356:=n3_;clear n0_ n1_ n2_ n3_;clear hb hbox hg;obtain ⟨Z19_0,Z19_1,Z19_2,Y19_0,Y19_1,Y19_2⟩:=op3_ BK356.out)|((with_reducible refine gC_ (f:=67) rfl ?_);refine gl_ 5 Tryd.func67 #[.int .i64 a0_0] ?_;(with_reducible refine (impl_isRoot.calls a0_0 false _ A2.out ?side1).mono ?_);(case side1=>exact Glob.below HG.out (bel_));rintro e w' ⟨rfl,⟨nd,rfl⟩⟩;refine ⟨_,rfl,?_⟩)|((with_reducible refine gC_ (f:=94) rfl ?_);refine gl_ 16 Tryd.func94 #[.int .i64 a0_0] ?_;(with_reducible refine (impl_isMade.calls a0_0 true _ A9.out ?side1).mono ?_);(case side1=>exact Glob.below HG.out (bel_));rintro e w' ⟨rfl,⟨nd,rfl⟩⟩;refine ⟨_,rfl,?_⟩))
    go_ret
    exact ⟨fi_,bel_⟩
  ·replace c10:=Bool.eq_false_iff.mpr c10
   subst c10
   have H1:(some false)=some r:=by rw [if_neg (show ¬ (false=true) by decide)] at H;exact H
   clear H
   have H:=H1
   clear H1
   obtain rfl:=sj_ H
   go_enter Tryd.func66,Tryd.ntmps66
   go_wp2_with (first|((with_reducible refine gD_ (N:=1) rfl ?_);refine bx_ 1 (#[.int .i64 a0_0,.int .i64 a0_1,.string a0_2]) 37 ?_;intro gb356 hg w20 hbox hb;have n0_:=a_ (bS_ (bel_) hb);have n1_:=a_ (hbox);have n2_:=a_ ((by rw [hg];exact (below_size (bel_)):w.heap.size≤gb356));have n3_:=a_ ((by rw [hg];exact (below_size (bel_)):w.heap.size≤gb356));clear HB;have HB:=n0_;have BK356:=n1_;have GW356:=n2_;have GE356:=n3_;clear n0_ n1_ n2_ n3_;clear hb hbox hg;obtain ⟨Z21_0,Z21_1,Z21_2,Y21_0,Y21_1,Y21_2⟩:=op3_ BK356.out)|((with_reducible refine gC_ (f:=67) rfl ?_);refine gl_ 5 Tryd.func67 #[.int .i64 a0_0] ?_;(with_reducible refine (impl_isRoot.calls a0_0 false _ A2.out ?side1).mono ?_);(case side1=>exact Glob.below HG.out (bel_));rintro e w' ⟨rfl,⟨nd,rfl⟩⟩;refine ⟨_,rfl,?_⟩)|((with_reducible refine gC_ (f:=94) rfl ?_);refine gl_ 16 Tryd.func94 #[.int .i64 a0_0] ?_;(with_reducible refine (impl_isMade.calls a0_0 false _ A9.out ?side1).mono ?_);(case side1=>exact Glob.below HG.out (bel_));rintro e w' ⟨rfl,⟨nd,rfl⟩⟩;refine ⟨_,rfl,?_⟩))
   go_ret
   exact ⟨fi_,bel_⟩

def impl_placeOk.f (a0:Int) (a1:Int):Option (Bool):=(impl_isMade.f a0).bind fun t362=>(if t362=true then (if a1=0 then (some true) else ((impl_isMade.f a1).bind fun t363=>(some t363))) else ((impl_isRoot.f a0).bind fun t364=>(if t364=true then (if a1=0 then (some true) else ((impl_isMade.f a1).bind fun t365=>(some t365))) else (some false))))
theorem impl_placeOk.calls (a0:Int) (a1:Int) (r:Bool) (w:World) (h:impl_placeOk.f a0 a1=some r) (hG:Glob w) :
  Calls Tryd.prog 97 #[.int .i64 a0,.int .i64 a1] w fun e w'=>e=.returned (.bool r)∧Drawn0 w w':=by
 have HG:=a_ hG
 clear hG
 unfold impl_placeOk.f at h
 have H:=h
 clear h
 replace H:=bs_ H
 obtain ⟨t362,A30,H⟩:=H
 try dsimp only at H
 have A3:=a_ A30
 clear A30
 by_cases c4:t362=true
 ·subst c4
  have H1:(if a1=0 then (some true) else ((impl_isMade.f a1).bind fun t363=>(some t363)))=some r:=by rw [if_pos rfl] at H;exact H
  clear H
  have H:=H1
  clear H1
  by_cases c5:a1=0
  ·rw [if_pos c5] at H
   have c5b0:(a1==0)=true:=beq_iff_eq.mpr c5
   have c5b1:(a1 != 0)=false:=be_ c5
   clear c5
   obtain rfl:=sj_ H
   go_enter Tryd.func97,Tryd.ntmps97
   go_wp2_with (first|((with_reducible refine gC_ (f:=94) rfl ?_);refine gl_ 6 Tryd.func94 #[.int .i64 a0] ?_;(with_reducible refine (impl_isMade.calls a0 true _ A3.out ?side1).mono ?_);(case side1=>exact hg_);rintro e w' ⟨rfl,⟨nd,rfl⟩⟩;refine ⟨_,rfl,?_⟩))
   go_ret
   exact ⟨si_,by repeat (first|exact Drawn0.refl _|apply Drawn0.step)⟩
  ·rw [if_neg c5] at H
   have c5b0:(a1==0)=false:=bn_ c5
   have c5b1:(a1 != 0)=true:=bne_iff_ne.mpr c5
   replace H:=bs_ H
   obtain ⟨t363,A60,H⟩:=H
   try dsimp only at H
   have A6:=a_ A60
   clear A60
   obtain rfl:=sj_ H
   go_enter Tryd.func97,Tryd.ntmps97
   go_wp2_with (first|((with_reducible refine gC_ (f:=94) rfl ?_);refine gl_ 6 Tryd.func94 #[.int .i64 a0] ?_;(with_reducible refine (impl_isMade.calls a0 true _ A3.out ?side1).mono ?_);(case side1=>exact hg_);rintro e w' ⟨rfl,⟨nd,rfl⟩⟩;refine ⟨_,rfl,?_⟩)|(go_at_call 94;(with_reducible refine (impl_isMade.calls a1 t363 _ A6.out ?side1).mono ?_);(case side1=>exact hg_);rintro e w' ⟨rfl,⟨nd,rfl⟩⟩))
   go_ret
   exact ⟨si_,by repeat (first|exact Drawn0.refl _|apply Drawn0.step)⟩
 ·replace c4:=Bool.eq_false_iff.mpr c4
  subst c4
  have H1:((impl_isRoot.f a0).bind fun t364=>(if t364=true then (if a1=0 then (some true) else ((impl_isMade.f a1).bind fun t365=>(some t365))) else (some false)))=some r:=by rw [if_neg (show ¬ (false=true) by decide)] at H;exact H
  clear H
  have H:=H1
  clear H1
  replace H:=bs_ H
  obtain ⟨t364,A70,H⟩:=H
  try dsimp only at H
  have A7:=a_ A70
  clear A70
  by_cases c8:t364=true
  ·subst c8
   have H1:(if a1=0 then (some true) else ((impl_isMade.f a1).bind fun t365=>(some t365)))=some r:=by rw [if_pos rfl] at H;exact H
   clear H
   have H:=H1
   clear H1
   by_cases c9:a1=0
   ·rw [if_pos c9] at H
    have c9b0:(a1==0)=true:=beq_iff_eq.mpr c9
    have c9b1:(a1 != 0)=false:=be_ c9
    clear c9
    obtain rfl:=sj_ H
    go_enter Tryd.func97,Tryd.ntmps97
    go_wp2_with (first|((with_reducible refine gC_ (f:=94) rfl ?_);refine gl_ 6 Tryd.func94 #[.int .i64 a0] ?_;(with_reducible refine (impl_isMade.calls a0 false _ A3.out ?side1).mono ?_);(case side1=>exact hg_);rintro e w' ⟨rfl,⟨nd,rfl⟩⟩;refine ⟨_,rfl,?_⟩)|(go_at_call 67;(with_reducible refine (impl_isRoot.calls a0 true _ A7.out ?side1).mono ?_);(case side1=>exact hg_);rintro e w' ⟨rfl,⟨nd,rfl⟩⟩))
    go_ret
    exact ⟨si_,by repeat (first|exact Drawn0.refl _|apply Drawn0.step)⟩
   ·rw [if_neg c9] at H
    have c9b0:(a1==0)=false:=bn_ c9
    have c9b1:(a1 != 0)=true:=bne_iff_ne.mpr c9
    replace H:=bs_ H
    obtain ⟨t365,A100,H⟩:=H
    try dsimp only at H
    have A10:=a_ A100
    clear A100
    obtain rfl:=sj_ H
    go_enter Tryd.func97,Tryd.ntmps97
    go_wp2_with (first|((with_reducible refine gC_ (f:=94) rfl ?_);refine gl_ 6 Tryd.func94 #[.int .i64 a0] ?_;(with_reducible refine (impl_isMade.calls a0 false _ A3.out ?side1).mono ?_);(case side1=>exact hg_);rintro e w' ⟨rfl,⟨nd,rfl⟩⟩;refine ⟨_,rfl,?_⟩)|(go_at_call 67;(with_reducible refine (impl_isRoot.calls a0 true _ A7.out ?side1).mono ?_);(case side1=>exact hg_);rintro e w' ⟨rfl,⟨nd,rfl⟩⟩)|(go_at_call 94;(with_reducible refine (impl_isMade.calls a1 t365 _ A10.out ?side1).mono ?_);(case side1=>exact hg_);rintro e w' ⟨rfl,⟨nd,rfl⟩⟩))
    go_ret
    exact ⟨si_,by repeat (first|exact Drawn0.refl _|apply Drawn0.step)⟩
  ·replace c8:=Bool.eq_false_iff.mpr c8
   subst c8
   have H1:(some false)=some r:=by rw [if_neg (show ¬ (false=true) by decide)] at H;exact H
   clear H
   have H:=H1
   clear H1
   obtain rfl:=sj_ H
   go_enter Tryd.func97,Tryd.ntmps97
   go_wp2_with (first|((with_reducible refine gC_ (f:=94) rfl ?_);refine gl_ 6 Tryd.func94 #[.int .i64 a0] ?_;(with_reducible refine (impl_isMade.calls a0 false _ A3.out ?side1).mono ?_);(case side1=>exact hg_);rintro e w' ⟨rfl,⟨nd,rfl⟩⟩;refine ⟨_,rfl,?_⟩)|(go_at_call 67;(with_reducible refine (impl_isRoot.calls a0 false _ A7.out ?side1).mono ?_);(case side1=>exact hg_);rintro e w' ⟨rfl,⟨nd,rfl⟩⟩))
   go_ret
   exact ⟨si_,by repeat (first|exact Drawn0.refl _|apply Drawn0.step)⟩










end Go.Proofs.YtlkheeegkifblaaDoor.P
namespace Go.Proofs.YtlkheeegkifblaaDoor.P
open Go.RowKit Go.Proofs.YtlkheeegkifblaaDoorW.PrintWords Go.Proofs.YtlkheeegkifblaaDoorW.PrintLast Go.Proofs.YtlkheeegkifblaaDoorW.PrintMore
theorem quiet_d {P:Program} {f:FuncId} {args:Array Value} {w:World} {d n:Nat} {v:Value} (h:Calls P f args (w.drewN (d+n)) fun e w'=>e=.returned v∧Drawn0 (w.drewN (d+n)) w') :
  Calls P f args (w.drewN (d+n)) fun e w''=>e=.returned v∧∃ m,w''=w.drewN (d+m) :=
 h.mono fun _ _ ⟨he,⟨m,hm⟩⟩=>⟨he,n+m,by rw [hm,World.drewN_drewN,Nat.add_assoc]⟩
def impl_changeOf.f (k:Nat) (a0 a1 a2 a3:Int) (a4:ByteArray):Option Bool :=
 (impl_isMade.f a1).bind fun m=>if m=true then
  (if a0=1 then ((impl_placeOk.f a2 a3).bind fun p=>if p=true then impl_textOk.f k a4 else some false)
  else if a0=2 then (if a2=0 then (if a3=0 then impl_textOk.f k a4 else some false) else some false)
  else if a0=3 then ((impl_placeOk.f a2 a3).bind fun p=>if p=true then some (a4.toList.isEmpty) else some false)
  else some false) else some false
theorem impl_changeOf.mono (a0 a1 a2 a3:Int) (a4:ByteArray) (k:Nat):LeO (impl_changeOf.f k a0 a1 a2 a3 a4) (impl_changeOf.f (k+1) a0 a1 a2 a3 a4):=by
 unfold impl_changeOf.f
 repeat' first
   | (with_reducible exact impl_textOk.mono _ _)
   | (with_reducible exact LeO.refl _)
   | (with_reducible refine LeO.ite ?_ ?_)
   | (with_reducible refine LeO.bind ?_ (fun _=>?_))
def ChV (a0 a1 a2 a3:Int) (a4:ByteArray):Value :=
 if a0=1 then .iface 114 (.agg #[.int .i64 a1,.int .i64 a2,.int .i64 a3,.string a4])
 else if a0=2 then .iface 117 (.agg #[.int .i64 a1,.string a4])
 else .iface 119 (.agg #[.int .i64 a1,.int .i64 a2,.int .i64 a3])
def ChPost (w:World) (a0 a1 a2 a3:Int) (a4:ByteArray) (r:Bool) (e:Ending) (w':World):Prop :=
 ∃ v:Value,e=.returned (.tuple #[v,.bool r])∧(r=true→v=ChV a0 a1 a2 a3 a4)∧Below w.heap.size w w'
theorem below_box0 (w:World) (o:Obj):Below w.heap.size w (w.alloc o):=(Below.refl _ _).alloc (Nat.le_refl _) _
theorem changeOf_unmade (a0 a1 a2 a3:Int) (a4:ByteArray) (w:World) (hm:impl_isMade.f a1=some false) (hG:Glob w) :
  Calls Tryd.prog 63 #[.agg #[.int .i64 a0,.int .i64 a1,.int .i64 a2,.int .i64 a3,.string a4]] w (ChPost w a0 a1 a2 a3 a4 false):=by
 have hGa:Glob (w.alloc (.cells #[.int .i64 a0,.int .i64 a1,.int .i64 a2,.int .i64 a3,.string a4] 27)):=hG.below (below_box0 w _)
 have HG:=a_ hGa
 clear hGa hG
 have Hm:=a_ hm
 clear hm
 go_enter Tryd.func63,Tryd.ntmps63
 go_wp2_with (go_at_call 94;refine (impl_isMade.calls a1 _ _ Hm.out HG.out).mono ?_;rintro e w' ⟨rfl,⟨nd,rfl⟩⟩)
 go_ret2
 exact ⟨_,rfl,(fun h=>by cases h),by (with_reducible repeat (first|exact below_box0 w _|apply pw_below_drewN))⟩
theorem changeOf_make (k:Nat) (a0 a1 a2 a3:Int) (a4:ByteArray) (r:Bool) (w:World) (hm:impl_isMade.f a1=some true) (hp:impl_placeOk.f a2 a3=some true) (ht:impl_textOk.f k a4=some r) (h0:a0=1) (hG:Glob w) :
  Calls Tryd.prog 63 #[.agg #[.int .i64 a0,.int .i64 a1,.int .i64 a2,.int .i64 a3,.string a4]] w (ChPost w a0 a1 a2 a3 a4 r):=by
 have hGa:Glob (w.alloc (.cells #[.int .i64 a0,.int .i64 a1,.int .i64 a2,.int .i64 a3,.string a4] 27)):=hG.below (below_box0 w _)
 have HG:=a_ hGa
 clear hGa hG
 subst h0
 have Hm:=a_ hm
 have Hp:=a_ hp
 have Ht:=a_ ht
 clear hm hp ht
 go_enter Tryd.func63,Tryd.ntmps63
 go_wp2_with (go_at_call 94;refine (impl_isMade.calls a1 _ _ Hm.out HG.out).mono ?_;rintro e w' ⟨rfl,⟨nd,rfl⟩⟩)
 go_quiet ((first|(go_at_call 97;refine quiet_d (impl_placeOk.calls a2 a3 true _ Hp.out (by (with_reducible repeat (first|exact HG.out|apply Glob.drewN|apply Glob.drew)))))|(go_at_call 98;refine quiet_d (impl_textOk.calls k a4 r _ Ht.out))))
 go_wp2
 go_ret2
 exact ⟨_,rfl,fun _=>rfl,by (with_reducible repeat (first|exact below_box0 w _|apply pw_below_drewN))⟩
theorem changeOf_make_no (a0 a1 a2 a3:Int) (a4:ByteArray) (w:World) (hm:impl_isMade.f a1=some true) (hp:impl_placeOk.f a2 a3=some false) (h0:a0=1) (hG:Glob w) :
  Calls Tryd.prog 63 #[.agg #[.int .i64 a0,.int .i64 a1,.int .i64 a2,.int .i64 a3,.string a4]] w (ChPost w a0 a1 a2 a3 a4 false):=by
 have hGa:Glob (w.alloc (.cells #[.int .i64 a0,.int .i64 a1,.int .i64 a2,.int .i64 a3,.string a4] 27)):=hG.below (below_box0 w _)
 have HG:=a_ hGa
 clear hGa hG
 subst h0
 have Hm:=a_ hm
 have Hp:=a_ hp
 clear hm hp
 go_enter Tryd.func63,Tryd.ntmps63
 go_wp2_with (go_at_call 94;refine (impl_isMade.calls a1 _ _ Hm.out HG.out).mono ?_;rintro e w' ⟨rfl,⟨nd,rfl⟩⟩)
 go_quiet ((go_at_call 97;refine quiet_d (impl_placeOk.calls a2 a3 false _ Hp.out (by (with_reducible repeat (first|exact HG.out|apply Glob.drewN|apply Glob.drew))))))
 go_wp2
 go_ret2
 exact ⟨_,rfl,(fun h=>by cases h),by (with_reducible repeat (first|exact below_box0 w _|apply pw_below_drewN))⟩
theorem changeOf_text (k:Nat) (a0 a1 a2 a3:Int) (a4:ByteArray) (r:Bool) (w:World) (hm:impl_isMade.f a1=some true) (h2:a2=0) (h3:a3=0) (ht:impl_textOk.f k a4=some r) (h0:a0=2) (hG:Glob w) :
  Calls Tryd.prog 63 #[.agg #[.int .i64 a0,.int .i64 a1,.int .i64 a2,.int .i64 a3,.string a4]] w (ChPost w a0 a1 a2 a3 a4 r):=by
 have hGa:Glob (w.alloc (.cells #[.int .i64 a0,.int .i64 a1,.int .i64 a2,.int .i64 a3,.string a4] 27)):=hG.below (below_box0 w _)
 have HG:=a_ hGa
 clear hGa hG
 subst h0 h2 h3
 have Hm:=a_ hm
 have Ht:=a_ ht
 clear hm ht
 go_enter Tryd.func63,Tryd.ntmps63
 go_wp2_with (go_at_call 94;refine (impl_isMade.calls a1 _ _ Hm.out HG.out).mono ?_;rintro e w' ⟨rfl,⟨nd,rfl⟩⟩)
 go_quiet ((go_at_call 98;refine quiet_d (impl_textOk.calls k a4 r _ Ht.out)))
 go_wp2
 go_ret2
 exact ⟨_,rfl,fun _=>rfl,by (with_reducible repeat (first|exact below_box0 w _|apply pw_below_drewN))⟩
theorem changeOf_text_no2 (a0 a1 a2 a3:Int) (a4:ByteArray) (w:World) (hm:impl_isMade.f a1=some true) (h2:a2≠0) (h0:a0=2) (hG:Glob w) :
  Calls Tryd.prog 63 #[.agg #[.int .i64 a0,.int .i64 a1,.int .i64 a2,.int .i64 a3,.string a4]] w (ChPost w a0 a1 a2 a3 a4 false):=by
 have hGa:Glob (w.alloc (.cells #[.int .i64 a0,.int .i64 a1,.int .i64 a2,.int .i64 a3,.string a4] 27)):=hG.below (below_box0 w _)
 have HG:=a_ hGa
 clear hGa hG
 subst h0
 have e2:(a2==0)=false:=beq_eq_false_iff_ne.2 h2
 clear h2
 have Hm:=a_ hm
 clear hm
 go_enter Tryd.func63,Tryd.ntmps63
 go_wp2_with (go_at_call 94;refine (impl_isMade.calls a1 _ _ Hm.out HG.out).mono ?_;rintro e w' ⟨rfl,⟨nd,rfl⟩⟩)
 go_quiet (fail)
 go_wp2
 go_ret2
 exact ⟨_,rfl,(fun h=>by cases h),by (with_reducible repeat (first|exact below_box0 w _|apply pw_below_drewN))⟩
theorem changeOf_text_no3 (a0 a1 a2 a3:Int) (a4:ByteArray) (w:World) (hm:impl_isMade.f a1=some true) (h2:a2=0) (h3:a3≠0) (h0:a0=2) (hG:Glob w) :
  Calls Tryd.prog 63 #[.agg #[.int .i64 a0,.int .i64 a1,.int .i64 a2,.int .i64 a3,.string a4]] w (ChPost w a0 a1 a2 a3 a4 false):=by
 have hGa:Glob (w.alloc (.cells #[.int .i64 a0,.int .i64 a1,.int .i64 a2,.int .i64 a3,.string a4] 27)):=hG.below (below_box0 w _)
 have HG:=a_ hGa
 clear hGa hG
 subst h0 h2
 have e3:(a3==0)=false:=beq_eq_false_iff_ne.2 h3
 clear h3
 have Hm:=a_ hm
 clear hm
 go_enter Tryd.func63,Tryd.ntmps63
 go_wp2_with (go_at_call 94;refine (impl_isMade.calls a1 _ _ Hm.out HG.out).mono ?_;rintro e w' ⟨rfl,⟨nd,rfl⟩⟩)
 go_quiet (fail)
 go_wp2
 go_ret2
 exact ⟨_,rfl,(fun h=>by cases h),by (with_reducible repeat (first|exact below_box0 w _|apply pw_below_drewN))⟩
theorem changeOf_move (a0 a1 a2 a3:Int) (a4:ByteArray) (w:World) (hm:impl_isMade.f a1=some true) (hp:impl_placeOk.f a2 a3=some true) (h0:a0=3) (hG:Glob w) :
  Calls Tryd.prog 63 #[.agg #[.int .i64 a0,.int .i64 a1,.int .i64 a2,.int .i64 a3,.string a4]] w (ChPost w a0 a1 a2 a3 a4 a4.toList.isEmpty):=by
 have hGa:Glob (w.alloc (.cells #[.int .i64 a0,.int .i64 a1,.int .i64 a2,.int .i64 a3,.string a4] 27)):=hG.below (below_box0 w _)
 have HG:=a_ hGa
 clear hGa hG
 subst h0
 have Hm:=a_ hm
 have Hp:=a_ hp
 clear hm hp
 go_enter Tryd.func63,Tryd.ntmps63
 go_wp2_with (go_at_call 94;refine (impl_isMade.calls a1 _ _ Hm.out HG.out).mono ?_;rintro e w' ⟨rfl,⟨nd,rfl⟩⟩)
 go_quiet ((go_at_call 97;refine quiet_d (impl_placeOk.calls a2 a3 true _ Hp.out (by (with_reducible repeat (first|exact HG.out|apply Glob.drewN|apply Glob.drew))))))
 go_wp2
 go_ret2
 exact ⟨_,rfl,fun _=>rfl,by (with_reducible repeat (first|exact below_box0 w _|apply pw_below_drewN))⟩
theorem changeOf_move_no (a0 a1 a2 a3:Int) (a4:ByteArray) (w:World) (hm:impl_isMade.f a1=some true) (hp:impl_placeOk.f a2 a3=some false) (h0:a0=3) (hG:Glob w) :
  Calls Tryd.prog 63 #[.agg #[.int .i64 a0,.int .i64 a1,.int .i64 a2,.int .i64 a3,.string a4]] w (ChPost w a0 a1 a2 a3 a4 false):=by
 have hGa:Glob (w.alloc (.cells #[.int .i64 a0,.int .i64 a1,.int .i64 a2,.int .i64 a3,.string a4] 27)):=hG.below (below_box0 w _)
 have HG:=a_ hGa
 clear hGa hG
 subst h0
 have Hm:=a_ hm
 have Hp:=a_ hp
 clear hm hp
 go_enter Tryd.func63,Tryd.ntmps63
 go_wp2_with (go_at_call 94;refine (impl_isMade.calls a1 _ _ Hm.out HG.out).mono ?_;rintro e w' ⟨rfl,⟨nd,rfl⟩⟩)
 go_quiet ((go_at_call 97;refine quiet_d (impl_placeOk.calls a2 a3 false _ Hp.out (by (with_reducible repeat (first|exact HG.out|apply Glob.drewN|apply Glob.drew))))))
 go_wp2
 go_ret2
 exact ⟨_,rfl,(fun h=>by cases h),by (with_reducible repeat (first|exact below_box0 w _|apply pw_below_drewN))⟩
theorem changeOf_kind (a0 a1 a2 a3:Int) (a4:ByteArray) (w:World) (hm:impl_isMade.f a1=some true) (h1:a0≠1) (h2:a0≠2) (h3:a0≠3) (hG:Glob w) :
  Calls Tryd.prog 63 #[.agg #[.int .i64 a0,.int .i64 a1,.int .i64 a2,.int .i64 a3,.string a4]] w (ChPost w a0 a1 a2 a3 a4 false):=by
 have hGa:Glob (w.alloc (.cells #[.int .i64 a0,.int .i64 a1,.int .i64 a2,.int .i64 a3,.string a4] 27)):=hG.below (below_box0 w _)
 have HG:=a_ hGa
 clear hGa hG
 have e1:(a0==1)=false:=beq_eq_false_iff_ne.2 h1
 have e2:(a0==2)=false:=beq_eq_false_iff_ne.2 h2
 have e3:(a0==3)=false:=beq_eq_false_iff_ne.2 h3
 clear h1 h2 h3
 have Hm:=a_ hm
 clear hm
 go_enter Tryd.func63,Tryd.ntmps63
 go_wp2_with (go_at_call 94;refine (impl_isMade.calls a1 _ _ Hm.out HG.out).mono ?_;rintro e w' ⟨rfl,⟨nd,rfl⟩⟩)
 go_ret2
 exact ⟨_,rfl,(fun h=>by cases h),by (with_reducible repeat (first|exact below_box0 w _|apply pw_below_drewN))⟩
theorem impl_changeOf.calls (k:Nat) (a0 a1 a2 a3:Int) (a4:ByteArray) (r:Bool) (w:World) (h:impl_changeOf.f k a0 a1 a2 a3 a4=some r) (hG:Glob w) :
  Calls Tryd.prog 63 #[.agg #[.int .i64 a0,.int .i64 a1,.int .i64 a2,.int .i64 a3,.string a4]] w (ChPost w a0 a1 a2 a3 a4 r):=by
 unfold impl_changeOf.f at h
 obtain ⟨m,hm,h⟩:=Option.bind_eq_some_iff.1 h
 cases m with
 | false =>
  simp only [Bool.false_eq_true,if_false,Option.some.injEq] at h
  subst h
  exact changeOf_unmade a0 a1 a2 a3 a4 w hm hG
 | true =>
  simp only [if_true] at h
  by_cases h1:a0=1
  ·rw [if_pos h1] at h
   obtain ⟨p,hp,h⟩:=Option.bind_eq_some_iff.1 h
   cases p with
   | false =>
    simp only [Bool.false_eq_true,if_false,Option.some.injEq] at h
    subst h
    exact changeOf_make_no a0 a1 a2 a3 a4 w hm hp h1 hG
   | true =>
    simp only [if_true] at h
    exact changeOf_make k a0 a1 a2 a3 a4 r w hm hp h h1 hG
  ·rw [if_neg h1] at h
   by_cases h2:a0=2
   ·rw [if_pos h2] at h
    by_cases g2:a2=0
    ·rw [if_pos g2] at h
     by_cases g3:a3=0
     ·rw [if_pos g3] at h
      exact changeOf_text k a0 a1 a2 a3 a4 r w hm g2 g3 h h2 hG
     ·rw [if_neg g3] at h
      simp only [Option.some.injEq] at h
      subst h
      exact changeOf_text_no3 a0 a1 a2 a3 a4 w hm g2 g3 h2 hG
    ·rw [if_neg g2] at h
     simp only [Option.some.injEq] at h
     subst h
     exact changeOf_text_no2 a0 a1 a2 a3 a4 w hm g2 h2 hG
   ·rw [if_neg h2] at h
    by_cases h3:a0=3
    ·rw [if_pos h3] at h
     obtain ⟨p,hp,h⟩:=Option.bind_eq_some_iff.1 h
     cases p with
     | false =>
      simp only [Bool.false_eq_true,if_false,Option.some.injEq] at h
      subst h
      exact changeOf_move_no a0 a1 a2 a3 a4 w hm hp h3 hG
     | true =>
      simp only [if_true,Option.some.injEq] at h
      subst h
      exact changeOf_move a0 a1 a2 a3 a4 w hm hp h3 hG
    ·rw [if_neg h3] at h
     simp only [Option.some.injEq] at h
     subst h
     exact changeOf_kind a0 a1 a2 a3 a4 w hm h1 h2 h3 hG
def impl_OpOk.f (k:Nat) (a0 a1 a2 a3:Int) (a4:ByteArray):Option Bool:=impl_changeOf.f k a0 a1 a2 a3 a4
theorem impl_OpOk.mono (a0 a1 a2 a3:Int) (a4:ByteArray) (k:Nat):LeO (impl_OpOk.f k a0 a1 a2 a3 a4) (impl_OpOk.f (k+1) a0 a1 a2 a3 a4):=impl_changeOf.mono a0 a1 a2 a3 a4 k
theorem impl_OpOk.calls (k:Nat) (a0_0 a0_1 a0_2 a0_3:Int) (a0_4:ByteArray) (r:Bool) (w:World) (h:impl_OpOk.f k a0_0 a0_1 a0_2 a0_3 a0_4=some r) (hG:Glob w) :
  Calls Tryd.prog 36 #[.agg #[.int .i64 a0_0,.int .i64 a0_1,.int .i64 a0_2,.int .i64 a0_3,.string a0_4]] w fun e w'=>e=.returned (.bool r)∧Below w.heap.size w w':=by
 have hGa:Glob (w.alloc (.cells #[.int .i64 a0_0,.int .i64 a0_1,.int .i64 a0_2,.int .i64 a0_3,.string a0_4] 27)):=hG.below (below_box0 w _)
 have HG:=a_ hGa
 have HH:=a_ h
 clear hGa hG h
 have hu:=Tryd.underlying27
 go_enter Tryd.func36,Tryd.ntmps36
 go_wp2_with (go_at_call 63;refine (impl_changeOf.calls k a0_0 a0_1 a0_2 a0_3 a0_4 r _ HH.out HG.out).mono ?_;rintro e w1 ⟨v,rfl,_,hb⟩;have HB:=a_ hb;clear hb)
 go_ret
 exact ⟨rfl,(below_box0 w _).trans (HB.out.mono (by simp))⟩
end Go.Proofs.YtlkheeegkifblaaDoor.P
namespace Go.Proofs.YtlkheeegkifblaaDoor.P
open Go.RowKit Go.Proofs.YtlkheeegkifblaaDoorW.PrintWords Go.Proofs.YtlkheeegkifblaaDoorW.PrintLast
def spec_l6In.f (a0:Int) (a1:Int) (a2:Int):Option (Bool):=if a0≥a1 then (some (decide (a0≤a2))) else (some false)
theorem spec_l6In.calls (a0:Int) (a1:Int) (a2:Int) (r:Bool) (w:World) (h:spec_l6In.f a0 a1 a2=some r) :
  Calls Tryd.prog 92 #[.int .i64 a0,.int .i64 a1,.int .i64 a2] w fun e w'=>e=.returned (.bool r)∧Drawn0 w w':=by
 unfold spec_l6In.f at h
 have H:=h
 clear h
 by_cases c4:a0≥a1
 ·rw [if_pos c4] at H
  have c4b0:decide (a1≤a0)=true:=dt_ c4
  clear c4
  obtain rfl:=sj_ H
  go_enter Tryd.func92,Tryd.ntmps92
  go_wp2
  go_ret
  exact ⟨si_,by repeat (first|exact Drawn0.refl _|apply Drawn0.step)⟩
 ·rw [if_neg c4] at H
  have c4b0:decide (a1≤a0)=false:=df_ c4
  clear c4
  obtain rfl:=sj_ H
  go_enter Tryd.func92,Tryd.ntmps92
  go_wp2
  go_ret
  exact ⟨si_,by repeat (first|exact Drawn0.refl _|apply Drawn0.step)⟩

def spec_l1Made.f (a0:Int):Option (Bool):=(spec_l6In.f (wrap64 (Int.tdiv a0 10)) 1 3).bind fun t101=>(if t101=true then ((spec_l6In.f (Int.tmod a0 10) 1 6).bind fun t102=>(some t102)) else (some false))
theorem spec_l1Made.calls (a0:Int) (r:Bool) (w:World) (h:spec_l1Made.f a0=some r) :
  Calls Tryd.prog 53 #[.int .i64 a0] w fun e w'=>e=.returned (.bool r)∧Drawn0 w w':=by
 unfold spec_l1Made.f at h
 have H:=h
 clear h
 replace H:=bs_ H
 obtain ⟨t101,A20,H⟩:=H
 try dsimp only at H
 have A2:=a_ A20
 clear A20
 by_cases c3:t101=true
 ·subst c3
  have H1:((spec_l6In.f (Int.tmod a0 10) 1 6).bind fun t102=>(some t102))=some r:=by rw [if_pos rfl] at H;exact H
  clear H
  have H:=H1
  clear H1
  replace H:=bs_ H
  obtain ⟨t102,A40,H⟩:=H
  try dsimp only at H
  have A4:=a_ A40
  clear A40
  obtain rfl:=sj_ H
  go_enter Tryd.func53,Tryd.ntmps53
  go_wp2_with (first|((with_reducible refine gC_ (f:=92) rfl ?_);refine gl_ 5 Tryd.func92 #[.int .i64 (wrap64 (Int.tdiv a0 10)),.int .i64 1,.int .i64 3] ?_;(with_reducible refine (spec_l6In.calls (wrap64 (Int.tdiv a0 10)) 1 3 true _ A2.out).mono ?_);rintro e w' ⟨rfl,⟨nd,rfl⟩⟩;refine ⟨_,rfl,?_⟩)|(go_at_call 92;(with_reducible refine (spec_l6In.calls (Int.tmod a0 10) 1 6 t102 _ A4.out).mono ?_);rintro e w' ⟨rfl,⟨nd,rfl⟩⟩))
  go_ret
  exact ⟨si_,by repeat (first|exact Drawn0.refl _|apply Drawn0.step)⟩
 ·replace c3:=Bool.eq_false_iff.mpr c3
  subst c3
  have H1:(some false)=some r:=by rw [if_neg (show ¬ (false=true) by decide)] at H;exact H
  clear H
  have H:=H1
  clear H1
  obtain rfl:=sj_ H
  go_enter Tryd.func53,Tryd.ntmps53
  go_wp2_with (first|((with_reducible refine gC_ (f:=92) rfl ?_);refine gl_ 5 Tryd.func92 #[.int .i64 (wrap64 (Int.tdiv a0 10)),.int .i64 1,.int .i64 3] ?_;(with_reducible refine (spec_l6In.calls (wrap64 (Int.tdiv a0 10)) 1 3 false _ A2.out).mono ?_);rintro e w' ⟨rfl,⟨nd,rfl⟩⟩;refine ⟨_,rfl,?_⟩))
  go_ret
  exact ⟨si_,by repeat (first|exact Drawn0.refl _|apply Drawn0.step)⟩

def IsS102 (w0 W:World) (g:Nat) (f0:List Int) (f1:Int):Prop:=∃ A0 c0,W.heap[g]?=some (.cells #[.slice A0 f0.length c0,.int .i64 f1] 102 (0,0))∧w0.heap.size≤g∧Kd.C (Kd.int .u8) w0 A0 f0.length f0
theorem IsS102.grown {w0 W:World} {g:Nat} {f0:List Int} {f1:Int} {W1:World} {row:Option Nat} (h:IsS102 w0 W g f0 f1) (hw:W.grownBy W1 row) (hne:some g≠row):IsS102 w0 W1 g f0 f1:=by
 obtain ⟨A0,c0,hb,hg,hr0⟩:=h
 exact ⟨A0,c0,blk_grown hb hw hne,hg,hr0⟩
theorem IsS102.kept {w0 W:World} {g:Nat} {f0:List Int} {f1:Int} {W1:World} {S:Nat→Prop} (h:IsS102 w0 W g f0 f1) (hk:Kept W W1 S) (hne:¬ S g):IsS102 w0 W1 g f0 f1:=by
 obtain ⟨A0,c0,hb,hg,hr0⟩:=h
 exact ⟨A0,c0,blk_kept hb hk hne,hg,hr0⟩
theorem IsS102.below {w0 W:World} {g:Nat} {f0:List Int} {f1:Int} {W1:World} (h:IsS102 w0 W g f0 f1) (hw:Below W.heap.size W W1):IsS102 w0 W1 g f0 f1:=h.grown (grown_of_below hw none) (by simp)
theorem IsS102.alloc {w0 W:World} {g:Nat} {f0:List Int} {f1:Int} (h:IsS102 w0 W g f0 f1) (o:Obj):IsS102 w0 (W.alloc o) g f0 f1:=h.below (wA_ (Below.refl _ _) o)
theorem IsS102.drewN {w0 W:World} {g:Nat} {f0:List Int} {f1:Int} (h:IsS102 w0 W g f0 f1) (m:Nat):IsS102 w0 (W.drewN m) g f0 f1:=h
theorem IsS102.drew {w0 W:World} {g:Nat} {f0:List Int} {f1:Int} (h:IsS102 w0 W g f0 f1):IsS102 w0 W.drew g f0 f1:=h
theorem IsS102.at_ {w0 W:World} {g:Nat} {f0:List Int} {f1:Int} {w':World} {m:Nat} (hq:W.drewN m=w') (h:IsS102 w0 W g f0 f1):IsS102 w0 w' g f0 f1:=by subst hq;exact IsS102.drewN h m
theorem IsS102.apart {w0 W:World} {g:Nat} {f0:List Int} {f1:Int} {α:Type} {d:Kd α} {e:Nat} {base:Nat} {ok:Nat→Prop} {v:Value} {xs:List α} (h:IsS102 w0 W g f0 f1) (ho:d.R e W base ok v xs) (ht:∀ q,q∈e::d.E→q≠102):d.R e W base (fun k=>ok k∧k≠g) v xs:=by
 obtain ⟨A0,c0,hb,hg,hr0⟩:=h
 exact Kd.R_types ho hb ht
theorem IsS102.own_ne {w0 W:World} {g:Nat} {f0:List Int} {f1:Int} {α:Type} {d:Kd α} {e:Nat} {base:Nat} {ok:Nat→Prop} {v:Value} {xs:List α} (h:IsS102 w0 W g f0 f1) (ho:d.R e W base ok v xs) (ht:e≠102):some g≠v.ownBlock:=by
 obtain ⟨A0,c0,hb,hg,hr0⟩:=h
 exact Kd.R_ne ho hb ht
theorem IsS102.apartQ {w0 W:World} {g:Nat} {f0:List Int} {f1:Int} {α:Type} {d:Kd α} {e:Nat} {base:Nat} {ok:Nat→Prop} {v:Value} {xs:List α} (h:IsS102 w0 W g f0 f1) (ho:d.Q e W base ok v xs) (ht:∀ q,q∈e::d.E→q≠102):d.Q e W base (fun k=>ok k∧k≠g) v xs:=by
 obtain ⟨A0,c0,hb,hg,hr0⟩:=h
 exact Kd.Q_types ho hb ht
theorem IsS102.lt {w0 W:World} {g:Nat} {f0:List Int} {f1:Int} (h:IsS102 w0 W g f0 f1):g < W.heap.size:=by
 obtain ⟨A0,c0,hb,hg,hr0⟩:=h
 exact blk_lt hb
theorem IsS102.ge {w0 W:World} {g:Nat} {f0:List Int} {f1:Int} (h:IsS102 w0 W g f0 f1):w0.heap.size≤g:=by
 obtain ⟨A0,c0,hb,hg,hr0⟩:=h
 exact hg
theorem IsS102.far {w0 W:World} {g:Nat} {f0:List Int} {f1:Int} {p:Addr} (h:IsS102 w0 W g f0 f1) (hne:g≠p.block) (u:Value):IsS102 w0 (W.setCell p u) g f0 f1:=by
 obtain ⟨A0,c0,hb,hg,hr0⟩:=h
 exact ⟨A0,c0,blk_far hb hne u,hg,hr0⟩
theorem cellS102_0 {W:World} {g:Nat} {A0:Option Addr} {c0:Nat} {f0:List Int} {f1:Int} (h:W.heap[g]?=some (.cells #[.slice A0 f0.length c0,.int .i64 f1] 102 (0,0))):W.cell? ⟨g,0,none⟩=some (.slice A0 f0.length c0):=(bC_ h 0).trans rfl
theorem cellS102_1 {W:World} {g:Nat} {A0:Option Addr} {c0:Nat} {f0:List Int} {f1:Int} (h:W.heap[g]?=some (.cells #[.slice A0 f0.length c0,.int .i64 f1] 102 (0,0))):W.cell? ⟨g,1,none⟩=some (.int .i64 f1):=(bC_ h 1).trans rfl
theorem IsS102.set_1 {w0 W:World} {g:Nat} {f0:List Int} {f1:Int} (h:IsS102 w0 W g f0 f1) (x:Int):IsS102 w0 (W.setCell ⟨g,1,none⟩ (.int .i64 x)) g f0 x:=by
 obtain ⟨A0,c0,hb,hg,hr0⟩:=h
 exact ⟨A0,c0,by simpa using blk_set hb 1 (.int .i64 x),hg,hr0⟩
theorem IsS102.new (w0 W:World) (A0:Option Addr) (c0:Nat) (f0:List Int) (f1:Int) (hB:Below w0.heap.size w0 W) (hr0:Kd.C (Kd.int .u8) w0 A0 f0.length f0):IsS102 w0 (W.alloc (.cells #[.slice A0 f0.length c0,.int .i64 f1] 102)) W.heap.size f0 f1:=⟨A0,c0,by simpa using heap_alloc_new W _,hB.size,hr0⟩

theorem is_HI0 {p:Prop} (h:p:=by repeat (first|(with_reducible first|exact HI0.out|apply IsS102.alloc|apply IsS102.drewN|apply IsS102.drew|apply IsS102.set_1|refine IsS102.far ?_ (Aside0.out (by assumption)) _)|exact HI0.out)):p:=h
theorem is_HI418 {p:Prop} (h:p:=by repeat (first|(with_reducible first|exact HI418.out|apply IsS102.alloc|apply IsS102.drewN|apply IsS102.drew|apply IsS102.set_1|refine IsS102.far ?_ (Aside0.out (by assumption)) _)|exact HI418.out)):p:=h
theorem rk102_ {w0 W:World} {g:Nat} {f0:List Int} {f1:Int} {α:Type} {d:Kd α} {e:Nat} {base:Nat} {ok:Nat→Prop} {v:Value} {xs:List α} (h:IsS102 w0 W g f0 f1) (ho:d.R e W base ok v xs) {W1:World} (hk:KeepBut W W1 g none) (ht:∀ q,q∈e::d.E→q≠102:=by decide):Aside0 (d.R e W1 base ok v xs):=a_ (Kd.R_mono (Kd.R_keep (IsS102.apart h ho ht) hk (fun _ h=>h.2)) (fun _ h=>h.1))
def spec_l6Rd_pick.j0:Nat→Int→Bool→List Int→Int→Option (Int×Int)
 | 0,_,_,_,_=>none
 | k+1,x1,x24,x1000,x1001=>if x24=true then (some (0,x1001)) else (if (wrap64 (x1001 - 1)) < (x1000.length:Int) then (if 0≤(wrap64 (x1001 - 1)) then (if x1=0 then (none) else (some (Int.tmod (wrap64 (rd x1000 (wrap64 (x1001 - 1)))) x1,x1001))) else (none)) else (if (x1000.length:Int)=0 then (none) else (if 0≤(Int.tmod (wrap64 (x1001 - 1)) (x1000.length:Int)) then (if (Int.tmod (wrap64 (x1001 - 1)) (x1000.length:Int)) < (x1000.length:Int) then (if 0≤(Int.tmod (wrap64 ((wrap64 ((wrap64 (x1001 - 1)) * 7))+3)) (x1000.length:Int)) then (if (Int.tmod (wrap64 ((wrap64 ((wrap64 (x1001 - 1)) * 7))+3)) (x1000.length:Int)) < (x1000.length:Int) then (if x1=0 then (none) else (some (Int.tmod (Go.bits .xor .i64 (wrap64 ((wrap64 ((wrap64 ((wrap64 ((wrap64 (rd x1000 (Int.tmod (wrap64 (x1001 - 1)) (x1000.length:Int)))) * 131))+(wrap64 ((wrap64 (rd x1000 (Int.tmod (wrap64 ((wrap64 ((wrap64 (x1001 - 1)) * 7))+3)) (x1000.length:Int)))) * 1117))))+(wrap64 ((wrap64 (x1001 - 1)) * 29))))+(wrap64 ((wrap64 (Int.tdiv (wrap64 (x1001 - 1)) (x1000.length:Int))) * 53)))) (wrap64 (Int.tdiv (wrap64 ((wrap64 ((wrap64 ((wrap64 ((wrap64 (rd x1000 (Int.tmod (wrap64 (x1001 - 1)) (x1000.length:Int)))) * 131))+(wrap64 ((wrap64 (rd x1000 (Int.tmod (wrap64 ((wrap64 ((wrap64 (x1001 - 1)) * 7))+3)) (x1000.length:Int)))) * 1117))))+(wrap64 ((wrap64 (x1001 - 1)) * 29))))+(wrap64 ((wrap64 (Int.tdiv (wrap64 (x1001 - 1)) (x1000.length:Int))) * 53)))) 64))) x1,x1001))) else (none)) else (none)) else (none)) else (none))))
def spec_l6Rd_pick.f (k:Nat) (s0_0:List Int) (s0_1:Int) (a1:Int):Option (Int×Int):=if a1 < 1 then (spec_l6Rd_pick.j0 k a1 true s0_0 (wrap64 (s0_1+1))) else (spec_l6Rd_pick.j0 k a1 ((s0_0.length:Int)==0) s0_0 (wrap64 (s0_1+1)))
theorem spec_l6Rd_pick.mono_l:∀ k,(∀ y0 y1 y2 y3,LeO (spec_l6Rd_pick.j0 k y0 y1 y2 y3) (spec_l6Rd_pick.j0 (k+1) y0 y1 y2 y3))
 | 0=>fun _ _ _ _ r h=>by simp [spec_l6Rd_pick.j0] at h
 | k+1=>by
  have ih0:=spec_l6Rd_pick.mono_l k
  ·intro y0 y1 y2 y3
   unfold spec_l6Rd_pick.j0
   repeat' first
   | (with_reducible exact ih0 _ _ _ _)
   | (with_reducible exact LeO.refl _)
   | (with_reducible exact LeO.none _)
   | (with_reducible refine LeO.ite ?_ ?_)
   | (with_reducible refine LeO.bind ?_ (fun _=>?_))
theorem spec_l6Rd_pick.mono:∀ a0 a1 a2 k,LeO (spec_l6Rd_pick.f k a0 a1 a2) (spec_l6Rd_pick.f (k+1) a0 a1 a2):=by
 intro a0 a1 a2 k
 have ih0:=spec_l6Rd_pick.mono_l k
 unfold spec_l6Rd_pick.f
 repeat' first
   | (with_reducible exact ih0 _ _ _ _)
   | (with_reducible exact LeO.refl _)
   | (with_reducible exact LeO.none _)
   | (with_reducible refine LeO.ite ?_ ?_)
   | (with_reducible refine LeO.bind ?_ (fun _=>?_))
theorem spec_l6Rd_pick.calls (k:Nat) (g:Nat) (s0_0:List Int) (s0_1:Int) (a1:Int) (r1:Int) (r2:Int) (w0 w:World) (hI:IsS102 w0 w g s0_0 s0_1) (hB:Below w0.heap.size w0 w) (h:spec_l6Rd_pick.f k s0_0 s0_1 a1=some (r1,r2)) :
  Calls Tryd.prog 73 #[.pointer (some ⟨g,0,none⟩),.int .i64 a1] w fun e w'=>e=.returned (.int .i64 r1)∧IsS102 w0 w' g s0_0 r2∧Below w0.heap.size w0 w'∧KeepBut w w' g none:=by
 have HI0:=a_ hI
 have HK:=a_ (KeepBut.refl w g none)
 have HL:=a_ hB.size
 clear hI
 have HW0:=a_ hB.size
 have HB:=a_ hB
 clear hB
 unfold spec_l6Rd_pick.f at h
 have H:=h
 clear h
 have HC3:=a_ H
 clear H
 obtain ⟨ASz4_0,cSz4_0,HGz4,hgz4,HSz4_0⟩:=HI0.out
 have Z4_0:=cellS102_0 HGz4
 have Z4_1:=cellS102_1 HGz4
 have Y4_1:=bF_ HGz4 1
 clear HGz4 hgz4
 go_enter Tryd.func73,Tryd.ntmps73
 go_upto_region 2 with (fail)
 repeat (go_quiet (fail);go_upto_region 2 with (fail))
 go_cut [24] (fun v24 wc=>∃ (kq:Nat) (x24_2:Bool),v24=.bool x24_2∧Aside0 (spec_l6Rd_pick.j0 kq a1 x24_2 s0_0 (wrap64 (s0_1+1))=some (r1,r2))∧Aside0 (kq≤k)∧Aside0 (IsS102 w0 wc g s0_0 (wrap64 (s0_1+1)))∧Aside0 (KeepBut w wc g none)∧Aside0 (Below w0.heap.size w0 wc))
 case first =>
  have H:=HC3.out
  clear HC3
  by_cases c5:a1 < 1
  ·rw [if_pos c5] at H
   have c5b0:decide (a1 < 1)=true:=dt_ c5
   clear c5
   (first|rw [c5b0]|(simp only [i64_w,i32_w];rw [c5b0])|skip)
   have H':=a_ H
   clear H
   go_wp2
   repeat (go_quiet (fail);try go_wp2)
   go_meet
   case rel=>exact ⟨_,(true),(si_),H',⟨by first|omega|exact Nat.le_refl _⟩,⟨is_HI0⟩,⟨ke_⟩,⟨bel_⟩⟩
  ·rw [if_neg c5] at H
   have c5b0:decide (a1 < 1)=false:=df_ c5
   clear c5
   (first|rw [c5b0]|(simp only [i64_w,i32_w];rw [c5b0])|skip)
   have H':=a_ H
   clear H
   obtain ⟨ASz6_0,cSz6_0,HGz6,hgz6,HSz6_0⟩:=HI0.out
   have Z6_0:=cellS102_0 HGz6
   have Z6_1:=cellS102_1 HGz6
   have Y6_1:=bF_ HGz6 1
   clear HGz6 hgz6
   go_wp2
   repeat (go_quiet (fail);try go_wp2)
   go_meet
   case rel=>exact ⟨_,(((s0_0.length:Int)==0)),(si_),H',⟨by first|omega|exact Nat.le_refl _⟩,⟨is_HI0⟩,⟨ke_⟩,⟨bel_⟩⟩
 case rest =>
  clear HC3
  try clear p2
  try clear c5
  try clear c5b0
  try clear p6
  try clear Z4_0 Z4_1 Y4_1
  try clear Z6_0 Z6_1 Y6_1
  obtain ⟨kq,x24_2,rfl,HA,HJ2,HI0,HK,HB⟩:=hcut
  cases kq with
  | zero=>exact absurd HA.out (by simp [spec_l6Rd_pick.j0])
  | succ kj2 =>
   have H:=HA.out
   clear HA
   simp only [spec_l6Rd_pick.j0] at H
   by_cases c7:x24_2=true
   ·subst c7
    have H1:(some (0,(wrap64 (s0_1+1))))=some (r1,r2):=by rw [if_pos rfl] at H;exact H
    clear H
    have H:=H1
    clear H1
    simp only [Option.some.injEq,Prod.mk.injEq] at H
    obtain ⟨rfl,rfl⟩:=H
    go_wp2
    repeat (go_quiet (fail);try go_wp2)
    go_ret
    exact ⟨fi_,is_HI0,bel_,ke_⟩
   ·replace c7:=Bool.eq_false_iff.mpr c7
    subst c7
    have H1:(if (wrap64 ((wrap64 (s0_1+1)) - 1)) < (s0_0.length:Int) then (if 0≤(wrap64 ((wrap64 (s0_1+1)) - 1)) then (if a1=0 then (none) else (some (Int.tmod (wrap64 (rd s0_0 (wrap64 ((wrap64 (s0_1+1)) - 1)))) a1,(wrap64 (s0_1+1))))) else (none)) else (if (s0_0.length:Int)=0 then (none) else (if 0≤(Int.tmod (wrap64 ((wrap64 (s0_1+1)) - 1)) (s0_0.length:Int)) then (if (Int.tmod (wrap64 ((wrap64 (s0_1+1)) - 1)) (s0_0.length:Int)) < (s0_0.length:Int) then (if 0≤(Int.tmod (wrap64 ((wrap64 ((wrap64 ((wrap64 (s0_1+1)) - 1)) * 7))+3)) (s0_0.length:Int)) then (if (Int.tmod (wrap64 ((wrap64 ((wrap64 ((wrap64 (s0_1+1)) - 1)) * 7))+3)) (s0_0.length:Int)) < (s0_0.length:Int) then (if a1=0 then (none) else (some (Int.tmod (Go.bits .xor .i64 (wrap64 ((wrap64 ((wrap64 ((wrap64 ((wrap64 (rd s0_0 (Int.tmod (wrap64 ((wrap64 (s0_1+1)) - 1)) (s0_0.length:Int)))) * 131))+(wrap64 ((wrap64 (rd s0_0 (Int.tmod (wrap64 ((wrap64 ((wrap64 ((wrap64 (s0_1+1)) - 1)) * 7))+3)) (s0_0.length:Int)))) * 1117))))+(wrap64 ((wrap64 ((wrap64 (s0_1+1)) - 1)) * 29))))+(wrap64 ((wrap64 (Int.tdiv (wrap64 ((wrap64 (s0_1+1)) - 1)) (s0_0.length:Int))) * 53)))) (wrap64 (Int.tdiv (wrap64 ((wrap64 ((wrap64 ((wrap64 ((wrap64 (rd s0_0 (Int.tmod (wrap64 ((wrap64 (s0_1+1)) - 1)) (s0_0.length:Int)))) * 131))+(wrap64 ((wrap64 (rd s0_0 (Int.tmod (wrap64 ((wrap64 ((wrap64 ((wrap64 (s0_1+1)) - 1)) * 7))+3)) (s0_0.length:Int)))) * 1117))))+(wrap64 ((wrap64 ((wrap64 (s0_1+1)) - 1)) * 29))))+(wrap64 ((wrap64 (Int.tdiv (wrap64 ((wrap64 (s0_1+1)) - 1)) (s0_0.length:Int))) * 53)))) 64))) a1,(wrap64 (s0_1+1))))) else (none)) else (none)) else (none)) else (none))))=some (r1,r2):=by rw [if_neg (show ¬ (false=true) by decide)] at H;exact H
    clear H
    have H:=H1
    clear H1
    by_cases c8:(wrap64 ((wrap64 (s0_1+1)) - 1)) < (s0_0.length:Int)
    ·rw [if_pos c8] at H
     have c8b0:decide ((wrap64 ((wrap64 (s0_1+1)) - 1)) < (s0_0.length:Int))=true:=dt_ c8
     clear c8
     obtain ⟨ji9,hji9⟩:∃ j_:Int,(wrap64 ((wrap64 (s0_1+1)) - 1))=j_:=⟨_,rfl⟩
     replace H:(if 0≤(ji9) then (if a1=0 then (none) else (some (Int.tmod (wrap64 (rd s0_0 (ji9))) a1,(wrap64 (s0_1+1))))) else (none))=some (r1,r2):=by first|(rw [hji9] at H;exact H)|(simp only [hji9] at H ⊢;exact H)
     (try rw [hji9] at c8b0)
     have hji9w:(IntKind.i64.wrap ((wrap64 (s0_1+1)) - 1))=ji9:=(i64_w _).trans hji9
     by_cases c10:0≤(ji9)
     ·rw [if_pos c10] at H
      have c10b0:decide (0≤(ji9))=true:=dt_ c10
      clear c10
      by_cases c11:a1=0
      ·rw [if_pos c11] at H
       exact absurd H (by simp)
      ·rw [if_neg c11] at H
       have c11b0:(a1==0)=false:=bn_ c11
       have c11b1:(a1 != 0)=true:=bne_iff_ne.mpr c11
       simp only [Option.some.injEq,Prod.mk.injEq] at H
       obtain ⟨rfl,rfl⟩:=H
       obtain ⟨ASz12_0,cSz12_0,HGz12,hgz12,HSz12_0⟩:=HI0.out
       have Z12_0:=cellS102_0 HGz12
       have Z12_1:=cellS102_1 HGz12
       have Y12_1:=bF_ HGz12 1
       clear HGz12 hgz12
       have p103:0≤((ji9):Int):=od_
       have q103:(ji9) < (s0_0.length:Int):=od_
       obtain ⟨ad103,e103,hx103_0⟩:=Kd.at_int HSz12_0 (ji9) p103 q103
       cases e103
       replace hx103_0:=pw_cell_below HB.out hx103_0
       replace p103:=eq_true p103
       replace q103:=eq_true q103
       go_wp2
       repeat (go_quiet (fail);try go_wp2)
       go_ret
       exact ⟨by first|rfl|(simp [errW_none,errW_some] <;> rfl)|(simp only [←hji9];first|rfl|(simp [errW_none,errW_some] <;> rfl))|(simp [*,errW_none,errW_some] <;> rfl),is_HI0,bel_,ke_⟩
     ·rw [if_neg c10] at H
      exact absurd H (by simp)
    ·rw [if_neg c8] at H
     have c8b0:decide ((wrap64 ((wrap64 (s0_1+1)) - 1)) < (s0_0.length:Int))=false:=df_ c8
     clear c8
     by_cases c13:(s0_0.length:Int)=0
     ·rw [if_pos c13] at H
      exact absurd H (by simp)
     ·rw [if_neg c13] at H
      have c13b0:((s0_0.length:Int)==0)=false:=bn_ c13
      have c13b1:((s0_0.length:Int) != 0)=true:=bne_iff_ne.mpr c13
      have c13b2:¬ (s0_0=[]):=fun h_=>c13 (by rw [h_];rfl)
      obtain ⟨ji14,hji14⟩:∃ j_:Int,(Int.tmod (wrap64 ((wrap64 (s0_1+1)) - 1)) (s0_0.length:Int))=j_:=⟨_,rfl⟩
      replace H:(if 0≤(ji14) then (if (ji14) < (s0_0.length:Int) then (if 0≤(Int.tmod (wrap64 ((wrap64 ((wrap64 ((wrap64 (s0_1+1)) - 1)) * 7))+3)) (s0_0.length:Int)) then (if (Int.tmod (wrap64 ((wrap64 ((wrap64 ((wrap64 (s0_1+1)) - 1)) * 7))+3)) (s0_0.length:Int)) < (s0_0.length:Int) then (if a1=0 then (none) else (some (Int.tmod (Go.bits .xor .i64 (wrap64 ((wrap64 ((wrap64 ((wrap64 ((wrap64 (rd s0_0 (ji14))) * 131))+(wrap64 ((wrap64 (rd s0_0 (Int.tmod (wrap64 ((wrap64 ((wrap64 ((wrap64 (s0_1+1)) - 1)) * 7))+3)) (s0_0.length:Int)))) * 1117))))+(wrap64 ((wrap64 ((wrap64 (s0_1+1)) - 1)) * 29))))+(wrap64 ((wrap64 (Int.tdiv (wrap64 ((wrap64 (s0_1+1)) - 1)) (s0_0.length:Int))) * 53)))) (wrap64 (Int.tdiv (wrap64 ((wrap64 ((wrap64 ((wrap64 ((wrap64 (rd s0_0 (ji14))) * 131))+(wrap64 ((wrap64 (rd s0_0 (Int.tmod (wrap64 ((wrap64 ((wrap64 ((wrap64 (s0_1+1)) - 1)) * 7))+3)) (s0_0.length:Int)))) * 1117))))+(wrap64 ((wrap64 ((wrap64 (s0_1+1)) - 1)) * 29))))+(wrap64 ((wrap64 (Int.tdiv (wrap64 ((wrap64 (s0_1+1)) - 1)) (s0_0.length:Int))) * 53)))) 64))) a1,(wrap64 (s0_1+1))))) else (none)) else (none)) else (none)) else (none))=some (r1,r2):=by first|(rw [hji14] at H;exact H)|(simp only [hji14] at H ⊢;exact H)
      by_cases c15:0≤(ji14)
      ·rw [if_pos c15] at H
       have c15b0:decide (0≤(ji14))=true:=dt_ c15
       clear c15
       by_cases c16:(ji14) < (s0_0.length:Int)
       ·rw [if_pos c16] at H
        have c16b0:decide ((ji14) < (s0_0.length:Int))=true:=dt_ c16
        clear c16
        obtain ⟨ji17,hji17⟩:∃ j_:Int,(Int.tmod (wrap64 ((wrap64 ((wrap64 ((wrap64 (s0_1+1)) - 1)) * 7))+3)) (s0_0.length:Int))=j_:=⟨_,rfl⟩
        replace H:(if 0≤(ji17) then (if (ji17) < (s0_0.length:Int) then (if a1=0 then (none) else (some (Int.tmod (Go.bits .xor .i64 (wrap64 ((wrap64 ((wrap64 ((wrap64 ((wrap64 (rd s0_0 (ji14))) * 131))+(wrap64 ((wrap64 (rd s0_0 (ji17))) * 1117))))+(wrap64 ((wrap64 ((wrap64 (s0_1+1)) - 1)) * 29))))+(wrap64 ((wrap64 (Int.tdiv (wrap64 ((wrap64 (s0_1+1)) - 1)) (s0_0.length:Int))) * 53)))) (wrap64 (Int.tdiv (wrap64 ((wrap64 ((wrap64 ((wrap64 ((wrap64 (rd s0_0 (ji14))) * 131))+(wrap64 ((wrap64 (rd s0_0 (ji17))) * 1117))))+(wrap64 ((wrap64 ((wrap64 (s0_1+1)) - 1)) * 29))))+(wrap64 ((wrap64 (Int.tdiv (wrap64 ((wrap64 (s0_1+1)) - 1)) (s0_0.length:Int))) * 53)))) 64))) a1,(wrap64 (s0_1+1))))) else (none)) else (none))=some (r1,r2):=by first|(rw [hji17] at H;exact H)|(simp only [hji17] at H ⊢;exact H)
        by_cases c18:0≤(ji17)
        ·rw [if_pos c18] at H
         have c18b0:decide (0≤(ji17))=true:=dt_ c18
         clear c18
         by_cases c19:(ji17) < (s0_0.length:Int)
         ·rw [if_pos c19] at H
          have c19b0:decide ((ji17) < (s0_0.length:Int))=true:=dt_ c19
          clear c19
          by_cases c20:a1=0
          ·rw [if_pos c20] at H
           exact absurd H (by simp)
          ·rw [if_neg c20] at H
           have c20b0:(a1==0)=false:=bn_ c20
           have c20b1:(a1 != 0)=true:=bne_iff_ne.mpr c20
           simp only [Option.some.injEq,Prod.mk.injEq] at H
           obtain ⟨rfl,rfl⟩:=H
           obtain ⟨ASz21_0,cSz21_0,HGz21,hgz21,HSz21_0⟩:=HI0.out
           have Z21_0:=cellS102_0 HGz21
           have Z21_1:=cellS102_1 HGz21
           have Y21_1:=bF_ HGz21 1
           clear HGz21 hgz21
           have p104:0≤((ji14):Int):=od_
           have q104:(ji14) < (s0_0.length:Int):=od_
           obtain ⟨ad104,e104,hx104_0⟩:=Kd.at_int HSz21_0 (ji14) p104 q104
           cases e104
           replace hx104_0:=pw_cell_below HB.out hx104_0
           replace p104:=eq_true p104
           replace q104:=eq_true q104
           have p105:0≤((ji17):Int):=od_
           have q105:(ji17) < (s0_0.length:Int):=od_
           obtain ⟨ad105,e105,hx105_0⟩:=Kd.at_int HSz21_0 (ji17) p105 q105
           obtain rfl:ad104=ad105:=(by injection e105)
           replace hx105_0:=pw_cell_below HB.out hx105_0
           replace p105:=eq_true p105
           replace q105:=eq_true q105
           go_wp2
           repeat (go_quiet (fail);try go_wp2)
           go_ret
           exact ⟨by first|rfl|(simp [errW_none,errW_some] <;> rfl)|(simp only [←hji14,←hji17];first|rfl|(simp [errW_none,errW_some] <;> rfl))|(simp [*,errW_none,errW_some] <;> rfl),is_HI0,bel_,ke_⟩
         ·rw [if_neg c19] at H
          exact absurd H (by simp)
        ·rw [if_neg c18] at H
         exact absurd H (by simp)
       ·rw [if_neg c16] at H
        exact absurd H (by simp)
      ·rw [if_neg c15] at H
       exact absurd H (by simp)

def spec_l2At.l0:Nat→List (S37)→Int→Int→Option (Int)
 | 0,_,_,_=>none
 | k+1,x0,x1,x5=>if x5 < (x0.length:Int) then (if 0≤x5 then (if ((rd_T37 x0 x5).f0)=x1 then (some x5) else (spec_l2At.l0 k x0 x1 (wrap64 (x5+1)))) else (none)) else (some (-1))
def spec_l2At.f (k:Nat) (l0:List (S37)) (a1:Int):Option (Int):=spec_l2At.l0 k l0 a1 0
theorem spec_l2At.mono_l:∀ k,(∀ y0 y1 y2,LeO (spec_l2At.l0 k y0 y1 y2) (spec_l2At.l0 (k+1) y0 y1 y2))
 | 0=>fun _ _ _ r h=>by simp [spec_l2At.l0] at h
 | k+1=>by
  have ih0:=spec_l2At.mono_l k
  ·intro y0 y1 y2
   unfold spec_l2At.l0
   repeat' first
   | (with_reducible exact ih0 _ _ _)
   | (with_reducible exact LeO.refl _)
   | (with_reducible exact LeO.none _)
   | (with_reducible refine LeO.ite ?_ ?_)
   | (with_reducible refine LeO.bind ?_ (fun _=>?_))
theorem spec_l2At.mono:∀ a0 a1 k,LeO (spec_l2At.f k a0 a1) (spec_l2At.f (k+1) a0 a1):=by
 intro a0 a1 k
 have ih0:=spec_l2At.mono_l k
 unfold spec_l2At.f
 repeat' first
   | (with_reducible exact ih0 _ _ _)
   | (with_reducible exact LeO.refl _)
   | (with_reducible exact LeO.none _)
   | (with_reducible refine LeO.ite ?_ ?_)
   | (with_reducible refine LeO.bind ?_ (fun _=>?_))
theorem spec_l2At.calls (k:Nat) (A0:Option Addr) (c0:Nat) (l0:List (S37)) (a1:Int) (r:Int) (w:World) (hr0:Kd.C k37 w A0 l0.length l0) (hc0:l0.length≤c0) (h:spec_l2At.f k l0 a1=some r) :
  Calls Tryd.prog 54 #[.slice A0 l0.length c0,.int .i64 a1] w fun e w'=>e=.returned (.int .i64 r)∧Drawn0 w w':=by
 have HR0:=a_ hr0
 have HC0:=a_ hc0
 clear hr0 hc0
 unfold spec_l2At.f at h
 have H:=h
 clear h
 have H':=a_ H
 clear H
 go_enter Tryd.func54,Tryd.ntmps54
 go_wp2
 go_loopg [5] k (fun kq v5 w'=>∃ (x5_1:Int),v5=.int .i64 x5_1∧Aside0 (spec_l2At.l0 kq l0 a1 x5_1=some r)∧Aside0 (kq≤k)∧Drawn0 w w')
 case atStart=>exact ⟨(0),(si_),H',⟨Nat.le_refl _⟩,by repeat (first|exact Drawn0.refl _|apply Drawn0.step)⟩
 case round =>
  clear H'
  try clear p2
  obtain ⟨x5_1,rfl,HA,HK1,⟨m1,rfl⟩⟩:=hrel
  cases gk with
  | zero=>exact absurd HA.out (by simp [spec_l2At.l0])
  | succ k1 =>
   have H:=HA.out
   clear HA
   simp only [spec_l2At.l0] at H
   by_cases c3:x5_1 < (l0.length:Int)
   ·rw [if_pos c3] at H
    have c3b0:decide (x5_1 < (l0.length:Int))=true:=dt_ c3
    clear c3
    by_cases c4:0≤x5_1
    ·rw [if_pos c4] at H
     have c4b0:decide (0≤x5_1)=true:=dt_ c4
     clear c4
     by_cases c5:((rd_T37 l0 x5_1).f0)=a1
     ·rw [if_pos c5] at H
      have c5b0:(((rd_T37 l0 x5_1).f0)==a1)=true:=beq_iff_eq.mpr c5
      have c5b1:(((rd_T37 l0 x5_1).f0) != a1)=false:=be_ c5
      clear c5
      obtain rfl:=sj_ H
      have p106:0≤(x5_1:Int):=od_
      have q106:x5_1 < (l0.length:Int):=od_
      obtain ⟨ad106,e106,hx106_0,hx106_1,hx106_2⟩:=at_T37 HR0.out x5_1 p106 q106
      cases e106
      replace p106:=eq_true p106
      replace q106:=eq_true q106
      go_wp2
      go_ret
      exact ⟨si_,by repeat (first|exact Drawn0.refl _|apply Drawn0.step)⟩
     ·rw [if_neg c5] at H
      have c5b0:(((rd_T37 l0 x5_1).f0)==a1)=false:=bn_ c5
      have c5b1:(((rd_T37 l0 x5_1).f0) != a1)=true:=bne_iff_ne.mpr c5
      have H':=a_ H
      clear H
      have p106:0≤(x5_1:Int):=od_
      have q106:x5_1 < (l0.length:Int):=od_
      obtain ⟨ad106,e106,hx106_0,hx106_1,hx106_2⟩:=at_T37 HR0.out x5_1 p106 q106
      cases e106
      replace p106:=eq_true p106
      replace q106:=eq_true q106
      go_wp2
      go_roundg k1
      case measure=>have:=HK1.out;omega
      case rel=>exact ⟨(wrap64 (x5_1+1)),(si_),H',⟨by have:=HK1.out;omega⟩,by repeat (first|exact Drawn0.refl _|apply Drawn0.step)⟩
    ·rw [if_neg c4] at H
     exact absurd H (by simp)
   ·rw [if_neg c3] at H
    have c3b0:decide (x5_1 < (l0.length:Int))=false:=df_ c3
    clear c3
    obtain rfl:=sj_ H
    go_wp2
    go_ret
    exact ⟨si_,by repeat (first|exact Drawn0.refl _|apply Drawn0.step)⟩

def spec_l2End.l0:Nat→List (S37)→Int→Int→Option (Int)
 | 0,_,_,_=>none
 | k+1,x0,x1,x5=>if x5 < (x0.length:Int) then (if 0≤x5 then (if 0≤x1 then (if x1 < (x0.length:Int) then (if ((rd_T37 x0 x5).f1) > ((rd_T37 x0 x1).f1) then (spec_l2End.l0 k x0 x1 (wrap64 (x5+1))) else (some x5)) else (none)) else (none)) else (none)) else (some x5)
def spec_l2End.f (k:Nat) (l0:List (S37)) (a1:Int):Option (Int):=spec_l2End.l0 k l0 a1 (wrap64 (a1+1))
theorem spec_l2End.mono_l:∀ k,(∀ y0 y1 y2,LeO (spec_l2End.l0 k y0 y1 y2) (spec_l2End.l0 (k+1) y0 y1 y2))
 | 0=>fun _ _ _ r h=>by simp [spec_l2End.l0] at h
 | k+1=>by
  have ih0:=spec_l2End.mono_l k
  ·intro y0 y1 y2
   unfold spec_l2End.l0
   repeat' first
   | (with_reducible exact ih0 _ _ _)
   | (with_reducible exact LeO.refl _)
   | (with_reducible exact LeO.none _)
   | (with_reducible refine LeO.ite ?_ ?_)
   | (with_reducible refine LeO.bind ?_ (fun _=>?_))
theorem spec_l2End.mono:∀ a0 a1 k,LeO (spec_l2End.f k a0 a1) (spec_l2End.f (k+1) a0 a1):=by
 intro a0 a1 k
 have ih0:=spec_l2End.mono_l k
 unfold spec_l2End.f
 repeat' first
   | (with_reducible exact ih0 _ _ _)
   | (with_reducible exact LeO.refl _)
   | (with_reducible exact LeO.none _)
   | (with_reducible refine LeO.ite ?_ ?_)
   | (with_reducible refine LeO.bind ?_ (fun _=>?_))
theorem spec_l2End.calls (k:Nat) (A0:Option Addr) (c0:Nat) (l0:List (S37)) (a1:Int) (r:Int) (w:World) (hr0:Kd.C k37 w A0 l0.length l0) (hc0:l0.length≤c0) (h:spec_l2End.f k l0 a1=some r) :
  Calls Tryd.prog 93 #[.slice A0 l0.length c0,.int .i64 a1] w fun e w'=>e=.returned (.int .i64 r)∧Drawn0 w w':=by
 have HR0:=a_ hr0
 have HC0:=a_ hc0
 clear hr0 hc0
 unfold spec_l2End.f at h
 have H:=h
 clear h
 have H':=a_ H
 clear H
 go_enter Tryd.func93,Tryd.ntmps93
 go_wp2
 repeat (go_quiet (fail);try go_wp2)
 go_loopg [5] k (fun kq v5 w'=>∃ (x5_1:Int),v5=.int .i64 x5_1∧Aside0 (spec_l2End.l0 kq l0 a1 x5_1=some r)∧Aside0 (kq≤k)∧Drawn0 w w')
 case atStart=>exact ⟨(wrap64 (a1+1)),(si_),H',⟨Nat.le_refl _⟩,by repeat (first|exact Drawn0.refl _|apply Drawn0.step)⟩
 case round =>
  clear H'
  try clear p2
  obtain ⟨x5_1,rfl,HA,HK1,⟨m1,rfl⟩⟩:=hrel
  cases gk with
  | zero=>exact absurd HA.out (by simp [spec_l2End.l0])
  | succ k1 =>
   have H:=HA.out
   clear HA
   simp only [spec_l2End.l0] at H
   by_cases c3:x5_1 < (l0.length:Int)
   ·rw [if_pos c3] at H
    have c3b0:decide (x5_1 < (l0.length:Int))=true:=dt_ c3
    clear c3
    by_cases c4:0≤x5_1
    ·rw [if_pos c4] at H
     have c4b0:decide (0≤x5_1)=true:=dt_ c4
     clear c4
     by_cases c5:0≤a1
     ·rw [if_pos c5] at H
      have c5b0:decide (0≤a1)=true:=dt_ c5
      clear c5
      by_cases c6:a1 < (l0.length:Int)
      ·rw [if_pos c6] at H
       have c6b0:decide (a1 < (l0.length:Int))=true:=dt_ c6
       clear c6
       by_cases c7:((rd_T37 l0 x5_1).f1) > ((rd_T37 l0 a1).f1)
       ·rw [if_pos c7] at H
        have c7b0:decide (((rd_T37 l0 a1).f1) < ((rd_T37 l0 x5_1).f1))=true:=dt_ c7
        clear c7
        have H':=a_ H
        clear H
        have p107:0≤(x5_1:Int):=od_
        have q107:x5_1 < (l0.length:Int):=od_
        obtain ⟨ad107,e107,hx107_0,hx107_1,hx107_2⟩:=at_T37 HR0.out x5_1 p107 q107
        cases e107
        replace p107:=eq_true p107
        replace q107:=eq_true q107
        have p108:0≤(a1:Int):=od_
        have q108:a1 < (l0.length:Int):=od_
        obtain ⟨ad108,e108,hx108_0,hx108_1,hx108_2⟩:=at_T37 HR0.out a1 p108 q108
        obtain rfl:ad107=ad108:=(by injection e108)
        replace p108:=eq_true p108
        replace q108:=eq_true q108
        go_wp2
        repeat (go_quiet (fail);try go_wp2)
        go_roundg k1
        case measure=>have:=HK1.out;omega
        case rel=>exact ⟨(wrap64 (x5_1+1)),(si_),H',⟨by have:=HK1.out;omega⟩,by repeat (first|exact Drawn0.refl _|apply Drawn0.step)⟩
       ·rw [if_neg c7] at H
        have c7b0:decide (((rd_T37 l0 a1).f1) < ((rd_T37 l0 x5_1).f1))=false:=df_ c7
        clear c7
        obtain rfl:=sj_ H
        have p107:0≤(x5_1:Int):=od_
        have q107:x5_1 < (l0.length:Int):=od_
        obtain ⟨ad107,e107,hx107_0,hx107_1,hx107_2⟩:=at_T37 HR0.out x5_1 p107 q107
        cases e107
        replace p107:=eq_true p107
        replace q107:=eq_true q107
        have p108:0≤(a1:Int):=od_
        have q108:a1 < (l0.length:Int):=od_
        obtain ⟨ad108,e108,hx108_0,hx108_1,hx108_2⟩:=at_T37 HR0.out a1 p108 q108
        obtain rfl:ad107=ad108:=(by injection e108)
        replace p108:=eq_true p108
        replace q108:=eq_true q108
        go_wp2
        repeat (go_quiet (fail);try go_wp2)
        go_ret
        exact ⟨si_,by repeat (first|exact Drawn0.refl _|apply Drawn0.step)⟩
      ·rw [if_neg c6] at H
       exact absurd H (by simp)
     ·rw [if_neg c5] at H
      exact absurd H (by simp)
    ·rw [if_neg c4] at H
     exact absurd H (by simp)
   ·rw [if_neg c3] at H
    have c3b0:decide (x5_1 < (l0.length:Int))=false:=df_ c3
    clear c3
    obtain rfl:=sj_ H
    go_wp2
    repeat (go_quiet (fail);try go_wp2)
    go_ret
    exact ⟨si_,by repeat (first|exact Drawn0.refl _|apply Drawn0.step)⟩

def spec_l2Kids.l0:Nat→List (S37)→List Int→Int→Int→Option (List Int)
 | 0,_,_,_,_=>none
 | k+1,x0,x5,x6,x7=>(spec_l2End.f k x0 x6).bind fun t113=>(if x7 < t113 then (if 0≤x7 then (if x7 < (x0.length:Int) then (if 0≤x6 then (if x6 < (x0.length:Int) then (if ((rd_T37 x0 x7).f1)=(wrap64 (((rd_T37 x0 x6).f1)+1)) then (if x5.length < 17592186044416 then (spec_l2Kids.l0 k x0 (x5++[(rd_T37 x0 x7).f0]) x6 (wrap64 (x7+1))) else (none)) else (spec_l2Kids.l0 k x0 x5 x6 (wrap64 (x7+1)))) else (none)) else (none)) else (none)) else (none)) else (some x5))
def spec_l2Kids.f (k:Nat) (l0:List (S37)) (a1:Int):Option (List Int):=(some (([]:List Int):List Int)).bind fun y109=>((spec_l2At.f k l0 a1).bind fun t112=>(if t112 < 0 then (some y109) else (spec_l2Kids.l0 k l0 y109 t112 (wrap64 (t112+1)))))
theorem spec_l2Kids.mono_l:∀ k,(∀ y0 y1 y2 y3,LeO (spec_l2Kids.l0 k y0 y1 y2 y3) (spec_l2Kids.l0 (k+1) y0 y1 y2 y3))
 | 0=>fun _ _ _ _ r h=>by simp [spec_l2Kids.l0] at h
 | k+1=>by
  have ih0:=spec_l2Kids.mono_l k
  ·intro y0 y1 y2 y3
   unfold spec_l2Kids.l0
   repeat' first
   | (with_reducible exact ih0 _ _ _ _)
   | (with_reducible exact spec_l2At.mono _ _ _)
   | (with_reducible exact spec_l2End.mono _ _ _)
   | (with_reducible exact LeO.refl _)
   | (with_reducible exact LeO.none _)
   | (with_reducible refine LeO.ite ?_ ?_)
   | (with_reducible refine LeO.bind ?_ (fun _=>?_))
theorem spec_l2Kids.mono:∀ a0 a1 k,LeO (spec_l2Kids.f k a0 a1) (spec_l2Kids.f (k+1) a0 a1):=by
 intro a0 a1 k
 have ih0:=spec_l2Kids.mono_l k
 unfold spec_l2Kids.f
 repeat' first
   | (with_reducible exact ih0 _ _ _ _)
   | (with_reducible exact spec_l2At.mono _ _ _)
   | (with_reducible exact spec_l2End.mono _ _ _)
   | (with_reducible exact LeO.refl _)
   | (with_reducible exact LeO.none _)
   | (with_reducible refine LeO.ite ?_ ?_)
   | (with_reducible refine LeO.bind ?_ (fun _=>?_))
theorem spec_l2Kids.calls (k:Nat) (A0:Option Addr) (c0:Nat) (l0:List (S37)) (a1:Int) (r:List Int) (w:World) (hr0:Kd.C k37 w A0 l0.length l0) (hc0:l0.length≤c0) (h:spec_l2Kids.f k l0 a1=some r) :
  Calls Tryd.prog 70 #[.slice A0 l0.length c0,.int .i64 a1] w fun e w'=>∃ v0_:Value,e=.returned (v0_)∧Kd.R (Kd.int .i64) 3 w' w.heap.size (fun _=>True) v0_ r∧Below w.heap.size w w':=by
 have HR0:=a_ hr0
 have HC0:=a_ hc0
 clear hr0 hc0
 have HB:=a_ (Below.refl w.heap.size w)
 unfold spec_l2Kids.f at h
 have H:=h
 clear h
 obtain ⟨y109,hy109⟩:∃ y_:List Int,y_=(([]:List Int)):=⟨_,rfl⟩
 replace H:((spec_l2At.f k l0 a1).bind fun t112=>(if t112 < 0 then (some y109) else (spec_l2Kids.l0 k l0 y109 t112 (wrap64 (t112+1)))))=some r:=by first|(rw [hy109];with_reducible exact H)|(have H2_:=(Option.bind_some _ _).symm.trans H;rw [hy109];with_reducible exact H2_)|(have H2_:=(Option.bind_some _ _).symm.trans H;with_reducible exact H2_)|with_reducible exact H|(rw [hy109];exact H)|exact H
 have Ny109:=a_ hy109
 clear hy109
 replace H:=bs_ H
 obtain ⟨t112,A30,H⟩:=H
 try dsimp only at H
 have A3:=a_ A30
 clear A30
 by_cases c4:t112 < 0
 ·rw [if_pos c4] at H
  have c4b0:decide (t112 < 0)=true:=dt_ c4
  clear c4
  obtain rfl:=sj_ H
  go_enter Tryd.func70,Tryd.ntmps70
  go_wp2_with (first|((with_reducible refine gD_ (N:=8) rfl ?_);refine Kd.R_lit (Kd.int .i64) _ 3 ?hg (N:=8) ?hd (xs:=([]:List Int)) (inner:=[]) (ok:=fun _=>True) (okp:=fun _=>True) ?hr ?hp (fun _ hk=>hk) trivial (Below.refl _ _) (Nat.le_refl _) (by simp) ?_;(case hd=>rfl);(case hg=>rfl);(case hr=>first|(go_simp;done)|(go_simp;rfl));(case hp=>exact (Reps.none _ _));intro v110 w5 ho6 hb hg_ hnew_;clear hg_ hnew_;(first|rw [←Ny109.out] at ho6|(simp only [Int.reduceToNat] at ho6;rw [←Ny109.out] at ho6));have HO111:=a_ (Kd.R_lower ho6 (below_size (bel_)));replace HB:=a_ (bS_ (bel_) hb);clear hb ho6)|(go_at_call 54;(with_reducible refine (spec_l2At.calls k _ _ l0 a1 t112 _ ?side1 ?side2 A3.out).mono ?_);(case side1=>exact cp_ HR0.out);(case side2=>exact HC0.out);rintro e w' ⟨rfl,⟨nd,rfl⟩⟩;(try first|exact ⟨rfl,_,World.drewN_drewN _ _ _⟩|exact ⟨rfl,_,Eq.trans (World.drewN_drewN _ _ _) (congrArg (World.drewN _) (Nat.add_assoc _ _ _))⟩)))
  go_ret
  exact ⟨_,fi_,by (with_reducible repeat (first|apply Kd.R_alloc|apply Kd.R_drewN|apply Kd.R_drew));exact HO111.out,bel_⟩
 ·rw [if_neg c4] at H
  have c4b0:decide (t112 < 0)=false:=df_ c4
  clear c4
  have H':=a_ H
  clear H
  go_enter Tryd.func70,Tryd.ntmps70
  go_wp2_with (first|((with_reducible refine gD_ (N:=8) rfl ?_);refine Kd.R_lit (Kd.int .i64) _ 3 ?hg (N:=8) ?hd (xs:=([]:List Int)) (inner:=[]) (ok:=fun _=>True) (okp:=fun _=>True) ?hr ?hp (fun _ hk=>hk) trivial (Below.refl _ _) (Nat.le_refl _) (by simp) ?_;(case hd=>rfl);(case hg=>rfl);(case hr=>first|(go_simp;done)|(go_simp;rfl));(case hp=>exact (Reps.none _ _));intro v110 w7 ho8 hb hg_ hnew_;clear hg_ hnew_;(first|rw [←Ny109.out] at ho8|(simp only [Int.reduceToNat] at ho8;rw [←Ny109.out] at ho8));have HO111:=a_ (Kd.R_lower ho8 (below_size (bel_)));replace HB:=a_ (bS_ (bel_) hb);clear hb ho8)|(go_at_call 54;(with_reducible refine (spec_l2At.calls k _ _ l0 a1 t112 _ ?side1 ?side2 A3.out).mono ?_);(case side1=>exact cp_ HR0.out);(case side2=>exact HC0.out);rintro e w' ⟨rfl,⟨nd,rfl⟩⟩;(try first|exact ⟨rfl,_,World.drewN_drewN _ _ _⟩|exact ⟨rfl,_,Eq.trans (World.drewN_drewN _ _ _) (congrArg (World.drewN _) (Nat.add_assoc _ _ _))⟩)))
  go_loopg [5,7] k (fun kq v5 v7 w'=>∃ (x5_1:List Int) (x7_1:Int),v7=.int .i64 x7_1∧Aside0 (spec_l2Kids.l0 kq l0 x5_1 t112 x7_1=some r)∧Aside0 (kq≤k)∧Aside0 (Kd.R (Kd.int .i64) 3 w' w.heap.size (fun _=>True) v5 x5_1)∧Aside0 (Below w.heap.size w w'))
  case atStart=>exact ⟨(y109),(wrap64 (t112+1)),(si_),H',⟨Nat.le_refl _⟩,⟨by (with_reducible repeat (first|apply Kd.R_alloc|apply Kd.R_drewN|apply Kd.R_drew));exact HO111.out⟩,⟨bel_⟩⟩
  case round =>
   clear H'
   try clear p2
   try clear c4
   try clear c4b0
   try clear p6
   try clear c7
   obtain ⟨x5_1,x7_1,rfl,HA,HK1,HO_5,HB⟩:=hrel
   cases gk with
   | zero=>exact absurd HA.out (by simp [spec_l2Kids.l0])
   | succ k1 =>
    have H:=HA.out
    clear HA
    simp only [spec_l2Kids.l0] at H
    replace H:=bs_ H
    obtain ⟨t113,A90,H⟩:=H
    try dsimp only at H
    have A9:=a_ A90
    clear A90
    by_cases c10:x7_1 < t113
    ·rw [if_pos c10] at H
     have c10b0:decide (x7_1 < t113)=true:=dt_ c10
     clear c10
     by_cases c11:0≤x7_1
     ·rw [if_pos c11] at H
      have c11b0:decide (0≤x7_1)=true:=dt_ c11
      clear c11
      by_cases c12:x7_1 < (l0.length:Int)
      ·rw [if_pos c12] at H
       have c12b0:decide (x7_1 < (l0.length:Int))=true:=dt_ c12
       clear c12
       by_cases c13:0≤t112
       ·rw [if_pos c13] at H
        have c13b0:decide (0≤t112)=true:=dt_ c13
        clear c13
        by_cases c14:t112 < (l0.length:Int)
        ·rw [if_pos c14] at H
         have c14b0:decide (t112 < (l0.length:Int))=true:=dt_ c14
         clear c14
         by_cases c15:((rd_T37 l0 x7_1).f1)=(wrap64 (((rd_T37 l0 t112).f1)+1))
         ·rw [if_pos c15] at H
          have c15b0:(((rd_T37 l0 x7_1).f1)==(wrap64 (((rd_T37 l0 t112).f1)+1)))=true:=beq_iff_eq.mpr c15
          have c15b1:(((rd_T37 l0 x7_1).f1) != (wrap64 (((rd_T37 l0 t112).f1)+1)))=false:=be_ c15
          clear c15
          by_cases c16:x5_1.length < 17592186044416
          ·rw [if_pos c16] at H
           have LMc16:=a_ c16
           clear c16
           obtain ⟨y117,hy117⟩:∃ y_:List Int,y_=(x5_1++[(rd_T37 l0 x7_1).f0]):=⟨_,rfl⟩
           replace H:(spec_l2Kids.l0 k1 l0 y117 t112 (wrap64 (x7_1+1)))=some r:=by first|(rw [hy117];with_reducible exact H)|(have H2_:=(Option.bind_some _ _).symm.trans H;rw [hy117];with_reducible exact H2_)|(have H2_:=(Option.bind_some _ _).symm.trans H;with_reducible exact H2_)|with_reducible exact H|(rw [hy117];exact H)|exact H
           have Ny117:=a_ hy117
           clear hy117
           have H':=a_ H
           clear H
           go_wp2_with (first|(go_at_call 93;(with_reducible refine (spec_l2End.calls k1 _ _ l0 t112 t113 _ ?side1 ?side2 A9.out).mono ?_);(case side1=>exact cp_ HR0.out);(case side2=>exact HC0.out);rintro e w' ⟨rfl,⟨nd,rfl⟩⟩;(try first|exact ⟨rfl,_,World.drewN_drewN _ _ _⟩|exact ⟨rfl,_,Eq.trans (World.drewN_drewN _ _ _) (congrArg (World.drewN _) (Nat.add_assoc _ _ _))⟩);have p114:0≤(x7_1:Int):=od_;have q114:x7_1 < (l0.length:Int):=od_;obtain ⟨ad114,e114,hx114_0,hx114_1,hx114_2⟩:=at_T37 HR0.out x7_1 p114 q114;cases e114;replace hx114_0:=(cb_ HB.out hx114_0 :);replace hx114_1:=(cb_ HB.out hx114_1 :);replace hx114_2:=(cb_ HB.out hx114_2 :);replace p114:=eq_true p114;replace q114:=eq_true q114;have p115:0≤(t112:Int):=od_;have q115:t112 < (l0.length:Int):=od_;obtain ⟨ad115,e115,hx115_0,hx115_1,hx115_2⟩:=at_T37 HR0.out t112 p115 q115;obtain rfl:ad114=ad115:=(by injection e115);replace hx115_0:=(cb_ HB.out hx115_0 :);replace hx115_1:=(cb_ HB.out hx115_1 :);replace hx115_2:=(cb_ HB.out hx115_2 :);replace p115:=eq_true p115;replace q115:=eq_true q115;have p116:0≤(x7_1:Int):=od_;have q116:x7_1 < (l0.length:Int):=od_;obtain ⟨ad116,e116,hx116_0,hx116_1,hx116_2⟩:=at_T37 HR0.out x7_1 p116 q116;obtain rfl:ad114=ad116:=(by injection e116);replace hx116_0:=(cb_ HB.out hx116_0 :);replace hx116_1:=(cb_ HB.out hx116_1 :);replace hx116_2:=(cb_ HB.out hx116_2 :);replace p116:=eq_true p116;replace q116:=eq_true q116)|((with_reducible refine gate_builtin (b:=.append) (xs:=#[.tmp 36,.tmp 42]) rfl ?_);at_builtin;refine Kd.R_append (Kd.int .i64) (w0:=w) w.heap.size rfl (.tmp 36) (.tmp 42) 43 3 (.int .i64 0) 8 rfl Tryd.underlying43 info3 rfl (by decide) (by omega) u5 x5_1 ((rd_T37 l0 x7_1).f0) [.int .i64 ((rd_T37 l0 x7_1).f0)] (fun _=>True) (fun _=>False) rfl rfl ?aP (fun _ hk=>hk.elim) ?aF ?aO ?aB ?aS ?aL ?_;(case aP=>exact rfl);(case aB=>exact (bel_));(case aF=>exact (fun _ _=>trivial));(case aO=>exact (rp_ HO_5.out));(case aS=>exact (below_size (bel_)));(case aL=>have:=LMc16.out;omega);intro v118 w17 ho hb hg hat;rw [←Ny117.out] at ho;replace HB:=a_ (hb);have HO119:=a_ (ho);clear HO_5;clear ho hb hg hat))
           repeat (go_quiet (first|(go_at_call 93;(with_reducible refine (spec_l2End.calls k1 _ _ l0 t112 t113 _ ?side1 ?side2 A9.out).mono ?_);(case side1=>exact cp_ HR0.out);(case side2=>exact HC0.out);rintro e w' ⟨rfl,⟨nd,rfl⟩⟩;(try first|exact ⟨rfl,_,World.drewN_drewN _ _ _⟩|exact ⟨rfl,_,Eq.trans (World.drewN_drewN _ _ _) (congrArg (World.drewN _) (Nat.add_assoc _ _ _))⟩);have p114:0≤(x7_1:Int):=od_;have q114:x7_1 < (l0.length:Int):=od_;obtain ⟨ad114,e114,hx114_0,hx114_1,hx114_2⟩:=at_T37 HR0.out x7_1 p114 q114;cases e114;replace hx114_0:=(cb_ HB.out hx114_0 :);replace hx114_1:=(cb_ HB.out hx114_1 :);replace hx114_2:=(cb_ HB.out hx114_2 :);replace p114:=eq_true p114;replace q114:=eq_true q114;have p115:0≤(t112:Int):=od_;have q115:t112 < (l0.length:Int):=od_;obtain ⟨ad115,e115,hx115_0,hx115_1,hx115_2⟩:=at_T37 HR0.out t112 p115 q115;obtain rfl:ad114=ad115:=(by injection e115);replace hx115_0:=(cb_ HB.out hx115_0 :);replace hx115_1:=(cb_ HB.out hx115_1 :);replace hx115_2:=(cb_ HB.out hx115_2 :);replace p115:=eq_true p115;replace q115:=eq_true q115;have p116:0≤(x7_1:Int):=od_;have q116:x7_1 < (l0.length:Int):=od_;obtain ⟨ad116,e116,hx116_0,hx116_1,hx116_2⟩:=at_T37 HR0.out x7_1 p116 q116;obtain rfl:ad114=ad116:=(by injection e116);replace hx116_0:=(cb_ HB.out hx116_0 :);replace hx116_1:=(cb_ HB.out hx116_1 :);replace hx116_2:=(cb_ HB.out hx116_2 :);replace p116:=eq_true p116;replace q116:=eq_true q116)|((with_reducible refine gate_builtin (b:=.append) (xs:=#[.tmp 36,.tmp 42]) rfl ?_);at_builtin;refine Kd.R_append (Kd.int .i64) (w0:=w) w.heap.size rfl (.tmp 36) (.tmp 42) 43 3 (.int .i64 0) 8 rfl Tryd.underlying43 info3 rfl (by decide) (by omega) u5 x5_1 ((rd_T37 l0 x7_1).f0) [.int .i64 ((rd_T37 l0 x7_1).f0)] (fun _=>True) (fun _=>False) rfl rfl ?aP (fun _ hk=>hk.elim) ?aF ?aO ?aB ?aS ?aL ?_;(case aP=>exact rfl);(case aB=>exact (bel_));(case aF=>exact (fun _ _=>trivial));(case aO=>exact (rp_ HO_5.out));(case aS=>exact (below_size (bel_)));(case aL=>have:=LMc16.out;omega);intro v118 w17 ho hb hg hat;rw [←Ny117.out] at ho;replace HB:=a_ (hb);have HO119:=a_ (ho);clear HO_5;clear ho hb hg hat));try go_wp2_with (first|(go_at_call 93;(with_reducible refine (spec_l2End.calls k1 _ _ l0 t112 t113 _ ?side1 ?side2 A9.out).mono ?_);(case side1=>exact cp_ HR0.out);(case side2=>exact HC0.out);rintro e w' ⟨rfl,⟨nd,rfl⟩⟩;(try first|exact ⟨rfl,_,World.drewN_drewN _ _ _⟩|exact ⟨rfl,_,Eq.trans (World.drewN_drewN _ _ _) (congrArg (World.drewN _) (Nat.add_assoc _ _ _))⟩);have p114:0≤(x7_1:Int):=od_;have q114:x7_1 < (l0.length:Int):=od_;obtain ⟨ad114,e114,hx114_0,hx114_1,hx114_2⟩:=at_T37 HR0.out x7_1 p114 q114;cases e114;replace hx114_0:=(cb_ HB.out hx114_0 :);replace hx114_1:=(cb_ HB.out hx114_1 :);replace hx114_2:=(cb_ HB.out hx114_2 :);replace p114:=eq_true p114;replace q114:=eq_true q114;have p115:0≤(t112:Int):=od_;have q115:t112 < (l0.length:Int):=od_;obtain ⟨ad115,e115,hx115_0,hx115_1,hx115_2⟩:=at_T37 HR0.out t112 p115 q115;obtain rfl:ad114=ad115:=(by injection e115);replace hx115_0:=(cb_ HB.out hx115_0 :);replace hx115_1:=(cb_ HB.out hx115_1 :);replace hx115_2:=(cb_ HB.out hx115_2 :);replace p115:=eq_true p115;replace q115:=eq_true q115;have p116:0≤(x7_1:Int):=od_;have q116:x7_1 < (l0.length:Int):=od_;obtain ⟨ad116,e116,hx116_0,hx116_1,hx116_2⟩:=at_T37 HR0.out x7_1 p116 q116;obtain rfl:ad114=ad116:=(by injection e116);replace hx116_0:=(cb_ HB.out hx116_0 :);replace hx116_1:=(cb_ HB.out hx116_1 :);replace hx116_2:=(cb_ HB.out hx116_2 :);replace p116:=eq_true p116;replace q116:=eq_true q116)|((with_reducible refine gate_builtin (b:=.append) (xs:=#[.tmp 36,.tmp 42]) rfl ?_);at_builtin;refine Kd.R_append (Kd.int .i64) (w0:=w) w.heap.size rfl (.tmp 36) (.tmp 42) 43 3 (.int .i64 0) 8 rfl Tryd.underlying43 info3 rfl (by decide) (by omega) u5 x5_1 ((rd_T37 l0 x7_1).f0) [.int .i64 ((rd_T37 l0 x7_1).f0)] (fun _=>True) (fun _=>False) rfl rfl ?aP (fun _ hk=>hk.elim) ?aF ?aO ?aB ?aS ?aL ?_;(case aP=>exact rfl);(case aB=>exact (bel_));(case aF=>exact (fun _ _=>trivial));(case aO=>exact (rp_ HO_5.out));(case aS=>exact (below_size (bel_)));(case aL=>have:=LMc16.out;omega);intro v118 w17 ho hb hg hat;rw [←Ny117.out] at ho;replace HB:=a_ (hb);have HO119:=a_ (ho);clear HO_5;clear ho hb hg hat)))
           go_roundg k1
           case measure=>have:=HK1.out;omega
           case rel=>exact ⟨(y117),(wrap64 (x7_1+1)),(si_),H',⟨by have:=HK1.out;omega⟩,⟨by (with_reducible repeat (first|apply Kd.R_alloc|apply Kd.R_drewN|apply Kd.R_drew));exact HO119.out⟩,⟨bel_⟩⟩
          ·rw [if_neg c16] at H
           exact absurd H (by simp)
         ·rw [if_neg c15] at H
          have c15b0:(((rd_T37 l0 x7_1).f1)==(wrap64 (((rd_T37 l0 t112).f1)+1)))=false:=bn_ c15
          have c15b1:(((rd_T37 l0 x7_1).f1) != (wrap64 (((rd_T37 l0 t112).f1)+1)))=true:=bne_iff_ne.mpr c15
          have H':=a_ H
          clear H
          go_wp2_with (first|(go_at_call 93;(with_reducible refine (spec_l2End.calls k1 _ _ l0 t112 t113 _ ?side1 ?side2 A9.out).mono ?_);(case side1=>exact cp_ HR0.out);(case side2=>exact HC0.out);rintro e w' ⟨rfl,⟨nd,rfl⟩⟩;(try first|exact ⟨rfl,_,World.drewN_drewN _ _ _⟩|exact ⟨rfl,_,Eq.trans (World.drewN_drewN _ _ _) (congrArg (World.drewN _) (Nat.add_assoc _ _ _))⟩);have p114:0≤(x7_1:Int):=od_;have q114:x7_1 < (l0.length:Int):=od_;obtain ⟨ad114,e114,hx114_0,hx114_1,hx114_2⟩:=at_T37 HR0.out x7_1 p114 q114;cases e114;replace hx114_0:=(cb_ HB.out hx114_0 :);replace hx114_1:=(cb_ HB.out hx114_1 :);replace hx114_2:=(cb_ HB.out hx114_2 :);replace p114:=eq_true p114;replace q114:=eq_true q114;have p115:0≤(t112:Int):=od_;have q115:t112 < (l0.length:Int):=od_;obtain ⟨ad115,e115,hx115_0,hx115_1,hx115_2⟩:=at_T37 HR0.out t112 p115 q115;obtain rfl:ad114=ad115:=(by injection e115);replace hx115_0:=(cb_ HB.out hx115_0 :);replace hx115_1:=(cb_ HB.out hx115_1 :);replace hx115_2:=(cb_ HB.out hx115_2 :);replace p115:=eq_true p115;replace q115:=eq_true q115))
          repeat (go_quiet (first|(go_at_call 93;(with_reducible refine (spec_l2End.calls k1 _ _ l0 t112 t113 _ ?side1 ?side2 A9.out).mono ?_);(case side1=>exact cp_ HR0.out);(case side2=>exact HC0.out);rintro e w' ⟨rfl,⟨nd,rfl⟩⟩;(try first|exact ⟨rfl,_,World.drewN_drewN _ _ _⟩|exact ⟨rfl,_,Eq.trans (World.drewN_drewN _ _ _) (congrArg (World.drewN _) (Nat.add_assoc _ _ _))⟩);have p114:0≤(x7_1:Int):=od_;have q114:x7_1 < (l0.length:Int):=od_;obtain ⟨ad114,e114,hx114_0,hx114_1,hx114_2⟩:=at_T37 HR0.out x7_1 p114 q114;cases e114;replace hx114_0:=(cb_ HB.out hx114_0 :);replace hx114_1:=(cb_ HB.out hx114_1 :);replace hx114_2:=(cb_ HB.out hx114_2 :);replace p114:=eq_true p114;replace q114:=eq_true q114;have p115:0≤(t112:Int):=od_;have q115:t112 < (l0.length:Int):=od_;obtain ⟨ad115,e115,hx115_0,hx115_1,hx115_2⟩:=at_T37 HR0.out t112 p115 q115;obtain rfl:ad114=ad115:=(by injection e115);replace hx115_0:=(cb_ HB.out hx115_0 :);replace hx115_1:=(cb_ HB.out hx115_1 :);replace hx115_2:=(cb_ HB.out hx115_2 :);replace p115:=eq_true p115;replace q115:=eq_true q115));try go_wp2_with (first|(go_at_call 93;(with_reducible refine (spec_l2End.calls k1 _ _ l0 t112 t113 _ ?side1 ?side2 A9.out).mono ?_);(case side1=>exact cp_ HR0.out);(case side2=>exact HC0.out);rintro e w' ⟨rfl,⟨nd,rfl⟩⟩;(try first|exact ⟨rfl,_,World.drewN_drewN _ _ _⟩|exact ⟨rfl,_,Eq.trans (World.drewN_drewN _ _ _) (congrArg (World.drewN _) (Nat.add_assoc _ _ _))⟩);have p114:0≤(x7_1:Int):=od_;have q114:x7_1 < (l0.length:Int):=od_;obtain ⟨ad114,e114,hx114_0,hx114_1,hx114_2⟩:=at_T37 HR0.out x7_1 p114 q114;cases e114;replace hx114_0:=(cb_ HB.out hx114_0 :);replace hx114_1:=(cb_ HB.out hx114_1 :);replace hx114_2:=(cb_ HB.out hx114_2 :);replace p114:=eq_true p114;replace q114:=eq_true q114;have p115:0≤(t112:Int):=od_;have q115:t112 < (l0.length:Int):=od_;obtain ⟨ad115,e115,hx115_0,hx115_1,hx115_2⟩:=at_T37 HR0.out t112 p115 q115;obtain rfl:ad114=ad115:=(by injection e115);replace hx115_0:=(cb_ HB.out hx115_0 :);replace hx115_1:=(cb_ HB.out hx115_1 :);replace hx115_2:=(cb_ HB.out hx115_2 :);replace p115:=eq_true p115;replace q115:=eq_true q115)))
          go_roundg k1
          case measure=>have:=HK1.out;omega
          case rel=>exact ⟨(x5_1),(wrap64 (x7_1+1)),(si_),H',⟨by have:=HK1.out;omega⟩,⟨by (with_reducible repeat (first|apply Kd.R_alloc|apply Kd.R_drewN|apply Kd.R_drew));exact HO_5.out⟩,⟨bel_⟩⟩
        ·rw [if_neg c14] at H
         exact absurd H (by simp)
       ·rw [if_neg c13] at H
        exact absurd H (by simp)
      ·rw [if_neg c12] at H
       exact absurd H (by simp)
     ·rw [if_neg c11] at H
      exact absurd H (by simp)
    ·rw [if_neg c10] at H
     have c10b0:decide (x7_1 < t113)=false:=df_ c10
     clear c10
     obtain rfl:=sj_ H
     go_wp2_with (first|(go_at_call 93;(with_reducible refine (spec_l2End.calls k1 _ _ l0 t112 t113 _ ?side1 ?side2 A9.out).mono ?_);(case side1=>exact cp_ HR0.out);(case side2=>exact HC0.out);rintro e w' ⟨rfl,⟨nd,rfl⟩⟩;(try first|exact ⟨rfl,_,World.drewN_drewN _ _ _⟩|exact ⟨rfl,_,Eq.trans (World.drewN_drewN _ _ _) (congrArg (World.drewN _) (Nat.add_assoc _ _ _))⟩)))
     go_ret
     exact ⟨_,fi_,by (with_reducible repeat (first|apply Kd.R_alloc|apply Kd.R_drewN|apply Kd.R_drew));exact HO_5.out,bel_⟩

def spec_l2Under.f (k:Nat) (l0:List (S37)) (a1:Int) (a2:Int):Option (Bool):=(spec_l2At.f k l0 a1).bind fun t120=>((spec_l2At.f k l0 a2).bind fun t121=>(if t120≥0 then (if t121≥0 then ((spec_l2End.f k l0 t121).bind fun t122=>((spec_l6In.f t120 t121 (wrap64 (t122 - 1))).bind fun t123=>(some t123))) else (some false)) else (some false)))
theorem spec_l2Under.mono:∀ a0 a1 a2 k,LeO (spec_l2Under.f k a0 a1 a2) (spec_l2Under.f (k+1) a0 a1 a2):=by
 intro a0 a1 a2 k
 unfold spec_l2Under.f
 repeat' first
   | (with_reducible exact spec_l2At.mono _ _ _)
   | (with_reducible exact spec_l2End.mono _ _ _)
   | (with_reducible exact LeO.refl _)
   | (with_reducible exact LeO.none _)
   | (with_reducible refine LeO.ite ?_ ?_)
   | (with_reducible refine LeO.bind ?_ (fun _=>?_))
theorem spec_l2Under.calls (k:Nat) (A0:Option Addr) (c0:Nat) (l0:List (S37)) (a1:Int) (a2:Int) (r:Bool) (w:World) (hr0:Kd.C k37 w A0 l0.length l0) (hc0:l0.length≤c0) (h:spec_l2Under.f k l0 a1 a2=some r) :
  Calls Tryd.prog 55 #[.slice A0 l0.length c0,.int .i64 a1,.int .i64 a2] w fun e w'=>e=.returned (.bool r)∧Drawn0 w w':=by
 have HR0:=a_ hr0
 have HC0:=a_ hc0
 clear hr0 hc0
 unfold spec_l2Under.f at h
 have H:=h
 clear h
 replace H:=bs_ H
 obtain ⟨t120,A40,H⟩:=H
 try dsimp only at H
 have A4:=a_ A40
 clear A40
 replace H:=bs_ H
 obtain ⟨t121,A50,H⟩:=H
 try dsimp only at H
 have A5:=a_ A50
 clear A50
 by_cases c6:t120≥0
 ·rw [if_pos c6] at H
  have c6b0:decide (0≤t120)=true:=dt_ c6
  clear c6
  by_cases c7:t121≥0
  ·rw [if_pos c7] at H
   have c7b0:decide (0≤t121)=true:=dt_ c7
   clear c7
   replace H:=bs_ H
   obtain ⟨t122,A80,H⟩:=H
   try dsimp only at H
   have A8:=a_ A80
   clear A80
   replace H:=bs_ H
   obtain ⟨t123,A90,H⟩:=H
   try dsimp only at H
   have A9:=a_ A90
   clear A90
   obtain rfl:=sj_ H
   go_enter Tryd.func55,Tryd.ntmps55
   go_wp2_with (first|((with_reducible refine gC_ (f:=54) rfl ?_);refine gl_ 11 Tryd.func54 #[.slice A0 l0.length c0,.int .i64 a1] ?_;(with_reducible refine (spec_l2At.calls k _ _ l0 a1 t120 _ ?side1 ?side2 A4.out).mono ?_);(case side1=>exact cx_ HR0.out);(case side2=>exact HC0.out);rintro e w' ⟨rfl,⟨nd,rfl⟩⟩;refine ⟨_,rfl,?_⟩)|((with_reducible refine gC_ (f:=54) rfl ?_);refine gl_ 14 Tryd.func54 #[.slice A0 l0.length c0,.int .i64 a2] ?_;(with_reducible refine (spec_l2At.calls k _ _ l0 a2 t121 _ ?side1 ?side2 A5.out).mono ?_);(case side1=>exact cx_ HR0.out);(case side2=>exact HC0.out);rintro e w' ⟨rfl,⟨nd,rfl⟩⟩;refine ⟨_,rfl,?_⟩)|(go_at_call 93;(with_reducible refine (spec_l2End.calls k _ _ l0 t121 t122 _ ?side1 ?side2 A8.out).mono ?_);(case side1=>exact cx_ HR0.out);(case side2=>exact HC0.out);rintro e w' ⟨rfl,⟨nd,rfl⟩⟩)|(go_at_call 92;(with_reducible refine (spec_l6In.calls t120 t121 (wrap64 (t122 - 1)) t123 _ A9.out).mono ?_);rintro e w' ⟨rfl,⟨nd,rfl⟩⟩))
   go_ret
   exact ⟨si_,by repeat (first|exact Drawn0.refl _|apply Drawn0.step)⟩
  ·rw [if_neg c7] at H
   have c7b0:decide (0≤t121)=false:=df_ c7
   clear c7
   obtain rfl:=sj_ H
   go_enter Tryd.func55,Tryd.ntmps55
   go_wp2_with (first|((with_reducible refine gC_ (f:=54) rfl ?_);refine gl_ 11 Tryd.func54 #[.slice A0 l0.length c0,.int .i64 a1] ?_;(with_reducible refine (spec_l2At.calls k _ _ l0 a1 t120 _ ?side1 ?side2 A4.out).mono ?_);(case side1=>exact cx_ HR0.out);(case side2=>exact HC0.out);rintro e w' ⟨rfl,⟨nd,rfl⟩⟩;refine ⟨_,rfl,?_⟩)|((with_reducible refine gC_ (f:=54) rfl ?_);refine gl_ 14 Tryd.func54 #[.slice A0 l0.length c0,.int .i64 a2] ?_;(with_reducible refine (spec_l2At.calls k _ _ l0 a2 t121 _ ?side1 ?side2 A5.out).mono ?_);(case side1=>exact cx_ HR0.out);(case side2=>exact HC0.out);rintro e w' ⟨rfl,⟨nd,rfl⟩⟩;refine ⟨_,rfl,?_⟩))
   go_ret
   exact ⟨si_,by repeat (first|exact Drawn0.refl _|apply Drawn0.step)⟩
 ·rw [if_neg c6] at H
  have c6b0:decide (0≤t120)=false:=df_ c6
  clear c6
  obtain rfl:=sj_ H
  go_enter Tryd.func55,Tryd.ntmps55
  go_wp2_with (first|((with_reducible refine gC_ (f:=54) rfl ?_);refine gl_ 11 Tryd.func54 #[.slice A0 l0.length c0,.int .i64 a1] ?_;(with_reducible refine (spec_l2At.calls k _ _ l0 a1 t120 _ ?side1 ?side2 A4.out).mono ?_);(case side1=>exact cx_ HR0.out);(case side2=>exact HC0.out);rintro e w' ⟨rfl,⟨nd,rfl⟩⟩;refine ⟨_,rfl,?_⟩)|((with_reducible refine gC_ (f:=54) rfl ?_);refine gl_ 14 Tryd.func54 #[.slice A0 l0.length c0,.int .i64 a2] ?_;(with_reducible refine (spec_l2At.calls k _ _ l0 a2 t121 _ ?side1 ?side2 A5.out).mono ?_);(case side1=>exact cx_ HR0.out);(case side2=>exact HC0.out);rintro e w' ⟨rfl,⟨nd,rfl⟩⟩;refine ⟨_,rfl,?_⟩))
  go_ret
  exact ⟨si_,by repeat (first|exact Drawn0.refl _|apply Drawn0.step)⟩

def spec_l1Text.l0:Nat→ByteArray→Int→Option (Bool)
 | 0,_,_=>none
 | k+1,x0,x3=>if x3 < (x0.size:Int) then (if 0≤x3 then ((spec_l6In.f (wrap64 (bt x0 x3)) 97 100).bind fun t214=>(if t214=true then (spec_l1Text.l0 k x0 (wrap64 (x3+1))) else (some false))) else (none)) else (some (decide ((x0.size:Int)≤4)))
def spec_l1Text.f (k:Nat) (a0:ByteArray):Option (Bool):=spec_l1Text.l0 k a0 0
theorem spec_l1Text.mono_l:∀ k,(∀ y0 y1,LeO (spec_l1Text.l0 k y0 y1) (spec_l1Text.l0 (k+1) y0 y1))
 | 0=>fun _ _ r h=>by simp [spec_l1Text.l0] at h
 | k+1=>by
  have ih0:=spec_l1Text.mono_l k
  ·intro y0 y1
   unfold spec_l1Text.l0
   repeat' first
   | (with_reducible exact ih0 _ _)
   | (with_reducible exact LeO.refl _)
   | (with_reducible exact LeO.none _)
   | (with_reducible refine LeO.ite ?_ ?_)
   | (with_reducible refine LeO.bind ?_ (fun _=>?_))
theorem spec_l1Text.mono:∀ a0 k,LeO (spec_l1Text.f k a0) (spec_l1Text.f (k+1) a0):=by
 intro a0 k
 have ih0:=spec_l1Text.mono_l k
 unfold spec_l1Text.f
 repeat' first
   | (with_reducible exact ih0 _ _)
   | (with_reducible exact LeO.refl _)
   | (with_reducible exact LeO.none _)
   | (with_reducible refine LeO.ite ?_ ?_)
   | (with_reducible refine LeO.bind ?_ (fun _=>?_))
theorem spec_l1Text.calls (k:Nat) (a0:ByteArray) (r:Bool) (w:World) (h:spec_l1Text.f k a0=some r) :
  Calls Tryd.prog 87 #[.string a0] w fun e w'=>e=.returned (.bool r)∧Drawn0 w w':=by
 unfold spec_l1Text.f at h
 have H:=h
 clear h
 have H':=a_ H
 clear H
 go_enter Tryd.func87,Tryd.ntmps87
 go_wp2
 go_loopg [3] k (fun kq v3 w'=>∃ (x3_1:Int),v3=.int .i64 x3_1∧Aside0 (spec_l1Text.l0 kq a0 x3_1=some r)∧Aside0 (kq≤k)∧Drawn0 w w')
 case atStart=>exact ⟨(0),(si_),H',⟨Nat.le_refl _⟩,by repeat (first|exact Drawn0.refl _|apply Drawn0.step)⟩
 case round =>
  clear H'
  obtain ⟨x3_1,rfl,HA,HK1,⟨m1,rfl⟩⟩:=hrel
  cases gk with
  | zero=>exact absurd HA.out (by simp [spec_l1Text.l0])
  | succ k1 =>
   have H:=HA.out
   clear HA
   simp only [spec_l1Text.l0] at H
   by_cases c2:x3_1 < (a0.size:Int)
   ·rw [if_pos c2] at H
    have c2b0:decide (x3_1 < (a0.size:Int))=true:=dt_ c2
    clear c2
    by_cases c3:0≤x3_1
    ·rw [if_pos c3] at H
     have c3b0:decide (0≤x3_1)=true:=dt_ c3
     clear c3
     replace H:=bs_ H
     obtain ⟨t214,A50,H⟩:=H
     try dsimp only at H
     have A5:=a_ A50
     clear A50
     by_cases c6:t214=true
     ·subst c6
      have H1:(spec_l1Text.l0 k1 a0 (wrap64 (x3_1+1)))=some r:=by rw [if_pos rfl] at H;exact H
      clear H
      have H:=H1
      clear H1
      have H':=a_ H
      clear H
      have p4:0≤(x3_1:Int):=od_
      have q4:x3_1 < (a0.size:Int):=od_
      have hx4:=bt_at a0 x3_1
      replace p4:=eq_true p4
      replace q4:=eq_true q4
      go_wp2_with (first|((with_reducible refine gC_ (f:=92) rfl ?_);refine gl_ 14 Tryd.func92 #[.int .i64 (wrap64 (bt a0 x3_1)),.int .i64 97,.int .i64 100] ?_;(with_reducible refine (spec_l6In.calls (wrap64 (bt a0 x3_1)) 97 100 true _ A5.out).mono ?_);rintro e w' ⟨rfl,⟨nd,rfl⟩⟩;refine ⟨_,rfl,?_⟩))
      go_roundg k1
      case measure=>have:=HK1.out;omega
      case rel=>exact ⟨(wrap64 (x3_1+1)),(si_),H',⟨by have:=HK1.out;omega⟩,by repeat (first|exact Drawn0.refl _|apply Drawn0.step)⟩
     ·replace c6:=Bool.eq_false_iff.mpr c6
      subst c6
      have H1:(some false)=some r:=by rw [if_neg (show ¬ (false=true) by decide)] at H;exact H
      clear H
      have H:=H1
      clear H1
      obtain rfl:=sj_ H
      have p4:0≤(x3_1:Int):=od_
      have q4:x3_1 < (a0.size:Int):=od_
      have hx4:=bt_at a0 x3_1
      replace p4:=eq_true p4
      replace q4:=eq_true q4
      go_wp2_with (first|((with_reducible refine gC_ (f:=92) rfl ?_);refine gl_ 14 Tryd.func92 #[.int .i64 (wrap64 (bt a0 x3_1)),.int .i64 97,.int .i64 100] ?_;(with_reducible refine (spec_l6In.calls (wrap64 (bt a0 x3_1)) 97 100 false _ A5.out).mono ?_);rintro e w' ⟨rfl,⟨nd,rfl⟩⟩;refine ⟨_,rfl,?_⟩))
      go_ret
      exact ⟨si_,by repeat (first|exact Drawn0.refl _|apply Drawn0.step)⟩
    ·rw [if_neg c3] at H
     exact absurd H (by simp)
   ·rw [if_neg c2] at H
    have c2b0:decide (x3_1 < (a0.size:Int))=false:=df_ c2
    clear c2
    obtain rfl:=sj_ H
    go_wp2
    go_ret
    exact ⟨si_,by repeat (first|exact Drawn0.refl _|apply Drawn0.step)⟩

def spec_l71Id.f (k:Nat) (s0_0:List Int) (s0_1:Int):Option (Int×Int):=(spec_l6Rd_pick.f k s0_0 s0_1 3).bind fun bt215=>((spec_l6Rd_pick.f k s0_0 bt215.2 4).bind fun bt217=>(some (wrap64 ((wrap64 ((wrap64 (10 * (wrap64 (1+bt215.1))))+1))+bt217.1),bt217.2)))
theorem spec_l71Id.mono:∀ a0 a1 k,LeO (spec_l71Id.f k a0 a1) (spec_l71Id.f (k+1) a0 a1):=by
 intro a0 a1 k
 unfold spec_l71Id.f
 repeat' first
   | (with_reducible exact spec_l6Rd_pick.mono _ _ _ _)
   | (with_reducible exact LeO.refl _)
   | (with_reducible exact LeO.none _)
   | (with_reducible refine LeO.ite ?_ ?_)
   | (with_reducible refine LeO.bind ?_ (fun _=>?_))
theorem spec_l71Id.calls (k:Nat) (g:Nat) (s0_0:List Int) (s0_1:Int) (r1:Int) (r2:Int) (w0 w:World) (hI:IsS102 w0 w g s0_0 s0_1) (hB:Below w0.heap.size w0 w) (h:spec_l71Id.f k s0_0 s0_1=some (r1,r2)) :
  Calls Tryd.prog 91 #[.pointer (some ⟨g,0,none⟩)] w fun e w'=>e=.returned (.int .i64 r1)∧IsS102 w0 w' g s0_0 r2∧Below w0.heap.size w0 w'∧KeepBut w w' g none:=by
 have HI0:=a_ hI
 have HK:=a_ (KeepBut.refl w g none)
 have HL:=a_ hB.size
 clear hI
 have HW0:=a_ hB.size
 have HB:=a_ hB
 clear hB
 unfold spec_l71Id.f at h
 have H:=h
 clear h
 replace H:=bs_ H
 obtain ⟨⟨t215,t216⟩,A20,H⟩:=H
 try dsimp only at H
 have A2:=a_ A20
 clear A20
 replace H:=bs_ H
 obtain ⟨⟨t217,t218⟩,A30,H⟩:=H
 try dsimp only at H
 have A3:=a_ A30
 clear A30
 simp only [Option.some.injEq,Prod.mk.injEq] at H
 obtain ⟨rfl,rfl⟩:=H
 go_enter Tryd.func91,Tryd.ntmps91
 go_wp2_with (first|((with_reducible refine gC_ (f:=73) rfl ?_);refine gl_ 4 Tryd.func73 #[.pointer (some ⟨g,0,none⟩),.int .i64 3] ?_;(with_reducible refine (spec_l6Rd_pick.calls k g s0_0 s0_1 3 t215 t216 w0 _ ?side1 ?side2 A2.out).mono ?_);(case side1=>exact is_HI0);(case side2=>exact bel_);rintro e w4 ⟨rfl,hi,hb,hk⟩;refine ⟨_,rfl,?_⟩;replace HK:=a_ (KeepBut.trans (ke_) hk (.inl rfl));replace HB:=a_ (hb);replace HI0:=a_ (hi);(try clear hb hk hi))|((with_reducible refine gC_ (f:=73) rfl ?_);refine gl_ 9 Tryd.func73 #[.pointer (some ⟨g,0,none⟩),.int .i64 4] ?_;(with_reducible refine (spec_l6Rd_pick.calls k g s0_0 t216 4 t217 t218 w0 _ ?side1 ?side2 A3.out).mono ?_);(case side1=>exact is_HI0);(case side2=>exact bel_);rintro e w5 ⟨rfl,hi,hb,hk⟩;refine ⟨_,rfl,?_⟩;replace HK:=a_ (KeepBut.trans (ke_) hk (.inl rfl));replace HB:=a_ (hb);replace HI0:=a_ (hi);(try clear hb hk hi)))
 go_ret
 exact ⟨fi_,is_HI0,bel_,ke_⟩

def spec_TreeNew.f  : Option ((List (S37))):=some (([(⟨1,0,(⟨#[]⟩:ByteArray)⟩:S37),(⟨2,0,(⟨#[]⟩:ByteArray)⟩:S37),(⟨3,0,(⟨#[]⟩:ByteArray)⟩:S37)]:List (S37)))
theorem spec_TreeNew.calls  (r:List (S37)) (w:World) (h:spec_TreeNew.f  = some r) :
  Calls Tryd.prog 111 #[] w fun e w'=>∃ v0_:Value,e=.returned (v0_)∧Kd.R k37 37 w' w.heap.size (fun _=>True) v0_ r∧Below w.heap.size w w':=by
 have hu37:=Tryd.underlying37
 have HB:=a_ (Below.refl w.heap.size w)
 unfold spec_TreeNew.f at h
 have H:=h
 clear h
 obtain ⟨y219,hy219⟩:∃ y_:List (S37),y_=(([(⟨1,0,(⟨#[]⟩:ByteArray)⟩:S37),(⟨2,0,(⟨#[]⟩:ByteArray)⟩:S37),(⟨3,0,(⟨#[]⟩:ByteArray)⟩:S37)]:List (S37))):=⟨_,rfl⟩
 replace H:(some y219)=some r:=by first|(rw [hy219];with_reducible exact H)|(have H2_:=(Option.bind_some _ _).symm.trans H;rw [hy219];with_reducible exact H2_)|(have H2_:=(Option.bind_some _ _).symm.trans H;with_reducible exact H2_)|with_reducible exact H|(rw [hy219];exact H)|exact H
 have Ny219:=a_ hy219
 clear hy219
 obtain rfl:=sj_ H
 go_enter Tryd.func111,Tryd.ntmps111
 go_wp2_with (first|((with_reducible refine gD_ (N:=4) rfl ?_);refine Kd.R_lit k37 _ 37 ?hg (N:=4) ?hd (xs:=([(⟨1,0,(⟨#[]⟩:ByteArray)⟩:S37),(⟨2,0,(⟨#[]⟩:ByteArray)⟩:S37),(⟨3,0,(⟨#[]⟩:ByteArray)⟩:S37)]:List (S37))) (inner:=[.int .i64 1,.int .i64 0,.string (⟨#[]⟩:ByteArray),.int .i64 2,.int .i64 0,.string (⟨#[]⟩:ByteArray),.int .i64 3,.int .i64 0,.string (⟨#[]⟩:ByteArray)]) (ok:=fun _=>True) (okp:=fun _=>True) ?hr ?hp (fun _ hk=>hk) trivial (Below.refl _ _) (Nat.le_refl _) (by simp) ?_;(case hd=>rfl);(case hg=>rfl);(case hr=>first|(go_simp;done)|(go_simp;rfl));(case hp=>exact (Reps.c3 (show Kd.M k37 _ _ _ (⟨1,0,(⟨#[]⟩:ByteArray)⟩:S37) [.int .i64 1,.int .i64 0,.string (⟨#[]⟩:ByteArray)] from (k37_mkM _ _ _ (⟨1,0,(⟨#[]⟩:ByteArray)⟩:S37) )) (Reps.c3 (show Kd.M k37 _ _ _ (⟨2,0,(⟨#[]⟩:ByteArray)⟩:S37) [.int .i64 2,.int .i64 0,.string (⟨#[]⟩:ByteArray)] from (k37_mkM _ _ _ (⟨2,0,(⟨#[]⟩:ByteArray)⟩:S37) )) (Reps.c3 (show Kd.M k37 _ _ _ (⟨3,0,(⟨#[]⟩:ByteArray)⟩:S37) [.int .i64 3,.int .i64 0,.string (⟨#[]⟩:ByteArray)] from (k37_mkM _ _ _ (⟨3,0,(⟨#[]⟩:ByteArray)⟩:S37) )) (Reps.none _ _)))));intro v220 w1 ho2 hb hg_ hnew_;clear hg_ hnew_;(first|rw [←Ny219.out] at ho2|(simp only [Int.reduceToNat] at ho2;rw [←Ny219.out] at ho2));have HO221:=a_ (Kd.R_lower ho2 (below_size (bel_)));replace HB:=a_ (bS_ (bel_) hb);clear hb ho2))
 go_ret
 exact ⟨_,fi_,by (with_reducible repeat (first|apply Kd.R_alloc|apply Kd.R_drewN|apply Kd.R_drew));exact HO221.out,bel_⟩

def spec_l6Rd_of.f (k:Nat) (s0_0:List Int) (s0_1:Int) (l1:List ByteArray):Option (ByteArray×Int):=(spec_l6Rd_pick.f k s0_0 s0_1 (l1.length:Int)).bind fun bt222=>(if 0≤bt222.1 then (if bt222.1 < (l1.length:Int) then (some (rdOf ByteArray.empty l1 bt222.1,bt222.2)) else (none)) else (none))
theorem spec_l6Rd_of.mono:∀ a0 a1 a2 k,LeO (spec_l6Rd_of.f k a0 a1 a2) (spec_l6Rd_of.f (k+1) a0 a1 a2):=by
 intro a0 a1 a2 k
 unfold spec_l6Rd_of.f
 repeat' first
   | (with_reducible exact spec_l6Rd_pick.mono _ _ _ _)
   | (with_reducible exact LeO.refl _)
   | (with_reducible exact LeO.none _)
   | (with_reducible refine LeO.ite ?_ ?_)
   | (with_reducible refine LeO.bind ?_ (fun _=>?_))
theorem spec_l6Rd_of.calls (k:Nat) (g:Nat) (s0_0:List Int) (s0_1:Int) (A1:Option Addr) (c1:Nat) (l1:List ByteArray) (r1:ByteArray) (r2:Int) (w0 w:World) (hI:IsS102 w0 w g s0_0 s0_1) (hB:Below w0.heap.size w0 w) (hr1:Kd.C Kd.string w A1 l1.length l1) (hc1:l1.length≤c1) (hf1:∀ ad,A1=some ad→0 < l1.length→ad.block≠g) (h:spec_l6Rd_of.f k s0_0 s0_1 l1=some (r1,r2)) :
  Calls Tryd.prog 119 #[.pointer (some ⟨g,0,none⟩),.slice A1 l1.length c1] w fun e w'=>e=.returned (.string r1)∧IsS102 w0 w' g s0_0 r2∧Below w0.heap.size w0 w'∧KeepBut w w' g none:=by
 have HR1:=a_ hr1
 have HC1:=a_ hc1
 clear hr1 hc1
 have HI0:=a_ hI
 have HK:=a_ (KeepBut.refl w g none)
 have HL:=a_ hB.size
 clear hI
 have HW0:=a_ hB.size
 have HB:=a_ hB
 clear hB
 unfold spec_l6Rd_of.f at h
 have H:=h
 clear h
 replace H:=bs_ H
 obtain ⟨⟨t222,t223⟩,A30,H⟩:=H
 try dsimp only at H
 have A3:=a_ A30
 clear A30
 by_cases c4:0≤t222
 ·rw [if_pos c4] at H
  have c4b0:decide (0≤t222)=true:=dt_ c4
  clear c4
  by_cases c5:t222 < (l1.length:Int)
  ·rw [if_pos c5] at H
   have c5b0:decide (t222 < (l1.length:Int))=true:=dt_ c5
   clear c5
   simp only [Option.some.injEq,Prod.mk.injEq] at H
   obtain ⟨rfl,rfl⟩:=H
   go_enter Tryd.func119,Tryd.ntmps119
   go_wp2_with (first|((with_reducible refine gC_ (f:=73) rfl ?_);refine gl_ 9 Tryd.func73 #[.pointer (some ⟨g,0,none⟩),.int .i64 (l1.length:Int)] ?_;(with_reducible refine (spec_l6Rd_pick.calls k g s0_0 s0_1 (l1.length:Int) t222 t223 w0 _ ?side1 ?side2 A3.out).mono ?_);(case side1=>exact is_HI0);(case side2=>exact bel_);rintro e w6 ⟨rfl,hi,hb,hk⟩;refine ⟨_,rfl,?_⟩;replace HK:=a_ (KeepBut.trans (ke_) hk (.inl rfl));replace HB:=a_ (hb);replace HI0:=a_ (hi);(try clear hb hk hi);have p224:0≤(t222:Int):=od_;have q224:t222 < (l1.length:Int):=od_;obtain ⟨ad224,e224,hx224_0⟩:=Kd.at_string HR1.out t222 p224 q224;cases e224;replace hx224_0:=keep_cell HK.out hx224_0 (by first|(rw [add_block];exact hf1 _ rfl (by omega))|exact hf1 _ rfl (by omega)|exact hf1 ad224 rfl (by omega));replace p224:=eq_true p224;replace q224:=eq_true q224))
   go_ret
   exact ⟨fi_,is_HI0,bel_,ke_⟩
  ·rw [if_neg c5] at H
   exact absurd H (by simp)
 ·rw [if_neg c4] at H
  exact absurd H (by simp)

def spec_l71Text.l0:Nat→ByteArray→Int→List Int→Int→Option (ByteArray×Int)
 | 0,_,_,_,_=>none
 | k+1,x3,x4,x1000,x1001=>if x4 > 0 then ((spec_l6Rd_of.f k x1000 x1001 (([(⟨#[97]⟩:ByteArray),(⟨#[98]⟩:ByteArray),(⟨#[99]⟩:ByteArray),(⟨#[100]⟩:ByteArray)]:List ByteArray))).bind fun bt230=>(if x3.size+bt230.1.size≤9223372036854775807 then (spec_l71Text.l0 k (x3++bt230.1) (wrap64 (x4 - 1)) x1000 bt230.2) else (none))) else ((spec_l6Rd_pick.f k x1000 x1001 40).bind fun bt232=>(if bt232.1=0 then ((spec_l6Rd_of.f k x1000 bt232.2 (([(⟨#[101]⟩:ByteArray),(⟨#[32]⟩:ByteArray),(⟨#[97,97,97,97]⟩:ByteArray),(⟨#[39]⟩:ByteArray)]:List ByteArray))).bind fun bt237=>(if x3.size+bt237.1.size≤9223372036854775807 then (some (x3++bt237.1,bt237.2)) else (none))) else (some (x3,bt232.2))))
def spec_l71Text.f (k:Nat) (s0_0:List Int) (s0_1:Int):Option (ByteArray×Int):=(spec_l6Rd_pick.f k s0_0 s0_1 4).bind fun bt225=>(spec_l71Text.l0 k (⟨#[]⟩:ByteArray) bt225.1 s0_0 bt225.2)
theorem spec_l71Text.mono_l:∀ k,(∀ y0 y1 y2 y3,LeO (spec_l71Text.l0 k y0 y1 y2 y3) (spec_l71Text.l0 (k+1) y0 y1 y2 y3))
 | 0=>fun _ _ _ _ r h=>by simp [spec_l71Text.l0] at h
 | k+1=>by
  have ih0:=spec_l71Text.mono_l k
  ·intro y0 y1 y2 y3
   unfold spec_l71Text.l0
   repeat' first
   | (with_reducible exact ih0 _ _ _ _)
   | (with_reducible exact spec_l6Rd_of.mono _ _ _ _)
   | (with_reducible exact spec_l6Rd_pick.mono _ _ _ _)
   | (with_reducible exact LeO.refl _)
   | (with_reducible exact LeO.none _)
   | (with_reducible refine LeO.ite ?_ ?_)
   | (with_reducible refine LeO.bind ?_ (fun _=>?_))
theorem spec_l71Text.mono:∀ a0 a1 k,LeO (spec_l71Text.f k a0 a1) (spec_l71Text.f (k+1) a0 a1):=by
 intro a0 a1 k
 have ih0:=spec_l71Text.mono_l k
 unfold spec_l71Text.f
 repeat' first
   | (with_reducible exact ih0 _ _ _ _)
   | (with_reducible exact spec_l6Rd_of.mono _ _ _ _)
   | (with_reducible exact spec_l6Rd_pick.mono _ _ _ _)
   | (with_reducible exact LeO.refl _)
   | (with_reducible exact LeO.none _)
   | (with_reducible refine LeO.ite ?_ ?_)
   | (with_reducible refine LeO.bind ?_ (fun _=>?_))
end Go.Proofs.YtlkheeegkifblaaDoor.P
