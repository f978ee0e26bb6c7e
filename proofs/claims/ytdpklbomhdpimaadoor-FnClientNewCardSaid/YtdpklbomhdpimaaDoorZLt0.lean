/- Joined by a program (wip/shake.py): the declarations that 'YtdpklbomhdpimaaDoorCardFnClientNew' reaches. -/
import Derived.Below
import Derived.Deep.Draws
import Derived.Deep.AppendLies
import Derived.Maps.AppendAt
import Derived.OwnWalk
import Derived.Laws.BytesArg
import Derived.Laws.MakeOwn
import Derived.Laws.OwnMore
import Derived.Deep.OwnRows
import Derived.Tactics
import Derived.Lib.ConvBytes
import Derived.Laws.Slices
import Derived.WalkKit
import Derived.KernelRfl
import Derived.RowKit3
import Derived.Deep.LoopGhost
import Derived.Deep.QuietTactic
import Derived.BigQuiet
import Derived.WideLaws
import Derived.Deep.DeepCutAuto
import Derived.Deep.CutBlock
import Derived.Deep.RegionHeld3
import Derived.Laws.Rows
import Derived.Lib.AppendStr
import Derived.ArgAppend
import Derived.Laws.IdiomCopy
import Derived.OrdersHeld
import Derived.Laws.BitsLemmas
import Derived.RowKit
import Derived.Lib.LaidTab
import Derived.Deep.CutRange
import Derived.Lib.Hide
import Derived.Maps.OwnOps
import Derived.Maps.OwnSet
import Derived.Outline
import Derived.RegionTactic
import Derived.LoopTactic
import Derived.LaidEqlPtr
import Derived.RangeFuncFrom
import Derived.RangeFuncNested
import Derived.RangeFuncBound
import Derived.RangeFuncCalls
import Derived.RangeFuncLeaves
import Derived.Shelf.Abstract
import Derived.Shelf.RegionOpen
import Derived.OwnWalkIn
import Derived.TacticsInMore
import Derived.LoopNIn
import Derived.LoopIn
import Derived.RangeFuncWrites
import Derived.WalkSpells
import Derived.LaidMore
import Derived.LaidLaws
import Derived.ProofKit
import Derived.ChangeVars
import Derived.ChangeSame
import Derived.OpenShut
import Derived.ShutString
import Derived.ChangeOld
import Derived.SizedLaws
import Derived.SevenTiedAt
import Derived.Test.YtdpklbomhdpimaaDoorCards
import Derived.Test.YtdpklbomhdpimaaDoorRows
import Derived.Test.YtdpklbomhdpimaaDoorTie
import Derived.Test.YtdpklbomhdpimaaDoorZLtV
import Derived.Test.YtdpklbomhdpimaaDoorWSized
set_option linter.unusedVariables false
set_option linter.unusedSimpArgs false
set_option linter.unusedSectionVars false
set_option maxHeartbeats 8000000
set_option maxRecDepth 100000
namespace Go.Proofs.YtdpklbomhdpimaaDoor.P
open Go.RowKit Go.Proofs.YtdpklbomhdpimaaDoorW.PrintWords Go.Proofs.YtdpklbomhdpimaaDoorW.PrintLast Go.Proofs.YtdpklbomhdpimaaDoorW.PrintMore
theorem a_ {p:Prop} (h:p):Aside0 p:=⟨h⟩
theorem dt_ {p:Prop} [Decidable p] (h:p):decide p=true:=decide_eq_true h
theorem df_ {p:Prop} [Decidable p] (h:¬ p):decide p=false:=decide_eq_false h
theorem bs_ {α β:Type} {o:Option α} {f:α→Option β} {b:β} (h:o.bind f=some b):∃ a,o=some a∧f a=some b:=Option.bind_eq_some_iff.mp h
theorem sj_ {α:Type} {a b:α} (h:some a=some b):a=b:=Option.some.inj h
theorem bl_ (w:World) (a:Addr) {v:Value} (h:w.cell? a=some v):a.block < w.heap.size:=World.block_lt_of_cell? w a h
theorem bn_ {α:Type} [BEq α] [LawfulBEq α] {a b:α} (h:a≠b):(a==b)=false:=beq_eq_false_iff_ne.mpr h
theorem be_ {α:Type} [BEq α] [LawfulBEq α] {a b:α} (h:a=b):(a != b)=false:=bne_eq_false_iff_eq.mpr h
theorem bel_ {p:Prop} (h:p:=by repeat (first|(with_reducible first|exact HB.out|apply wA_|apply pw_below_drewN|apply below_drew1|refine wS_ ?_ (Aside0.out (by assumption))|refine wS_ ?_ (IsS145.ge (Aside0.out (by assumption))))|exact HB.out)):p:=h
theorem bp_ {p q:Prop} (h:p) (f:p→q:=by intro h_;(with_reducible repeat (first|refine bN_ ?_ _|refine bD_ ?_|refine bA_ ?_ _));exact h_):q:=f h
theorem rp_ {p q:Prop} (h:p) (f:p→q:=by intro h_;(with_reducible repeat (first|apply Kd.R_alloc|apply Kd.R_drewN|apply Kd.R_drew));exact h_):q:=f h
theorem ar_ {p:Prop} (h:p:=by (try simp only [List.map_toArray,List.map_cons,List.map_nil]);first|done|rfl|(simp only [List.length_drop,List.length_take];rfl)):p:=h
theorem fi_ {p:Prop} (h:p:=by first|rfl|(simp [errW_none,errW_some] <;> rfl)|(simp [*,errW_none,errW_some] <;> rfl)):p:=h
theorem cp_ {p q:Prop} (h:p) (f:p→q:=by intro h_;repeat (first|exact (Kd.C_below h_ HB.out)|(with_reducible refine Kd.C_alloc ?_ _)|(with_reducible refine Kd.C_drewN ?_ _)|(with_reducible refine Kd.C_drew ?_))):q:=f h
theorem ke_ {p:Prop} (h:p:=by repeat (first|(with_reducible first|exact HK.out|apply KeepBut.set_|apply keep_drewN|apply keep_drew|apply keep_alloc)|exact HK.out)):p:=h
theorem kf_ {w w1 W:World} {g:Nat} {row:Option Nat} (h0:KeepBut w w1 g row) (h:KeepBut w W g row:=by repeat (first|(with_reducible first|exact HK.out|apply KeepBut.set_|apply keep_drewN|apply keep_drew|apply keep_alloc|refine keep_far ?_ (Aside0.out (by assumption)) _)|exact HK.out)):KeepBut w W g row:=h
theorem qp_ {p q:Prop} (h:p) (f:p→q:=by intro h_;(with_reducible repeat (first|apply Kd.Q_alloc|apply Kd.Q_drewN|apply Kd.Q_drew));exact h_):q:=f h
theorem cz_ {W:World} {g:Nat} {t:TypeId} {cs:Array Value} (h:W.heap[g]?=some (.cells cs t (0,0))) (i:Nat) (v:Value) (hv:cs[i]?=some v:=by exact rfl):W.cell? ⟨g,i,none⟩=some v:=(bC_ h i).trans hv
theorem kb_ {w w1 W0:World} {g g':Nat} {o:Obj} (hk:KeepBut w w1 g none) (h0:W0.heap[g']?=some o) (hn:g'≠g) (f:W0.heap[g']?=some o→w.heap[g']?=some o:=by intro h_;(with_reducible repeat (first|refine bN_ ?_ _|refine bD_ ?_|refine bA_ ?_ _));exact h_):w1.heap[g']?=some o:=hk.blk (f h0) hn (by simp)
theorem bb_ {w w1 W0:World} {g:Nat} {o:Obj} (h0:W0.heap[g]?=some o) (hb:Below w.heap.size w w1) (f:W0.heap[g]?=some o→w.heap[g]?=some o:=by intro h_;(with_reducible repeat (first|refine bN_ ?_ _|refine bD_ ?_|refine bA_ ?_ _));exact h_):w1.heap[g]?=some o:=blk_below (f h0) hb
theorem bx_ {P:Program} {ops:Array Oper} {Q:Exit→Act→World→Prop} {rest:List Oper} {o:Oper} {a:Act} {W:World} (N:Tmp) (cs:Array Value) (t:TypeId)
    (h:∀ g,g=W.heap.size→∀ w1,w1.heap[g]?=some (.cells cs t (0,0))→Below W.heap.size W w1→wpList P ops Q rest (a.put o.dst (.pointer (some ⟨g,0,none⟩))) w1) (hd:o.dst=some N:=by exact rfl) (hg:o.guard=none:=by exact rfl)
    (hr:(execOp a.eval o).run P W=.ok (.value (.pointer (some ⟨W.heap.size,0,none⟩))) (W.alloc (.cells cs t (0,0))):=by first|(go_simp;done)|(go_simp;rfl)):wpList P ops Q (o::rest) a W:=box_event hg hd hr h
theorem cx_ {p q:Prop} (h:p) (f:p→q:=by intro h_;repeat (first|exact h_|(with_reducible refine Kd.C_alloc ?_ _)|(with_reducible refine Kd.C_drewN ?_ _)|(with_reducible refine Kd.C_drew ?_))):q:=f h
theorem hg_ {p:Prop} (h:p:=by repeat (first|(with_reducible first|exact HG.out|apply Glob.drewN|apply Glob.drew)|exact HG.out)):p:=h
theorem od_ {p:Prop} [d:Decidable p] (h:decide p=true:=by first|(with_reducible assumption)|assumption):p:=of_decide_eq_true h
theorem si_ {p:Prop} (h:p:=by first|rfl|(simp;done)|(simp [*];done)):p:=h
theorem cb_ {w w':World} {p:Addr} {v:Value} (hb:Below w.heap.size w w') (h:w.cell? p=some v):w'.cell? p=some v:=(hb.cell (bl_ w _ h)).trans h
theorem gl_ {P:Program} {ops:Array Oper} {Q:Exit→Act→World→Prop} {rest:List Oper} {oi:Oper} {a:Act} {w:World} (n:Tmp) {f:FuncId} {fn:Func} (hf:P.funcs[f]?=some fn) (args:Array Value) {as_:Array Operand} {ts:Array TypeId}
    (h:Calls P f args w fun e w'=>∃ v,e=.returned v∧wpList P ops Q rest (a.put (some n) v) w') (hd:oi.dst=some n:=by exact rfl) (hg:oi.guard=none:=by exact rfl)
    (hname:(fn.name == "runtime.NumGoroutine")=false:=by kernel_rfl) (hb:fn.body.isSome=true:=by exact rfl) (hop:oi.op=.call { callee:=.value (.func f),args:=as_,argTypes:=ts }:=by exact rfl)
    (hargs:as_.map a.eval=args:=by (try simp only [List.map_toArray,List.map_cons,List.map_nil]);first|done|rfl|(simp only [List.length_drop,List.length_take];rfl)):wpList P ops Q (oi::rest) a w:=goesL_ (some n) hd hg hf hname hb args hop hargs h
theorem pa_ {P:Program} {md:Region.Mode} {ops:Array Oper} {Q:Exit→Act→World→Prop} {S:World→Prop} {ds:List Nat} (i:Nat) (n:Tmp) {oi:Oper} {v:Value} {fuel:Nat} {l:Array Bool} {a:Act} {w:World} {a':Act}
    (h:wpAnyLast P md ops Q S ds fuel (l.setIfInBounds i true) a' w) (hi:ops[i]?=some oi:=by exact rfl) (hN:oi.dst=some n:=by exact rfl) (hc:anyB md ops l (l.setIfInBounds i true) i=true:=by exact any_of HT_.out (by kernel_rfl))
    (hQ:∀ c a w,Q (.panic c) (a.put oi.dst v) w→Q (.panic c) a w:=by exact fun _ _ _ h=>h) (hy:Yields P ops oi v a:=by exact Or.inl ⟨by rfl,by intro w';go_simp;with_reducible rfl⟩)
    (ha:a.put (some n) v=a':=by simp only [Act.put,List.setIfInBounds_toArray,List.set_cons_zero,List.set_cons_succ,i64_w,i32_w];rfl):wpAnyLast P md ops Q S ds (fuel+1) l a w:=pure_ _ hi hN hc hQ hy ha h
theorem po_ {P:Program} {md:Region.Mode} {ops:Array Oper} {Q:Exit→Act→World→Prop} {S:World→Prop} {ds:List Nat} (i:Nat) (n:Tmp) {oi:Oper} {fuel:Nat} {l:Array Bool} {a:Act} {w:World} {a':Act}
    (h:wpAnyLast P md ops Q S ds fuel (l.setIfInBounds i true) a' w) (hi:ops[i]?=some oi:=by exact rfl) (hN:oi.dst=some n:=by exact rfl) (hc:anyB md ops l (l.setIfInBounds i true) i=true:=by exact any_of HT_.out (by kernel_rfl))
    (hQ:∀ c a w,Q (.panic c) (a.put oi.dst undef) w→Q (.panic c) a w:=by exact fun _ _ _ h=>h) (hy:Yields P ops oi undef a:=by exact Or.inr ⟨by rfl,rfl⟩)
    (ha:a.put (some n) undef=a':=by simp only [Act.put,List.setIfInBounds_toArray,List.set_cons_zero,List.set_cons_succ,i64_w,i32_w];rfl):wpAnyLast P md ops Q S ds (fuel+1) l a w:=pure_ _ hi hN hc hQ hy ha h
theorem on_ {P:Program} {md:Region.Mode} {ops:Array Oper} {Q:Exit→Act→World→Prop} {S:World→Prop} {ds:List Nat} (i:Nat) (n:Tmp) {oi:Oper} {fuel:Nat} {l:Array Bool} {a:Act} {w:World}
    (h:∀ K:Act→World→Prop,Shut (∀ a' w',S w'→(S w'→wpAnyLast P md ops Q S ds fuel (l.setIfInBounds i true) a' w')→K a' w')→if Region.wanted oi (yielded ops a.tmps)=true then Oper.wp P oi a w K Q else K (a.put (some n) undef) w)
    (hi:ops[i]?=some oi:=by exact rfl) (hN:oi.dst=some n:=by exact rfl) (hc:readyB md ops l (l.setIfInBounds i true) i=true:=by exact one_of HT_.out (by kernel_rfl)) (hd:i∉ds:=by decide):wpAnyLast P md ops Q S ds (fuel+1) l a w:=one_ _ hi hN hc hd h
theorem no_ (n:Tmp) {P:Program} {md:Region.Mode} {ops:Array Oper} {Q:Exit→Act→World→Prop} {S:World→Prop} {ds:List Nat} {fuel:Nat} {l:Array Bool} {a a':Act} {v:Value} {w:World} (h:wpAnyLast P md ops Q S ds fuel l a' w)
    (ha:a.put (some n) v=a':=by simp only [Act.put,List.setIfInBounds_toArray,List.set_cons_zero,List.set_cons_succ,i64_w,i32_w];rfl):wpAnyLast P md ops Q S ds fuel l (a.put (some n) v) w:=norm_ ha h
end Go.Proofs.YtdpklbomhdpimaaDoor.P
namespace Go.Proofs.YtdpklbomhdpimaaDoor.P
open Go.RowKit Go.Proofs.YtdpklbomhdpimaaDoorW.PrintWords Go.Proofs.YtdpklbomhdpimaaDoorW.PrintLast
def errW:Option Int→Value
 | none=>.nilIface
 | some c=>.iface 0 (.int .i64 c)
theorem errW_none:errW none=.nilIface:=rfl
theorem errW_some (c:Int):errW (some c)=.iface 0 (.int .i64 c):=rfl

theorem info5:(Tryd.prog.info? 5).map (fun i=>(i.zero,i.size,i.bytes))=some (some (.int .u8 0),1,1):=by kernel_rfl
theorem info69:(Tryd.prog.info? 69).map (fun i=>(i.zero,i.size,i.bytes))=some (some (.agg #[(.int .i64 0),(.int .i64 0),(.string ⟨#[]⟩)]),3,32):=by kernel_rfl
structure S42 where
 f0:Int
 f1:Int
 f2:Int
 f3:Int
 f4:ByteArray
def z42:S42:=⟨(0:Int),(0:Int),(0:Int),(0:Int),(⟨#[]⟩:ByteArray)⟩
def k42:Kd S42:=Kd.iso (Kd.pair (Kd.int .i64) (Kd.pair (Kd.int .i64) (Kd.pair (Kd.int .i64) (Kd.pair (Kd.int .i64) Kd.string)))) (fun x:S42=>(x.f0,x.f1,x.f2,x.f3,x.f4))
theorem k42_open {w:World} {x:S42} {cs:List Value} (h:k42.K w x cs):cs=[.int .i64 x.f0,.int .i64 x.f1,.int .i64 x.f2,.int .i64 x.f3,.string x.f4]:=by
 obtain ⟨_,_,rfl,rfl,⟨_,_,rfl,rfl,⟨_,_,rfl,rfl,⟨_,_,rfl,rfl,rfl⟩⟩⟩⟩:=h
 exact rfl
structure S44 where
 f0:Int
 f1:Int
 f2:S42
def z44:S44:=⟨(0:Int),(0:Int),z42⟩
def k44:Kd S44:=Kd.iso (Kd.pair (Kd.int .i64) (Kd.pair (Kd.int .i64) k42)) (fun x:S44=>(x.f0,x.f1,x.f2))
theorem k44_open {w:World} {x:S44} {cs:List Value} (h:k44.K w x cs):cs=[.int .i64 x.f0,.int .i64 x.f1,.int .i64 x.f2.f0,.int .i64 x.f2.f1,.int .i64 x.f2.f2,.int .i64 x.f2.f3,.string x.f2.f4]:=by
 obtain ⟨_,_,rfl,rfl,⟨_,_,rfl,rfl,s2⟩⟩:=h
 obtain rfl:=k42_open s2
 exact rfl
def rd_T44 (xs:List S44) (i:Int):S44:=xs.getD i.toNat z44
theorem at_T44 {w:World} {A:Option Addr} {n:Nat} {xs:List S44} (h:Kd.C k44 w A n xs) (i:Int) (h0:0≤i) (h1:i < n):∃ ad ,A=some ad∧w.cell? (ad.add (i.toNat * 7))=some (.int .i64 (rd_T44 xs i).f0)∧w.cell? ⟨(ad.add (i.toNat * 7)).block,(ad.add (i.toNat * 7)).off+1,none⟩=some (.int .i64 (rd_T44 xs i).f1)∧w.cell? ⟨(ad.add (i.toNat * 7)).block,(ad.add (i.toNat * 7)).off+2,none⟩=some (.int .i64 (rd_T44 xs i).f2.f0)∧w.cell? ⟨(ad.add (i.toNat * 7)).block,(ad.add (i.toNat * 7)).off+3,none⟩=some (.int .i64 (rd_T44 xs i).f2.f1)∧w.cell? ⟨(ad.add (i.toNat * 7)).block,(ad.add (i.toNat * 7)).off+4,none⟩=some (.int .i64 (rd_T44 xs i).f2.f2)∧w.cell? ⟨(ad.add (i.toNat * 7)).block,(ad.add (i.toNat * 7)).off+5,none⟩=some (.int .i64 (rd_T44 xs i).f2.f3)∧w.cell? ⟨(ad.add (i.toNat * 7)).block,(ad.add (i.toNat * 7)).off+6,none⟩=some (.string (rd_T44 xs i).f2.f4):=by
 obtain ⟨ad,c,e,_,hK,hc0⟩:=Kd.C_get h z44 i h0 h1
 have hc:∀ j u,c[j]?=some u→w.cell? (ad.add (i.toNat * 7+j))=some u:=hc0
 obtain rfl:=k44_open hK
 exact ⟨ad,e,hc 0 _ rfl,by rw [←add_field _ _ 1 (by omega)];exact hc 1 _ rfl,by rw [←add_field _ _ 2 (by omega)];exact hc 2 _ rfl,by rw [←add_field _ _ 3 (by omega)];exact hc 3 _ rfl,by rw [←add_field _ _ 4 (by omega)];exact hc 4 _ rfl,by rw [←add_field _ _ 5 (by omega)];exact hc 5 _ rfl,by rw [←add_field _ _ 6 (by omega)];exact hc 6 _ rfl⟩

structure S69 where
 f0:Int
 f1:Int
 f2:ByteArray
def z69:S69:=⟨(0:Int),(0:Int),(⟨#[]⟩:ByteArray)⟩
def k69:Kd S69:=Kd.iso (Kd.pair (Kd.int .i64) (Kd.pair (Kd.int .i64) Kd.string)) (fun x:S69=>(x.f0,x.f1,x.f2))
theorem k69_open {w:World} {x:S69} {cs:List Value} (h:k69.K w x cs):cs=[.int .i64 x.f0,.int .i64 x.f1,.string x.f2]:=by
 obtain ⟨_,_,rfl,rfl,⟨_,_,rfl,rfl,rfl⟩⟩:=h
 exact rfl
theorem k69_mkM (w:World) (base:Nat) (ok:Nat→Prop) (x:S69)  : k69.M w base ok x [.int .i64 x.f0,.int .i64 x.f1,.string x.f2]:=⟨[.int .i64 x.f0],[.int .i64 x.f1,.string x.f2],rfl,rfl,⟨[.int .i64 x.f1],[.string x.f2],rfl,rfl,rfl⟩⟩
def rd_T69 (xs:List S69) (i:Int):S69:=xs.getD i.toNat z69
theorem at_T69 {w:World} {A:Option Addr} {n:Nat} {xs:List S69} (h:Kd.C k69 w A n xs) (i:Int) (h0:0≤i) (h1:i < n):∃ ad ,A=some ad∧w.cell? (ad.add (i.toNat * 3))=some (.int .i64 (rd_T69 xs i).f0)∧w.cell? ⟨(ad.add (i.toNat * 3)).block,(ad.add (i.toNat * 3)).off+1,none⟩=some (.int .i64 (rd_T69 xs i).f1)∧w.cell? ⟨(ad.add (i.toNat * 3)).block,(ad.add (i.toNat * 3)).off+2,none⟩=some (.string (rd_T69 xs i).f2):=by
 obtain ⟨ad,c,e,_,hK,hc0⟩:=Kd.C_get h z69 i h0 h1
 have hc:∀ j u,c[j]?=some u→w.cell? (ad.add (i.toNat * 3+j))=some u:=hc0
 obtain rfl:=k69_open hK
 exact ⟨ad,e,hc 0 _ rfl,by rw [←add_field _ _ 1 (by omega)];exact hc 1 _ rfl,by rw [←add_field _ _ 2 (by omega)];exact hc 2 _ rfl⟩

theorem eqA69 (d:Nat) (w:World) (x0 y0:Int) (x1 y1:Int) (x2 y2:ByteArray) :
  (Op.equalIn (d+2) 69 (.agg #[.int .i64 x0,.int .i64 x1,.string x2]) (.agg #[.int .i64 y0,.int .i64 y1,.string y2])).run Tryd.prog w=.ok (x0==y0&&(x1==y1&&(x2.toList==y2.toList))) w:=by
 refine eqA_of Tryd.underlying69 (by kernel_rfl) ?_
 refine eqf_cons (by rfl) (by go_simp;rfl) (by go_simp;rfl) (by go_simp) ?_
 refine eqf_cons (by rfl) (by go_simp;rfl) (by go_simp;rfl) (by go_simp) ?_
 exact eqf_last (by rfl) (by go_simp;rfl) (by go_simp;rfl) (by go_simp)
end Go.Proofs.YtdpklbomhdpimaaDoor.P
namespace Go.Proofs.YtdpklbomhdpimaaDoor.P
open Go.RowKit
def owners:List Int:=[0,1,1,1,0,0,0,0,0,0,0,2,2,2,2,2,2,0,0,0,0,3,3,3,3,3,3,0,0,0,0,4,4,4,4,4,4]
def Glob (w:World):Prop:=Lib.TabIs Tryd.prog w "loop.example/plashet/impl.rowOwners" .i64 owners
theorem gOwners:Tryd.prog.globalNamed "loop.example/plashet/impl.rowOwners" = some 0:=by kernel_rfl
theorem Glob.var {w:World} (h:Glob w):w.var? Tryd.prog "loop.example/plashet/impl.rowOwners" = some (owners.map fun z=>Value.int .i64 z).toArray:=h
theorem Glob.lt {w:World} (h:Glob w):0 < w.heap.size:=by
 have h:=h.var
 unfold World.var? at h
 simp only [gOwners,Option.bind_some] at h
 rcases Nat.lt_or_ge 0 w.heap.size with hl|hl
 ·exact hl
 ·rw [Array.getElem?_eq_none hl] at h
  cases h
theorem Glob.below {w w':World} (h:Glob w) (hb:Below w.heap.size w w'):Glob w':=by
 have hl:=h.lt
 have h:=h.var
 unfold Glob Lib.TabIs World.var? at *
 simp only [gOwners,Option.bind_some] at h ⊢
 rw [hb.block _ hl]
 exact h
theorem Glob.drew {w:World} (h:Glob w):Glob w.drew:=by
 have h:=h.var
 unfold Glob Lib.TabIs World.var? at *
 exact h
theorem Glob.drewN {w:World} (h:Glob w) (n:Nat):Glob (w.drewN n):=by
 induction n generalizing w with
 | zero=>exact h
 | succ n ih=>rw [←World.drew_drewN];exact ih h.drew
theorem Glob.cell {w:World} (h:Glob w) (i:Nat) (hi:i < 37):w.cell? ⟨0,i,none⟩=some (.int .i64 (owners.getD i 0)):=by
 have hc:=World.var?_cell gOwners h.var i
 rw [hc]
 have hl:i < owners.length:=hi
 simp [List.getD_eq_getElem?_getD,List.getElem?_eq_getElem hl]
def ownI (id:Int):Int:=if 0≤id∧id < 37 then owners.getD id.toNat 0 else 0
theorem Glob.at_ {w:World} (h:Glob w) (i:Int) (h0:0≤i) (h1:i < 37):w.cell? ⟨0,i.toNat,none⟩=some (.int .i64 (ownI i)):=by
 have:=h.cell i.toNat (by omega)
 rw [ownI,if_pos ⟨h0,h1⟩]
 exact this
theorem owners_range:∀ z∈owners,0≤z∧z≤4:=by decide
theorem ownI_range (i:Int):0≤ownI i∧ownI i≤4:=by
 unfold ownI
 split
 ·rename_i h
  have hl:i.toNat < owners.length:=by have:owners.length=37:=rfl;omega
  rw [List.getD_eq_getElem?_getD,List.getElem?_eq_getElem hl]
  exact owners_range _ (List.getElem_mem hl)
 ·omega
end Go.Proofs.YtdpklbomhdpimaaDoor.P
namespace Go.Proofs.YtdpklbomhdpimaaDoor.P
open Go.RowKit Go.Proofs.YtdpklbomhdpimaaDoorW.PrintWords
def impl_RowWho.f (a0:Int):Option (Int×Bool):=some (if ownI a0=0 then (0,false) else (ownI a0 - 1,true))
theorem impl_RowWho.calls (a0:Int) (r1:Int) (r2:Bool) (w:World) (h:impl_RowWho.f a0=some (r1,r2)) (hG:Glob w) :
  Calls Tryd.prog 117 #[.int .i64 a0] w fun e w'=>e=.returned (.tuple #[.int .i64 r1,.bool r2])∧Drawn0 w w':=by
 unfold impl_RowWho.f at h
 by_cases h0:0≤a0
 ·by_cases h1:a0 < 37
  ·have hc:=hG.at_ a0 h0 h1
   have hr:=ownI_range a0
   generalize ownI a0=z at hc hr h
   by_cases hz:z=0
   ·subst hz
    simp only [if_true,Option.some.injEq,Prod.mk.injEq] at h
    obtain ⟨rfl,rfl⟩:=h
    clear hr hG
    go_enter Tryd.func117,Tryd.ntmps117
    go_wp2
    go_ret2
    exact ⟨rfl,Drawn0.refl _⟩
   ·rw [if_neg hz] at h
    simp only [Option.some.injEq,Prod.mk.injEq] at h
    obtain ⟨rfl,rfl⟩:=h
    have hz1:(z==0)=false:=beq_eq_false_iff_ne.2 hz
    have hr1:0≤z:=hr.1
    have hr2:z≤4:=hr.2
    clear hr hG
    go_enter Tryd.func117,Tryd.ntmps117
    go_wp2
    go_ret2
    exact ⟨rfl,Drawn0.refl _⟩
  ·have e:ownI a0=0:=by rw [ownI,if_neg (by omega)]
   rw [if_pos e] at h
   simp only [Option.some.injEq,Prod.mk.injEq] at h
   obtain ⟨rfl,rfl⟩:=h
   clear e hG
   go_enter Tryd.func117,Tryd.ntmps117
   go_wp2
   go_ret2
   exact ⟨rfl,Drawn0.refl _⟩
 ·have e:ownI a0=0:=by rw [ownI,if_neg (by omega)]
  rw [if_pos e] at h
  simp only [Option.some.injEq,Prod.mk.injEq] at h
  obtain ⟨rfl,rfl⟩:=h
  clear e hG
  have hlt:a0 < 0:=by omega
  go_enter Tryd.func117,Tryd.ntmps117
  go_wp2
  go_ret2
  exact ⟨rfl,Drawn0.refl _⟩
end Go.Proofs.YtdpklbomhdpimaaDoor.P
namespace Go.Proofs.YtdpklbomhdpimaaDoor.P
open Go.RowKit Go.Proofs.YtdpklbomhdpimaaDoorW.PrintWords Go.Proofs.YtdpklbomhdpimaaDoorW.PrintLast
def impl_isMade.f (a0:Int):Option (Bool):=(impl_RowWho.f a0).bind fun bt396=>(if bt396.2=true then (some (bt396.1 != 0)) else (some false))
theorem impl_isMade.calls (a0:Int) (r:Bool) (w:World) (h:impl_isMade.f a0=some r) (hG:Glob w) :
  Calls Tryd.prog 127 #[.int .i64 a0] w fun e w'=>e=.returned (.bool r)∧Drawn0 w w':=by
 have HG:=a_ hG
 clear hG
 unfold impl_isMade.f at h
 have H:=h
 clear h
 replace H:=bs_ H
 obtain ⟨⟨t396,t397⟩,A20,H⟩:=H
 try dsimp only at H
 have A2:=a_ A20
 clear A20
 by_cases c3:t397=true
 ·subst c3
  have H1:(some (t396 != 0))=some r:=by rw [if_pos rfl] at H;exact H
  clear H
  have H:=H1
  clear H1
  obtain rfl:=sj_ H
  go_enter Tryd.func127,Tryd.ntmps127
  go_wp2_with (first|((with_reducible refine gC_ (f:=117) rfl ?_);refine gl_ 7 Tryd.func117 #[.int .i64 a0] ?_;(with_reducible refine (impl_RowWho.calls a0 t396 true _ A2.out ?side1).mono ?_);(case side1=>exact hg_);rintro e w' ⟨rfl,⟨nd,rfl⟩⟩;refine ⟨_,rfl,?_⟩))
  go_ret
  exact ⟨si_,by repeat (first|exact Drawn0.refl _|apply Drawn0.step)⟩
 ·replace c3:=Bool.eq_false_iff.mpr c3
  subst c3
  have H1:(some false)=some r:=by rw [if_neg (show ¬ (false=true) by decide)] at H;exact H
  clear H
  have H:=H1
  clear H1
  obtain rfl:=sj_ H
  go_enter Tryd.func127,Tryd.ntmps127
  go_wp2_with (first|((with_reducible refine gC_ (f:=117) rfl ?_);refine gl_ 7 Tryd.func117 #[.int .i64 a0] ?_;(with_reducible refine (impl_RowWho.calls a0 t396 false _ A2.out ?side1).mono ?_);(case side1=>exact hg_);rintro e w' ⟨rfl,⟨nd,rfl⟩⟩;refine ⟨_,rfl,?_⟩))
  go_ret
  exact ⟨si_,by repeat (first|exact Drawn0.refl _|apply Drawn0.step)⟩

def impl_isRoot.f (a0:Int):Option (Bool):=(impl_RowWho.f a0).bind fun bt398=>(if bt398.2=true then (some (bt398.1==0)) else (some false))
theorem impl_isRoot.calls (a0:Int) (r:Bool) (w:World) (h:impl_isRoot.f a0=some r) (hG:Glob w) :
  Calls Tryd.prog 98 #[.int .i64 a0] w fun e w'=>e=.returned (.bool r)∧Drawn0 w w':=by
 have HG:=a_ hG
 clear hG
 unfold impl_isRoot.f at h
 have H:=h
 clear h
 replace H:=bs_ H
 obtain ⟨⟨t398,t399⟩,A20,H⟩:=H
 try dsimp only at H
 have A2:=a_ A20
 clear A20
 by_cases c3:t399=true
 ·subst c3
  have H1:(some (t398==0))=some r:=by rw [if_pos rfl] at H;exact H
  clear H
  have H:=H1
  clear H1
  obtain rfl:=sj_ H
  go_enter Tryd.func98,Tryd.ntmps98
  go_wp2_with (first|((with_reducible refine gC_ (f:=117) rfl ?_);refine gl_ 7 Tryd.func117 #[.int .i64 a0] ?_;(with_reducible refine (impl_RowWho.calls a0 t398 true _ A2.out ?side1).mono ?_);(case side1=>exact hg_);rintro e w' ⟨rfl,⟨nd,rfl⟩⟩;refine ⟨_,rfl,?_⟩))
  go_ret
  exact ⟨si_,by repeat (first|exact Drawn0.refl _|apply Drawn0.step)⟩
 ·replace c3:=Bool.eq_false_iff.mpr c3
  subst c3
  have H1:(some false)=some r:=by rw [if_neg (show ¬ (false=true) by decide)] at H;exact H
  clear H
  have H:=H1
  clear H1
  obtain rfl:=sj_ H
  go_enter Tryd.func98,Tryd.ntmps98
  go_wp2_with (first|((with_reducible refine gC_ (f:=117) rfl ?_);refine gl_ 7 Tryd.func117 #[.int .i64 a0] ?_;(with_reducible refine (impl_RowWho.calls a0 t398 false _ A2.out ?side1).mono ?_);(case side1=>exact hg_);rintro e w' ⟨rfl,⟨nd,rfl⟩⟩;refine ⟨_,rfl,?_⟩))
  go_ret
  exact ⟨si_,by repeat (first|exact Drawn0.refl _|apply Drawn0.step)⟩

def impl_placeOk.f (a0:Int) (a1:Int):Option (Bool):=(impl_isMade.f a0).bind fun t400=>(if t400=true then (if a1=0 then (some true) else ((impl_isMade.f a1).bind fun t401=>(some t401))) else ((impl_isRoot.f a0).bind fun t402=>(if t402=true then (if a1=0 then (some true) else ((impl_isMade.f a1).bind fun t403=>(some t403))) else (some false))))
theorem impl_placeOk.calls (a0:Int) (a1:Int) (r:Bool) (w:World) (h:impl_placeOk.f a0 a1=some r) (hG:Glob w) :
  Calls Tryd.prog 128 #[.int .i64 a0,.int .i64 a1] w fun e w'=>e=.returned (.bool r)∧Drawn0 w w':=by
 have HG:=a_ hG
 clear hG
 unfold impl_placeOk.f at h
 have H:=h
 clear h
 replace H:=bs_ H
 obtain ⟨t400,A30,H⟩:=H
 try dsimp only at H
 have A3:=a_ A30
 clear A30
 by_cases c4:t400=true
 ·subst c4
  have H1:(if a1=0 then (some true) else ((impl_isMade.f a1).bind fun t401=>(some t401)))=some r:=by rw [if_pos rfl] at H;exact H
  clear H
  have H:=H1
  clear H1
  by_cases c5:a1=0
  ·rw [if_pos c5] at H
   have c5b0:(a1==0)=true:=beq_iff_eq.mpr c5
   have c5b1:(a1 != 0)=false:=be_ c5
   clear c5
   obtain rfl:=sj_ H
   go_enter Tryd.func128,Tryd.ntmps128
   go_wp2_with (first|((with_reducible refine gC_ (f:=127) rfl ?_);refine gl_ 6 Tryd.func127 #[.int .i64 a0] ?_;(with_reducible refine (impl_isMade.calls a0 true _ A3.out ?side1).mono ?_);(case side1=>exact hg_);rintro e w' ⟨rfl,⟨nd,rfl⟩⟩;refine ⟨_,rfl,?_⟩))
   go_ret
   exact ⟨si_,by repeat (first|exact Drawn0.refl _|apply Drawn0.step)⟩
  ·rw [if_neg c5] at H
   have c5b0:(a1==0)=false:=bn_ c5
   have c5b1:(a1 != 0)=true:=bne_iff_ne.mpr c5
   replace H:=bs_ H
   obtain ⟨t401,A60,H⟩:=H
   try dsimp only at H
   have A6:=a_ A60
   clear A60
   obtain rfl:=sj_ H
   go_enter Tryd.func128,Tryd.ntmps128
   go_wp2_with (first|((with_reducible refine gC_ (f:=127) rfl ?_);refine gl_ 6 Tryd.func127 #[.int .i64 a0] ?_;(with_reducible refine (impl_isMade.calls a0 true _ A3.out ?side1).mono ?_);(case side1=>exact hg_);rintro e w' ⟨rfl,⟨nd,rfl⟩⟩;refine ⟨_,rfl,?_⟩)|(go_at_call 127;(with_reducible refine (impl_isMade.calls a1 t401 _ A6.out ?side1).mono ?_);(case side1=>exact hg_);rintro e w' ⟨rfl,⟨nd,rfl⟩⟩))
   go_ret
   exact ⟨si_,by repeat (first|exact Drawn0.refl _|apply Drawn0.step)⟩
 ·replace c4:=Bool.eq_false_iff.mpr c4
  subst c4
  have H1:((impl_isRoot.f a0).bind fun t402=>(if t402=true then (if a1=0 then (some true) else ((impl_isMade.f a1).bind fun t403=>(some t403))) else (some false)))=some r:=by rw [if_neg (show ¬ (false=true) by decide)] at H;exact H
  clear H
  have H:=H1
  clear H1
  replace H:=bs_ H
  obtain ⟨t402,A70,H⟩:=H
  try dsimp only at H
  have A7:=a_ A70
  clear A70
  by_cases c8:t402=true
  ·subst c8
   have H1:(if a1=0 then (some true) else ((impl_isMade.f a1).bind fun t403=>(some t403)))=some r:=by rw [if_pos rfl] at H;exact H
   clear H
   have H:=H1
   clear H1
   by_cases c9:a1=0
   ·rw [if_pos c9] at H
    have c9b0:(a1==0)=true:=beq_iff_eq.mpr c9
    have c9b1:(a1 != 0)=false:=be_ c9
    clear c9
    obtain rfl:=sj_ H
    go_enter Tryd.func128,Tryd.ntmps128
    go_wp2_with (first|((with_reducible refine gC_ (f:=127) rfl ?_);refine gl_ 6 Tryd.func127 #[.int .i64 a0] ?_;(with_reducible refine (impl_isMade.calls a0 false _ A3.out ?side1).mono ?_);(case side1=>exact hg_);rintro e w' ⟨rfl,⟨nd,rfl⟩⟩;refine ⟨_,rfl,?_⟩)|(go_at_call 98;(with_reducible refine (impl_isRoot.calls a0 true _ A7.out ?side1).mono ?_);(case side1=>exact hg_);rintro e w' ⟨rfl,⟨nd,rfl⟩⟩))
    go_ret
    exact ⟨si_,by repeat (first|exact Drawn0.refl _|apply Drawn0.step)⟩
   ·rw [if_neg c9] at H
    have c9b0:(a1==0)=false:=bn_ c9
    have c9b1:(a1 != 0)=true:=bne_iff_ne.mpr c9
    replace H:=bs_ H
    obtain ⟨t403,A100,H⟩:=H
    try dsimp only at H
    have A10:=a_ A100
    clear A100
    obtain rfl:=sj_ H
    go_enter Tryd.func128,Tryd.ntmps128
    go_wp2_with (first|((with_reducible refine gC_ (f:=127) rfl ?_);refine gl_ 6 Tryd.func127 #[.int .i64 a0] ?_;(with_reducible refine (impl_isMade.calls a0 false _ A3.out ?side1).mono ?_);(case side1=>exact hg_);rintro e w' ⟨rfl,⟨nd,rfl⟩⟩;refine ⟨_,rfl,?_⟩)|(go_at_call 98;(with_reducible refine (impl_isRoot.calls a0 true _ A7.out ?side1).mono ?_);(case side1=>exact hg_);rintro e w' ⟨rfl,⟨nd,rfl⟩⟩)|(go_at_call 127;(with_reducible refine (impl_isMade.calls a1 t403 _ A10.out ?side1).mono ?_);(case side1=>exact hg_);rintro e w' ⟨rfl,⟨nd,rfl⟩⟩))
    go_ret
    exact ⟨si_,by repeat (first|exact Drawn0.refl _|apply Drawn0.step)⟩
  ·replace c8:=Bool.eq_false_iff.mpr c8
   subst c8
   have H1:(some false)=some r:=by rw [if_neg (show ¬ (false=true) by decide)] at H;exact H
   clear H
   have H:=H1
   clear H1
   obtain rfl:=sj_ H
   go_enter Tryd.func128,Tryd.ntmps128
   go_wp2_with (first|((with_reducible refine gC_ (f:=127) rfl ?_);refine gl_ 6 Tryd.func127 #[.int .i64 a0] ?_;(with_reducible refine (impl_isMade.calls a0 false _ A3.out ?side1).mono ?_);(case side1=>exact hg_);rintro e w' ⟨rfl,⟨nd,rfl⟩⟩;refine ⟨_,rfl,?_⟩)|(go_at_call 98;(with_reducible refine (impl_isRoot.calls a0 false _ A7.out ?side1).mono ?_);(case side1=>exact hg_);rintro e w' ⟨rfl,⟨nd,rfl⟩⟩))
   go_ret
   exact ⟨si_,by repeat (first|exact Drawn0.refl _|apply Drawn0.step)⟩

def impl_textOk.l0:Nat→ByteArray→Int→Option (Bool)
 | 0,_,_=>none
 | k+1,x0,x3=>if x3 < (x0.size:Int) then (if 0≤x3 then (if (bt x0 x3) < 97 then (some false) else (if (bt x0 x3) > 100 then (some false) else (impl_textOk.l0 k x0 (wrap64 (x3+1))))) else (none)) else (some true)
def impl_textOk.f (k:Nat) (a0:ByteArray):Option (Bool):=if (a0.size:Int) > 4 then (some false) else (impl_textOk.l0 k a0 0)
theorem impl_textOk.mono_l:∀ k,(∀ y0 y1,LeO (impl_textOk.l0 k y0 y1) (impl_textOk.l0 (k+1) y0 y1))
 | 0=>fun _ _ r h=>by simp [impl_textOk.l0] at h
 | k+1=>by
  have ih0:=impl_textOk.mono_l k
  ·intro y0 y1
   unfold impl_textOk.l0
   repeat' first
   | (with_reducible exact ih0 _ _)
   | (with_reducible exact LeO.refl _)
   | (with_reducible exact LeO.none _)
   | (with_reducible refine LeO.ite ?_ ?_)
   | (with_reducible refine LeO.bind ?_ (fun _=>?_))
   | exact ih0 _ _
   | exact LeO.none _
   | refine LeO.ite ?_ ?_
   | refine LeO.bind ?_ (fun _=>?_)
theorem impl_textOk.mono:∀ a0 k,LeO (impl_textOk.f k a0) (impl_textOk.f (k+1) a0):=by
 intro a0 k
 have ih0:=impl_textOk.mono_l k
 unfold impl_textOk.f
 repeat' first
   | (with_reducible exact ih0 _ _)
   | (with_reducible exact LeO.refl _)
   | (with_reducible exact LeO.none _)
   | (with_reducible refine LeO.ite ?_ ?_)
   | (with_reducible refine LeO.bind ?_ (fun _=>?_))
   | exact ih0 _ _
   | exact LeO.none _
   | refine LeO.ite ?_ ?_
   | refine LeO.bind ?_ (fun _=>?_)
theorem impl_textOk.calls (k:Nat) (a0:ByteArray) (r:Bool) (w:World) (h:impl_textOk.f k a0=some r) :
  Calls Tryd.prog 129 #[.string a0] w fun e w'=>e=.returned (.bool r)∧Drawn0 w w':=by
 unfold impl_textOk.f at h
 have H:=h
 clear h
 by_cases c2:(a0.size:Int) > 4
 ·rw [if_pos c2] at H
  have c2b0:decide (4 < (a0.size:Int))=true:=dt_ c2
  have c2b1:decide (4 < a0.size)=true:=dt_ (by omega)
  clear c2
  obtain rfl:=sj_ H
  go_enter Tryd.func129,Tryd.ntmps129
  go_wp2
  go_ret
  exact ⟨si_,by repeat (first|exact Drawn0.refl _|apply Drawn0.step)⟩
 ·rw [if_neg c2] at H
  have c2b0:decide (4 < (a0.size:Int))=false:=df_ c2
  have c2b1:decide (4 < a0.size)=false:=df_ (by omega)
  clear c2
  have H':=a_ H
  clear H
  go_enter Tryd.func129,Tryd.ntmps129
  go_wp2
  go_loopg [3] k (fun kq v3 w'=>∃ (x3_1:Int),v3=.int .i64 x3_1∧Aside0 (impl_textOk.l0 kq a0 x3_1=some r)∧Aside0 (kq≤k)∧Drawn0 w w')
  case atStart=>exact ⟨(0),(si_),H',⟨Nat.le_refl _⟩,by repeat (first|exact Drawn0.refl _|apply Drawn0.step)⟩
  case round =>
   clear H'
   try clear c1
   try clear c2
   try clear c2b0
   try clear c2b1
   try clear p2
   obtain ⟨x3_1,rfl,HA,HK1,⟨m1,rfl⟩⟩:=hrel
   cases gk with
   | zero=>exact absurd HA.out (by simp [impl_textOk.l0])
   | succ k1 =>
    have H:=HA.out
    clear HA
    simp only [impl_textOk.l0] at H
    by_cases c3:x3_1 < (a0.size:Int)
    ·rw [if_pos c3] at H
     have c3b0:decide (x3_1 < (a0.size:Int))=true:=dt_ c3
     clear c3
     by_cases c4:0≤x3_1
     ·rw [if_pos c4] at H
      have c4b0:decide (0≤x3_1)=true:=dt_ c4
      clear c4
      by_cases c6:(bt a0 x3_1) < 97
      ·rw [if_pos c6] at H
       have c6b0:decide ((bt a0 x3_1) < 97)=true:=dt_ c6
       clear c6
       obtain rfl:=sj_ H
       have p5:0≤(x3_1:Int):=od_
       have q5:x3_1 < (a0.size:Int):=od_
       have hx5:=bt_at a0 x3_1
       replace p5:=eq_true p5
       replace q5:=eq_true q5
       go_wp2
       go_ret
       exact ⟨si_,by repeat (first|exact Drawn0.refl _|apply Drawn0.step)⟩
      ·rw [if_neg c6] at H
       have c6b0:decide ((bt a0 x3_1) < 97)=false:=df_ c6
       clear c6
       by_cases c8:(bt a0 x3_1) > 100
       ·rw [if_pos c8] at H
        have c8b0:decide (100 < (bt a0 x3_1))=true:=dt_ c8
        clear c8
        obtain rfl:=sj_ H
        have p5:0≤(x3_1:Int):=od_
        have q5:x3_1 < (a0.size:Int):=od_
        have hx5:=bt_at a0 x3_1
        replace p5:=eq_true p5
        replace q5:=eq_true q5
        have p7:0≤(x3_1:Int):=od_
        have q7:x3_1 < (a0.size:Int):=od_
        have hx7:=bt_at a0 x3_1
        replace p7:=eq_true p7
        replace q7:=eq_true q7
        go_wp2
        go_ret
        exact ⟨si_,by repeat (first|exact Drawn0.refl _|apply Drawn0.step)⟩
       ·rw [if_neg c8] at H
        have c8b0:decide (100 < (bt a0 x3_1))=false:=df_ c8
        clear c8
        have H':=a_ H
        clear H
        have p5:0≤(x3_1:Int):=od_
        have q5:x3_1 < (a0.size:Int):=od_
        have hx5:=bt_at a0 x3_1
        replace p5:=eq_true p5
        replace q5:=eq_true q5
        have p7:0≤(x3_1:Int):=od_
        have q7:x3_1 < (a0.size:Int):=od_
        have hx7:=bt_at a0 x3_1
        replace p7:=eq_true p7
        replace q7:=eq_true q7
        go_wp2
        go_roundg k1
        case measure=>have:=HK1.out;omega
        case rel=>exact ⟨(wrap64 (x3_1+1)),(si_),H',⟨by have:=HK1.out;omega⟩,by repeat (first|exact Drawn0.refl _|apply Drawn0.step)⟩
     ·rw [if_neg c4] at H
      exact absurd H (by simp)
    ·rw [if_neg c3] at H
     have c3b0:decide (x3_1 < (a0.size:Int))=false:=df_ c3
     clear c3
     obtain rfl:=sj_ H
     go_wp2
     go_ret
     exact ⟨si_,by repeat (first|exact Drawn0.refl _|apply Drawn0.step)⟩


def IsS145 (w0 W:World) (g:Nat) (f0:List Int) (f1:Int):Prop:=∃ A0 c0,W.heap[g]?=some (.cells #[.slice A0 f0.length c0,.int .i64 f1] 145 (0,0))∧w0.heap.size≤g∧Kd.C (Kd.int .u8) w0 A0 f0.length f0
theorem IsS145.grown {w0 W:World} {g:Nat} {f0:List Int} {f1:Int} {W1:World} {row:Option Nat} (h:IsS145 w0 W g f0 f1) (hw:W.grownBy W1 row) (hne:some g≠row):IsS145 w0 W1 g f0 f1:=by
 obtain ⟨A0,c0,hb,hg,hr0⟩:=h
 exact ⟨A0,c0,blk_grown hb hw hne,hg,hr0⟩
theorem IsS145.kept {w0 W:World} {g:Nat} {f0:List Int} {f1:Int} {W1:World} {S:Nat→Prop} (h:IsS145 w0 W g f0 f1) (hk:Kept W W1 S) (hne:¬ S g):IsS145 w0 W1 g f0 f1:=by
 obtain ⟨A0,c0,hb,hg,hr0⟩:=h
 exact ⟨A0,c0,blk_kept hb hk hne,hg,hr0⟩
theorem IsS145.below {w0 W:World} {g:Nat} {f0:List Int} {f1:Int} {W1:World} (h:IsS145 w0 W g f0 f1) (hw:Below W.heap.size W W1):IsS145 w0 W1 g f0 f1:=h.grown (grown_of_below hw none) (by simp)
theorem IsS145.alloc {w0 W:World} {g:Nat} {f0:List Int} {f1:Int} (h:IsS145 w0 W g f0 f1) (o:Obj):IsS145 w0 (W.alloc o) g f0 f1:=h.below (wA_ (Below.refl _ _) o)
theorem IsS145.drewN {w0 W:World} {g:Nat} {f0:List Int} {f1:Int} (h:IsS145 w0 W g f0 f1) (m:Nat):IsS145 w0 (W.drewN m) g f0 f1:=h
theorem IsS145.drew {w0 W:World} {g:Nat} {f0:List Int} {f1:Int} (h:IsS145 w0 W g f0 f1):IsS145 w0 W.drew g f0 f1:=h
theorem IsS145.at_ {w0 W:World} {g:Nat} {f0:List Int} {f1:Int} {w':World} {m:Nat} (hq:W.drewN m=w') (h:IsS145 w0 W g f0 f1):IsS145 w0 w' g f0 f1:=by subst hq;exact IsS145.drewN h m
theorem IsS145.lt {w0 W:World} {g:Nat} {f0:List Int} {f1:Int} (h:IsS145 w0 W g f0 f1):g < W.heap.size:=by
 obtain ⟨A0,c0,hb,hg,hr0⟩:=h
 exact blk_lt hb
theorem IsS145.ge {w0 W:World} {g:Nat} {f0:List Int} {f1:Int} (h:IsS145 w0 W g f0 f1):w0.heap.size≤g:=by
 obtain ⟨A0,c0,hb,hg,hr0⟩:=h
 exact hg
theorem IsS145.far {w0 W:World} {g:Nat} {f0:List Int} {f1:Int} {p:Addr} (h:IsS145 w0 W g f0 f1) (hne:g≠p.block) (u:Value):IsS145 w0 (W.setCell p u) g f0 f1:=by
 obtain ⟨A0,c0,hb,hg,hr0⟩:=h
 exact ⟨A0,c0,blk_far hb hne u,hg,hr0⟩
theorem cellS145_0 {W:World} {g:Nat} {A0:Option Addr} {c0:Nat} {f0:List Int} {f1:Int} (h:W.heap[g]?=some (.cells #[.slice A0 f0.length c0,.int .i64 f1] 145 (0,0))):W.cell? ⟨g,0,none⟩=some (.slice A0 f0.length c0):=(bC_ h 0).trans rfl
theorem cellS145_1 {W:World} {g:Nat} {A0:Option Addr} {c0:Nat} {f0:List Int} {f1:Int} (h:W.heap[g]?=some (.cells #[.slice A0 f0.length c0,.int .i64 f1] 145 (0,0))):W.cell? ⟨g,1,none⟩=some (.int .i64 f1):=(bC_ h 1).trans rfl
theorem IsS145.set_1 {w0 W:World} {g:Nat} {f0:List Int} {f1:Int} (h:IsS145 w0 W g f0 f1) (x:Int):IsS145 w0 (W.setCell ⟨g,1,none⟩ (.int .i64 x)) g f0 x:=by
 obtain ⟨A0,c0,hb,hg,hr0⟩:=h
 exact ⟨A0,c0,by simpa using blk_set hb 1 (.int .i64 x),hg,hr0⟩
theorem IsS145.new (w0 W:World) (A0:Option Addr) (c0:Nat) (f0:List Int) (f1:Int) (hB:Below w0.heap.size w0 W) (hr0:Kd.C (Kd.int .u8) w0 A0 f0.length f0):IsS145 w0 (W.alloc (.cells #[.slice A0 f0.length c0,.int .i64 f1] 145)) W.heap.size f0 f1:=⟨A0,c0,by simpa using heap_alloc_new W _,hB.size,hr0⟩

theorem is_HI0 {p:Prop} (h:p:=by repeat (first|(with_reducible first|exact HI0.out|apply IsS145.alloc|apply IsS145.drewN|apply IsS145.drew|apply IsS145.set_1|refine IsS145.far ?_ (Aside0.out (by assumption)) _)|exact HI0.out)):p:=h
theorem is_HI1116 {p:Prop} (h:p:=by repeat (first|(with_reducible first|exact HI1116.out|apply IsS145.alloc|apply IsS145.drewN|apply IsS145.drew|apply IsS145.set_1|refine IsS145.far ?_ (Aside0.out (by assumption)) _)|exact HI1116.out)):p:=h
def spec_l6Open.f (l0:List Int):Option (List Int×Int):=if (l0.length:Int) > 2000 then (if 2000≤(l0.length:Int) then (some (l0.take 2000,0)) else (none)) else (some (l0,0))
theorem spec_l6Open.calls (A0:Option Addr) (c0:Nat) (l0:List Int) (r1:List Int) (r2:Int) (w0 w:World) (hB:Below w0.heap.size w0 w) (hr0:Kd.C (Kd.int .u8) w0 A0 l0.length l0) (hc0:l0.length≤c0) (h:spec_l6Open.f l0=some (r1,r2)) :
  Calls Tryd.prog 72 #[.slice A0 l0.length c0] w fun e w'=>∃ g_:Nat,e=.returned (.pointer (some ⟨g_,0,none⟩))∧IsS145 w0 w' g_ r1 r2∧Below w0.heap.size w0 w'∧Below w.heap.size w w':=by
 have hu145:=Tryd.underlying145
 have HR0:=a_ hr0
 have HC0:=a_ hc0
 clear hr0 hc0
 have HBW:=a_ (Below.refl w.heap.size w)
 have HW0:=a_ hB.size
 have HB:=a_ hB
 clear hB
 unfold spec_l6Open.f at h
 have H:=h
 clear h
 by_cases c2:(l0.length:Int) > 2000
 ·rw [if_pos c2] at H
  have c2b0:decide (2000 < (l0.length:Int))=true:=dt_ c2
  have c2b1:decide (2000 < l0.length)=true:=dt_ (by omega)
  clear c2
  by_cases c3:2000≤(l0.length:Int)
  ·rw [if_pos c3] at H
   have c3b0:=eq_true c3
   have c3b1:decide (2000≤(l0.length:Int))=true:=dt_ c3
   clear c3
   simp only [Option.some.injEq,Prod.mk.injEq] at H
   obtain ⟨rfl,rfl⟩:=H
   obtain ⟨i04,hi04,_,hsz4,_⟩:=info_parts info5
   obtain ⟨hcut4,hA4,hC4⟩:=print_take_of (P:=Tryd.prog) (Value.int .u8) 0 22 5 .i64 Tryd.underlying22 hi04 hsz4 A0 c0 l0 2000 (by omega) (od_) HC0.out
   have HR101:=a_ (Kd.C_of_reads (h1:=fun _=>rfl) (hA4 _ (Kd.reads_of_C HR0.out)))
   have HC101:=a_ hC4
   clear hA4 hC4 hi04 hsz4
   go_enter Tryd.func72,Tryd.ntmps72
   go_wp2_with (first|((with_reducible refine gD_ (N:=10) rfl ?_);refine bx_ 10 (#[.slice A0 (l0.take 2000).length c0,.int .i64 0]) 145 ?_;intro gb102 hg w5 hbox hb;have n0_:=a_ (bS_ HBW.out hb);have n1_:=a_ (bS_ (bel_) hb);have n2_:=a_ (hbox);have n3_:=a_ ((by rw [hg];exact (below_size (by repeat (first|(with_reducible first|exact HBW.out|apply wA_|apply pw_below_drewN|apply below_drew1)|exact HBW.out))):w.heap.size≤gb102));have n4_:=a_ ((Nat.le_trans HW0.out (by rw [hg];exact (below_size (by repeat (first|(with_reducible first|exact HBW.out|apply wA_|apply pw_below_drewN|apply below_drew1)|exact HBW.out))):w.heap.size≤gb102):w0.heap.size≤gb102));clear HBW;clear HB;have HBW:=n0_;have HB:=n1_;have BK102:=n2_;have GW102:=n3_;have GE102:=n4_;clear n0_ n1_ n2_ n3_ n4_;clear hb hbox hg))
   go_ret
   exact ⟨_,rfl,(show IsS145 w0 _ gb102 (l0.take 2000) 0 from ⟨_,_,by (with_reducible repeat (first|refine bN_ ?_ _|refine bD_ ?_|refine bA_ ?_ _));exact BK102.out,GE102.out,HR101.out⟩),bel_,by repeat (first|(with_reducible first|exact HBW.out|apply wA_|apply pw_below_drewN|apply below_drew1|refine wS_ ?_ GW102.out)|exact HBW.out)⟩
  ·rw [if_neg c3] at H
   exact absurd H (by simp)
 ·rw [if_neg c2] at H
  have c2b0:decide (2000 < (l0.length:Int))=false:=df_ c2
  have c2b1:decide (2000 < l0.length)=false:=df_ (by omega)
  clear c2
  simp only [Option.some.injEq,Prod.mk.injEq] at H
  obtain ⟨rfl,rfl⟩:=H
  go_enter Tryd.func72,Tryd.ntmps72
  go_wp2_with (first|((with_reducible refine gD_ (N:=10) rfl ?_);refine bx_ 10 (#[.slice A0 l0.length c0,.int .i64 0]) 145 ?_;intro gb103 hg w6 hbox hb;have n0_:=a_ (bS_ HBW.out hb);have n1_:=a_ (bS_ (bel_) hb);have n2_:=a_ (hbox);have n3_:=a_ ((by rw [hg];exact (below_size (by repeat (first|(with_reducible first|exact HBW.out|apply wA_|apply pw_below_drewN|apply below_drew1)|exact HBW.out))):w.heap.size≤gb103));have n4_:=a_ ((Nat.le_trans HW0.out (by rw [hg];exact (below_size (by repeat (first|(with_reducible first|exact HBW.out|apply wA_|apply pw_below_drewN|apply below_drew1)|exact HBW.out))):w.heap.size≤gb103):w0.heap.size≤gb103));clear HBW;clear HB;have HBW:=n0_;have HB:=n1_;have BK103:=n2_;have GW103:=n3_;have GE103:=n4_;clear n0_ n1_ n2_ n3_ n4_;clear hb hbox hg))
  go_ret
  exact ⟨_,rfl,(show IsS145 w0 _ gb103 l0 0 from ⟨_,_,by (with_reducible repeat (first|refine bN_ ?_ _|refine bD_ ?_|refine bA_ ?_ _));exact BK103.out,GE103.out,HR0.out⟩),bel_,by repeat (first|(with_reducible first|exact HBW.out|apply wA_|apply pw_below_drewN|apply below_drew1|refine wS_ ?_ GW103.out)|exact HBW.out)⟩

def spec_l6Rd_pick.j0:Nat→Int→Bool→List Int→Int→Option (Int×Int)
 | 0,_,_,_,_=>none
 | k+1,x1,x24,x1000,x1001=>if x24=true then (some (0,x1001)) else (if (wrap64 (x1001 - 1)) < (x1000.length:Int) then (if 0≤(wrap64 (x1001 - 1)) then (if x1=0 then (none) else (some (Int.tmod (wrap64 (rd x1000 (wrap64 (x1001 - 1)))) x1,x1001))) else (none)) else (if (x1000.length:Int)=0 then (none) else (if 0≤(Int.tmod (wrap64 (x1001 - 1)) (x1000.length:Int)) then (if (Int.tmod (wrap64 (x1001 - 1)) (x1000.length:Int)) < (x1000.length:Int) then (if 0≤(Int.tmod (wrap64 ((wrap64 ((wrap64 (x1001 - 1)) * 7))+3)) (x1000.length:Int)) then (if (Int.tmod (wrap64 ((wrap64 ((wrap64 (x1001 - 1)) * 7))+3)) (x1000.length:Int)) < (x1000.length:Int) then (if x1=0 then (none) else (some (Int.tmod (Go.bits .xor .i64 (wrap64 ((wrap64 ((wrap64 ((wrap64 ((wrap64 (rd x1000 (Int.tmod (wrap64 (x1001 - 1)) (x1000.length:Int)))) * 131))+(wrap64 ((wrap64 (rd x1000 (Int.tmod (wrap64 ((wrap64 ((wrap64 (x1001 - 1)) * 7))+3)) (x1000.length:Int)))) * 1117))))+(wrap64 ((wrap64 (x1001 - 1)) * 29))))+(wrap64 ((wrap64 (Int.tdiv (wrap64 (x1001 - 1)) (x1000.length:Int))) * 53)))) (wrap64 (Int.tdiv (wrap64 ((wrap64 ((wrap64 ((wrap64 ((wrap64 (rd x1000 (Int.tmod (wrap64 (x1001 - 1)) (x1000.length:Int)))) * 131))+(wrap64 ((wrap64 (rd x1000 (Int.tmod (wrap64 ((wrap64 ((wrap64 (x1001 - 1)) * 7))+3)) (x1000.length:Int)))) * 1117))))+(wrap64 ((wrap64 (x1001 - 1)) * 29))))+(wrap64 ((wrap64 (Int.tdiv (wrap64 (x1001 - 1)) (x1000.length:Int))) * 53)))) 64))) x1,x1001))) else (none)) else (none)) else (none)) else (none))))
def spec_l6Rd_pick.f (k:Nat) (s0_0:List Int) (s0_1:Int) (a1:Int):Option (Int×Int):=if a1 < 1 then (spec_l6Rd_pick.j0 k a1 true s0_0 (wrap64 (s0_1+1))) else (spec_l6Rd_pick.j0 k a1 ((s0_0.length:Int)==0) s0_0 (wrap64 (s0_1+1)))
theorem spec_l6Rd_pick.mono_l:∀ k,(∀ y0 y1 y2 y3,LeO (spec_l6Rd_pick.j0 k y0 y1 y2 y3) (spec_l6Rd_pick.j0 (k+1) y0 y1 y2 y3))
 | 0=>fun _ _ _ _ r h=>by simp [spec_l6Rd_pick.j0] at h
 | k+1=>by
  have ih0:=spec_l6Rd_pick.mono_l k
  ·intro y0 y1 y2 y3
   unfold spec_l6Rd_pick.j0
   repeat' first
   | (with_reducible exact ih0 _ _ _ _)
   | (with_reducible exact LeO.refl _)
   | (with_reducible exact LeO.none _)
   | (with_reducible refine LeO.ite ?_ ?_)
   | (with_reducible refine LeO.bind ?_ (fun _=>?_))
   | exact ih0 _ _ _ _
   | exact LeO.none _
   | refine LeO.ite ?_ ?_
   | refine LeO.bind ?_ (fun _=>?_)
theorem spec_l6Rd_pick.mono:∀ a0 a1 a2 k,LeO (spec_l6Rd_pick.f k a0 a1 a2) (spec_l6Rd_pick.f (k+1) a0 a1 a2):=by
 intro a0 a1 a2 k
 have ih0:=spec_l6Rd_pick.mono_l k
 unfold spec_l6Rd_pick.f
 repeat' first
   | (with_reducible exact ih0 _ _ _ _)
   | (with_reducible exact LeO.refl _)
   | (with_reducible exact LeO.none _)
   | (with_reducible refine LeO.ite ?_ ?_)
   | (with_reducible refine LeO.bind ?_ (fun _=>?_))
   | exact ih0 _ _ _ _
   | exact LeO.none _
   | refine LeO.ite ?_ ?_
   | refine LeO.bind ?_ (fun _=>?_)
theorem spec_l6Rd_pick.calls (k:Nat) (g:Nat) (s0_0:List Int) (s0_1:Int) (a1:Int) (r1:Int) (r2:Int) (w0 w:World) (hI:IsS145 w0 w g s0_0 s0_1) (hB:Below w0.heap.size w0 w) (h:spec_l6Rd_pick.f k s0_0 s0_1 a1=some (r1,r2)) :
  Calls Tryd.prog 74 #[.pointer (some ⟨g,0,none⟩),.int .i64 a1] w fun e w'=>e=.returned (.int .i64 r1)∧IsS145 w0 w' g s0_0 r2∧Below w0.heap.size w0 w'∧KeepBut w w' g none:=by
 have HI0:=a_ hI
 have HK:=a_ (KeepBut.refl w g none)
 have HL:=a_ hB.size
 clear hI
 have HW0:=a_ hB.size
 have HB:=a_ hB
 clear hB
 unfold spec_l6Rd_pick.f at h
 have H:=h
 clear h
 have HC3:=a_ H
 clear H
 obtain ⟨ASz4_0,cSz4_0,HGz4,hgz4,HSz4_0⟩:=HI0.out
 have Z4_0:=cellS145_0 HGz4
 have Z4_1:=cellS145_1 HGz4
 have Y4_1:=bF_ HGz4 1
 clear HGz4 hgz4
 go_enter Tryd.func74,Tryd.ntmps74
 go_upto_region 2 with (fail)
 repeat (go_quiet (fail);go_upto_region 2 with (fail))
 go_cut [24] (fun v24 wc=>∃ (kq:Nat) (x24_2:Bool),v24=.bool x24_2∧Aside0 (spec_l6Rd_pick.j0 kq a1 x24_2 s0_0 (wrap64 (s0_1+1))=some (r1,r2))∧Aside0 (kq≤k)∧Aside0 (IsS145 w0 wc g s0_0 (wrap64 (s0_1+1)))∧Aside0 (KeepBut w wc g none)∧Aside0 (Below w0.heap.size w0 wc))
 case first =>
  have H:=HC3.out
  clear HC3
  by_cases c5:a1 < 1
  ·rw [if_pos c5] at H
   have c5b0:decide (a1 < 1)=true:=dt_ c5
   clear c5
   (first|rw [c5b0]|(simp only [i64_w,i32_w];rw [c5b0])|skip)
   have H':=a_ H
   clear H
   go_wp2
   repeat (go_quiet (fail);try go_wp2)
   go_meet
   case rel=>exact ⟨_,(true),(si_),H',⟨by first|omega|exact Nat.le_refl _⟩,⟨is_HI0⟩,⟨ke_⟩,⟨bel_⟩⟩
  ·rw [if_neg c5] at H
   have c5b0:decide (a1 < 1)=false:=df_ c5
   clear c5
   (first|rw [c5b0]|(simp only [i64_w,i32_w];rw [c5b0])|skip)
   have H':=a_ H
   clear H
   obtain ⟨ASz6_0,cSz6_0,HGz6,hgz6,HSz6_0⟩:=HI0.out
   have Z6_0:=cellS145_0 HGz6
   have Z6_1:=cellS145_1 HGz6
   have Y6_1:=bF_ HGz6 1
   clear HGz6 hgz6
   go_wp2
   repeat (go_quiet (fail);try go_wp2)
   go_meet
   case rel=>exact ⟨_,(((s0_0.length:Int)==0)),(si_),H',⟨by first|omega|exact Nat.le_refl _⟩,⟨is_HI0⟩,⟨ke_⟩,⟨bel_⟩⟩
 case rest =>
  clear HC3
  try clear p2
  try clear c5
  try clear c5b0
  try clear p6
  try clear Z4_0
  try clear Z4_1
  try clear Z6_0
  try clear Z6_1
  try clear Y4_1
  try clear Y6_1
  obtain ⟨kq,x24_2,rfl,HA,HJ2,HI0,HK,HB⟩:=hcut
  cases kq with
  | zero=>exact absurd HA.out (by simp [spec_l6Rd_pick.j0])
  | succ kj2 =>
   have H:=HA.out
   clear HA
   simp only [spec_l6Rd_pick.j0] at H
   by_cases c7:x24_2=true
   ·subst c7
    have H1:(some (0,(wrap64 (s0_1+1))))=some (r1,r2):=by rw [if_pos rfl] at H;exact H
    clear H
    have H:=H1
    clear H1
    simp only [Option.some.injEq,Prod.mk.injEq] at H
    obtain ⟨rfl,rfl⟩:=H
    go_wp2
    repeat (go_quiet (fail);try go_wp2)
    go_ret
    exact ⟨fi_,is_HI0,bel_,ke_⟩
   ·replace c7:=Bool.eq_false_iff.mpr c7
    subst c7
    have H1:(if (wrap64 ((wrap64 (s0_1+1)) - 1)) < (s0_0.length:Int) then (if 0≤(wrap64 ((wrap64 (s0_1+1)) - 1)) then (if a1=0 then (none) else (some (Int.tmod (wrap64 (rd s0_0 (wrap64 ((wrap64 (s0_1+1)) - 1)))) a1,(wrap64 (s0_1+1))))) else (none)) else (if (s0_0.length:Int)=0 then (none) else (if 0≤(Int.tmod (wrap64 ((wrap64 (s0_1+1)) - 1)) (s0_0.length:Int)) then (if (Int.tmod (wrap64 ((wrap64 (s0_1+1)) - 1)) (s0_0.length:Int)) < (s0_0.length:Int) then (if 0≤(Int.tmod (wrap64 ((wrap64 ((wrap64 ((wrap64 (s0_1+1)) - 1)) * 7))+3)) (s0_0.length:Int)) then (if (Int.tmod (wrap64 ((wrap64 ((wrap64 ((wrap64 (s0_1+1)) - 1)) * 7))+3)) (s0_0.length:Int)) < (s0_0.length:Int) then (if a1=0 then (none) else (some (Int.tmod (Go.bits .xor .i64 (wrap64 ((wrap64 ((wrap64 ((wrap64 ((wrap64 (rd s0_0 (Int.tmod (wrap64 ((wrap64 (s0_1+1)) - 1)) (s0_0.length:Int)))) * 131))+(wrap64 ((wrap64 (rd s0_0 (Int.tmod (wrap64 ((wrap64 ((wrap64 ((wrap64 (s0_1+1)) - 1)) * 7))+3)) (s0_0.length:Int)))) * 1117))))+(wrap64 ((wrap64 ((wrap64 (s0_1+1)) - 1)) * 29))))+(wrap64 ((wrap64 (Int.tdiv (wrap64 ((wrap64 (s0_1+1)) - 1)) (s0_0.length:Int))) * 53)))) (wrap64 (Int.tdiv (wrap64 ((wrap64 ((wrap64 ((wrap64 ((wrap64 (rd s0_0 (Int.tmod (wrap64 ((wrap64 (s0_1+1)) - 1)) (s0_0.length:Int)))) * 131))+(wrap64 ((wrap64 (rd s0_0 (Int.tmod (wrap64 ((wrap64 ((wrap64 ((wrap64 (s0_1+1)) - 1)) * 7))+3)) (s0_0.length:Int)))) * 1117))))+(wrap64 ((wrap64 ((wrap64 (s0_1+1)) - 1)) * 29))))+(wrap64 ((wrap64 (Int.tdiv (wrap64 ((wrap64 (s0_1+1)) - 1)) (s0_0.length:Int))) * 53)))) 64))) a1,(wrap64 (s0_1+1))))) else (none)) else (none)) else (none)) else (none))))=some (r1,r2):=by rw [if_neg (show ¬ (false=true) by decide)] at H;exact H
    clear H
    have H:=H1
    clear H1
    by_cases c8:(wrap64 ((wrap64 (s0_1+1)) - 1)) < (s0_0.length:Int)
    ·rw [if_pos c8] at H
     have c8b0:decide ((wrap64 ((wrap64 (s0_1+1)) - 1)) < (s0_0.length:Int))=true:=dt_ c8
     clear c8
     obtain ⟨ji9,hji9⟩:∃ j_:Int,(wrap64 ((wrap64 (s0_1+1)) - 1))=j_:=⟨_,rfl⟩
     replace H:(if 0≤(ji9) then (if a1=0 then (none) else (some (Int.tmod (wrap64 (rd s0_0 (ji9))) a1,(wrap64 (s0_1+1))))) else (none))=some (r1,r2):=by first|(rw [hji9] at H;exact H)|(simp only [hji9] at H ⊢;exact H)
     (try rw [hji9] at c8b0)
     have hji9w:(IntKind.i64.wrap ((wrap64 (s0_1+1)) - 1))=ji9:=(i64_w _).trans hji9
     by_cases c10:0≤(ji9)
     ·rw [if_pos c10] at H
      have c10b0:decide (0≤(ji9))=true:=dt_ c10
      clear c10
      by_cases c11:a1=0
      ·rw [if_pos c11] at H
       exact absurd H (by simp)
      ·rw [if_neg c11] at H
       have c11b0:(a1==0)=false:=bn_ c11
       have c11b1:(a1 != 0)=true:=bne_iff_ne.mpr c11
       simp only [Option.some.injEq,Prod.mk.injEq] at H
       obtain ⟨rfl,rfl⟩:=H
       obtain ⟨ASz12_0,cSz12_0,HGz12,hgz12,HSz12_0⟩:=HI0.out
       have Z12_0:=cellS145_0 HGz12
       have Z12_1:=cellS145_1 HGz12
       have Y12_1:=bF_ HGz12 1
       clear HGz12 hgz12
       have p104:0≤((ji9):Int):=od_
       have q104:(ji9) < (s0_0.length:Int):=od_
       obtain ⟨ad104,e104,hx104_0⟩:=Kd.at_int HSz12_0 (ji9) p104 q104
       cases e104
       replace hx104_0:=pw_cell_below HB.out hx104_0
       replace p104:=eq_true p104
       replace q104:=eq_true q104
       go_wp2
       repeat (go_quiet (fail);try go_wp2)
       go_ret
       exact ⟨by first|rfl|(simp [errW_none,errW_some] <;> rfl)|(simp only [←hji9];first|rfl|(simp [errW_none,errW_some] <;> rfl))|(simp [*,errW_none,errW_some] <;> rfl),is_HI0,bel_,ke_⟩
     ·rw [if_neg c10] at H
      exact absurd H (by simp)
    ·rw [if_neg c8] at H
     have c8b0:decide ((wrap64 ((wrap64 (s0_1+1)) - 1)) < (s0_0.length:Int))=false:=df_ c8
     clear c8
     by_cases c13:(s0_0.length:Int)=0
     ·rw [if_pos c13] at H
      exact absurd H (by simp)
     ·rw [if_neg c13] at H
      have c13b0:((s0_0.length:Int)==0)=false:=bn_ c13
      have c13b1:((s0_0.length:Int) != 0)=true:=bne_iff_ne.mpr c13
      have c13b2:¬ (s0_0=[]):=fun h_=>c13 (by rw [h_];rfl)
      obtain ⟨ji14,hji14⟩:∃ j_:Int,(Int.tmod (wrap64 ((wrap64 (s0_1+1)) - 1)) (s0_0.length:Int))=j_:=⟨_,rfl⟩
      replace H:(if 0≤(ji14) then (if (ji14) < (s0_0.length:Int) then (if 0≤(Int.tmod (wrap64 ((wrap64 ((wrap64 ((wrap64 (s0_1+1)) - 1)) * 7))+3)) (s0_0.length:Int)) then (if (Int.tmod (wrap64 ((wrap64 ((wrap64 ((wrap64 (s0_1+1)) - 1)) * 7))+3)) (s0_0.length:Int)) < (s0_0.length:Int) then (if a1=0 then (none) else (some (Int.tmod (Go.bits .xor .i64 (wrap64 ((wrap64 ((wrap64 ((wrap64 ((wrap64 (rd s0_0 (ji14))) * 131))+(wrap64 ((wrap64 (rd s0_0 (Int.tmod (wrap64 ((wrap64 ((wrap64 ((wrap64 (s0_1+1)) - 1)) * 7))+3)) (s0_0.length:Int)))) * 1117))))+(wrap64 ((wrap64 ((wrap64 (s0_1+1)) - 1)) * 29))))+(wrap64 ((wrap64 (Int.tdiv (wrap64 ((wrap64 (s0_1+1)) - 1)) (s0_0.length:Int))) * 53)))) (wrap64 (Int.tdiv (wrap64 ((wrap64 ((wrap64 ((wrap64 ((wrap64 (rd s0_0 (ji14))) * 131))+(wrap64 ((wrap64 (rd s0_0 (Int.tmod (wrap64 ((wrap64 ((wrap64 ((wrap64 (s0_1+1)) - 1)) * 7))+3)) (s0_0.length:Int)))) * 1117))))+(wrap64 ((wrap64 ((wrap64 (s0_1+1)) - 1)) * 29))))+(wrap64 ((wrap64 (Int.tdiv (wrap64 ((wrap64 (s0_1+1)) - 1)) (s0_0.length:Int))) * 53)))) 64))) a1,(wrap64 (s0_1+1))))) else (none)) else (none)) else (none)) else (none))=some (r1,r2):=by first|(rw [hji14] at H;exact H)|(simp only [hji14] at H ⊢;exact H)
      by_cases c15:0≤(ji14)
      ·rw [if_pos c15] at H
       have c15b0:decide (0≤(ji14))=true:=dt_ c15
       clear c15
       by_cases c16:(ji14) < (s0_0.length:Int)
       ·rw [if_pos c16] at H
        have c16b0:decide ((ji14) < (s0_0.length:Int))=true:=dt_ c16
        clear c16
        obtain ⟨ji17,hji17⟩:∃ j_:Int,(Int.tmod (wrap64 ((wrap64 ((wrap64 ((wrap64 (s0_1+1)) - 1)) * 7))+3)) (s0_0.length:Int))=j_:=⟨_,rfl⟩
        replace H:(if 0≤(ji17) then (if (ji17) < (s0_0.length:Int) then (if a1=0 then (none) else (some (Int.tmod (Go.bits .xor .i64 (wrap64 ((wrap64 ((wrap64 ((wrap64 ((wrap64 (rd s0_0 (ji14))) * 131))+(wrap64 ((wrap64 (rd s0_0 (ji17))) * 1117))))+(wrap64 ((wrap64 ((wrap64 (s0_1+1)) - 1)) * 29))))+(wrap64 ((wrap64 (Int.tdiv (wrap64 ((wrap64 (s0_1+1)) - 1)) (s0_0.length:Int))) * 53)))) (wrap64 (Int.tdiv (wrap64 ((wrap64 ((wrap64 ((wrap64 ((wrap64 (rd s0_0 (ji14))) * 131))+(wrap64 ((wrap64 (rd s0_0 (ji17))) * 1117))))+(wrap64 ((wrap64 ((wrap64 (s0_1+1)) - 1)) * 29))))+(wrap64 ((wrap64 (Int.tdiv (wrap64 ((wrap64 (s0_1+1)) - 1)) (s0_0.length:Int))) * 53)))) 64))) a1,(wrap64 (s0_1+1))))) else (none)) else (none))=some (r1,r2):=by first|(rw [hji17] at H;exact H)|(simp only [hji17] at H ⊢;exact H)
        by_cases c18:0≤(ji17)
        ·rw [if_pos c18] at H
         have c18b0:decide (0≤(ji17))=true:=dt_ c18
         clear c18
         by_cases c19:(ji17) < (s0_0.length:Int)
         ·rw [if_pos c19] at H
          have c19b0:decide ((ji17) < (s0_0.length:Int))=true:=dt_ c19
          clear c19
          by_cases c20:a1=0
          ·rw [if_pos c20] at H
           exact absurd H (by simp)
          ·rw [if_neg c20] at H
           have c20b0:(a1==0)=false:=bn_ c20
           have c20b1:(a1 != 0)=true:=bne_iff_ne.mpr c20
           simp only [Option.some.injEq,Prod.mk.injEq] at H
           obtain ⟨rfl,rfl⟩:=H
           obtain ⟨ASz21_0,cSz21_0,HGz21,hgz21,HSz21_0⟩:=HI0.out
           have Z21_0:=cellS145_0 HGz21
           have Z21_1:=cellS145_1 HGz21
           have Y21_1:=bF_ HGz21 1
           clear HGz21 hgz21
           have p105:0≤((ji14):Int):=od_
           have q105:(ji14) < (s0_0.length:Int):=od_
           obtain ⟨ad105,e105,hx105_0⟩:=Kd.at_int HSz21_0 (ji14) p105 q105
           cases e105
           replace hx105_0:=pw_cell_below HB.out hx105_0
           replace p105:=eq_true p105
           replace q105:=eq_true q105
           have p106:0≤((ji17):Int):=od_
           have q106:(ji17) < (s0_0.length:Int):=od_
           obtain ⟨ad106,e106,hx106_0⟩:=Kd.at_int HSz21_0 (ji17) p106 q106
           obtain rfl:ad105=ad106:=(by injection e106)
           replace hx106_0:=pw_cell_below HB.out hx106_0
           replace p106:=eq_true p106
           replace q106:=eq_true q106
           go_wp2
           repeat (go_quiet (fail);try go_wp2)
           go_ret
           exact ⟨by first|rfl|(simp [errW_none,errW_some] <;> rfl)|(simp only [←hji14,←hji17];first|rfl|(simp [errW_none,errW_some] <;> rfl))|(simp [*,errW_none,errW_some] <;> rfl),is_HI0,bel_,ke_⟩
         ·rw [if_neg c19] at H
          exact absurd H (by simp)
        ·rw [if_neg c18] at H
         exact absurd H (by simp)
       ·rw [if_neg c16] at H
        exact absurd H (by simp)
      ·rw [if_neg c15] at H
       exact absurd H (by simp)

def spec_TreeNew.f  : Option ((List (S69))):=some (([(⟨1,0,(⟨#[]⟩:ByteArray)⟩:S69),(⟨2,0,(⟨#[]⟩:ByteArray)⟩:S69),(⟨3,0,(⟨#[]⟩:ByteArray)⟩:S69)]:List (S69)))
theorem spec_TreeNew.calls  (r:List (S69)) (w:World) (h:spec_TreeNew.f  = some r) :
  Calls Tryd.prog 100 #[] w fun e w'=>∃ v0_:Value,e=.returned (v0_)∧Kd.R k69 69 w' w.heap.size (fun _=>True) v0_ r∧Below w.heap.size w w':=by
 have hu69:=Tryd.underlying69
 have HB:=a_ (Below.refl w.heap.size w)
 unfold spec_TreeNew.f at h
 have H:=h
 clear h
 obtain ⟨y163,hy163⟩:∃ y_:List (S69),y_=(([(⟨1,0,(⟨#[]⟩:ByteArray)⟩:S69),(⟨2,0,(⟨#[]⟩:ByteArray)⟩:S69),(⟨3,0,(⟨#[]⟩:ByteArray)⟩:S69)]:List (S69))):=⟨_,rfl⟩
 replace H:(some y163)=some r:=by first|(rw [hy163];with_reducible exact H)|(have H2_:=(Option.bind_some _ _).symm.trans H;rw [hy163];with_reducible exact H2_)|(have H2_:=(Option.bind_some _ _).symm.trans H;with_reducible exact H2_)|with_reducible exact H|(rw [hy163];exact H)|exact H
 have Ny163:=a_ hy163
 clear hy163
 obtain rfl:=sj_ H
 go_enter Tryd.func100,Tryd.ntmps100
 go_wp2_with (first|((with_reducible refine gD_ (N:=4) rfl ?_);refine Kd.R_lit k69 _ 69 ?hg (N:=4) ?hd (xs:=([(⟨1,0,(⟨#[]⟩:ByteArray)⟩:S69),(⟨2,0,(⟨#[]⟩:ByteArray)⟩:S69),(⟨3,0,(⟨#[]⟩:ByteArray)⟩:S69)]:List (S69))) (inner:=[.int .i64 1,.int .i64 0,.string (⟨#[]⟩:ByteArray),.int .i64 2,.int .i64 0,.string (⟨#[]⟩:ByteArray),.int .i64 3,.int .i64 0,.string (⟨#[]⟩:ByteArray)]) (ok:=fun _=>True) (okp:=fun _=>True) ?hr ?hp (fun _ hk=>hk) trivial (Below.refl _ _) (Nat.le_refl _) (by simp) ?_;(case hd=>rfl);(case hg=>rfl);(case hr=>first|(go_simp;done)|(go_simp;rfl));(case hp=>exact (Reps.c3 (show Kd.M k69 _ _ _ (⟨1,0,(⟨#[]⟩:ByteArray)⟩:S69) [.int .i64 1,.int .i64 0,.string (⟨#[]⟩:ByteArray)] from (k69_mkM _ _ _ (⟨1,0,(⟨#[]⟩:ByteArray)⟩:S69) )) (Reps.c3 (show Kd.M k69 _ _ _ (⟨2,0,(⟨#[]⟩:ByteArray)⟩:S69) [.int .i64 2,.int .i64 0,.string (⟨#[]⟩:ByteArray)] from (k69_mkM _ _ _ (⟨2,0,(⟨#[]⟩:ByteArray)⟩:S69) )) (Reps.c3 (show Kd.M k69 _ _ _ (⟨3,0,(⟨#[]⟩:ByteArray)⟩:S69) [.int .i64 3,.int .i64 0,.string (⟨#[]⟩:ByteArray)] from (k69_mkM _ _ _ (⟨3,0,(⟨#[]⟩:ByteArray)⟩:S69) )) (Reps.none _ _)))));intro v164 w1 ho2 hb hg_ hnew_;clear hg_ hnew_;(first|rw [←Ny163.out] at ho2|(simp only [Int.reduceToNat] at ho2;rw [←Ny163.out] at ho2));have HO165:=a_ (Kd.R_lower ho2 (below_size (bel_)));replace HB:=a_ (bS_ (bel_) hb);clear hb ho2))
 go_ret
 exact ⟨_,fi_,by (with_reducible repeat (first|apply Kd.R_alloc|apply Kd.R_drewN|apply Kd.R_drew));exact HO165.out,bel_⟩

def spec_l6In.f (a0:Int) (a1:Int) (a2:Int):Option (Bool):=if a0≥a1 then (some (decide (a0≤a2))) else (some false)
theorem spec_l6In.calls (a0:Int) (a1:Int) (a2:Int) (r:Bool) (w:World) (h:spec_l6In.f a0 a1 a2=some r) :
  Calls Tryd.prog 75 #[.int .i64 a0,.int .i64 a1,.int .i64 a2] w fun e w'=>e=.returned (.bool r)∧Drawn0 w w':=by
 unfold spec_l6In.f at h
 have H:=h
 clear h
 by_cases c4:a0≥a1
 ·rw [if_pos c4] at H
  have c4b0:decide (a1≤a0)=true:=dt_ c4
  clear c4
  obtain rfl:=sj_ H
  go_enter Tryd.func75,Tryd.ntmps75
  go_wp2
  go_ret
  exact ⟨si_,by repeat (first|exact Drawn0.refl _|apply Drawn0.step)⟩
 ·rw [if_neg c4] at H
  have c4b0:decide (a1≤a0)=false:=df_ c4
  clear c4
  obtain rfl:=sj_ H
  go_enter Tryd.func75,Tryd.ntmps75
  go_wp2
  go_ret
  exact ⟨si_,by repeat (first|exact Drawn0.refl _|apply Drawn0.step)⟩

def impl_whoOk.f (a0:Int):Option (Bool):=if a0≥1 then (some (decide (a0≤3))) else (some false)
theorem impl_whoOk.calls (a0:Int) (r:Bool) (w:World) (h:impl_whoOk.f a0=some r) :
  Calls Tryd.prog 104 #[.int .i64 a0] w fun e w'=>e=.returned (.bool r)∧Drawn0 w w':=by
 unfold impl_whoOk.f at h
 have H:=h
 clear h
 by_cases c2:a0≥1
 ·rw [if_pos c2] at H
  have c2b0:decide (1≤a0)=true:=dt_ c2
  clear c2
  obtain rfl:=sj_ H
  go_enter Tryd.func104,Tryd.ntmps104
  go_wp2
  go_ret
  exact ⟨si_,by repeat (first|exact Drawn0.refl _|apply Drawn0.step)⟩
 ·rw [if_neg c2] at H
  have c2b0:decide (1≤a0)=false:=df_ c2
  clear c2
  obtain rfl:=sj_ H
  go_enter Tryd.func104,Tryd.ntmps104
  go_wp2
  go_ret
  exact ⟨si_,by repeat (first|exact Drawn0.refl _|apply Drawn0.step)⟩

end Go.Proofs.YtdpklbomhdpimaaDoor.P
namespace Go.Proofs.YtdpklbomhdpimaaDoor.P
open Go.RowKit Go.Proofs.YtdpklbomhdpimaaDoorW.PrintWords Go.Proofs.YtdpklbomhdpimaaDoorW.PrintLast Go.Proofs.YtdpklbomhdpimaaDoorW.PrintMore
theorem quiet_d {P:Program} {f:FuncId} {args:Array Value} {w:World} {d n:Nat} {v:Value} (h:Calls P f args (w.drewN (d+n)) fun e w'=>e=.returned v∧Drawn0 (w.drewN (d+n)) w') :
  Calls P f args (w.drewN (d+n)) fun e w''=>e=.returned v∧∃ m,w''=w.drewN (d+m) :=
 h.mono fun _ _ ⟨he,⟨m,hm⟩⟩=>⟨he,n+m,by rw [hm,World.drewN_drewN,Nat.add_assoc]⟩
def impl_changeOf.f (k:Nat) (a0 a1 a2 a3:Int) (a4:ByteArray):Option Bool :=
 (impl_isMade.f a1).bind fun m=>if m=true then
  (if a0=1 then ((impl_placeOk.f a2 a3).bind fun p=>if p=true then impl_textOk.f k a4 else some false)
  else if a0=2 then (if a2=0 then (if a3=0 then impl_textOk.f k a4 else some false) else some false)
  else if a0=3 then ((impl_placeOk.f a2 a3).bind fun p=>if p=true then some (a4.toList.isEmpty) else some false)
  else some false) else some false
theorem impl_changeOf.mono (a0 a1 a2 a3:Int) (a4:ByteArray) (k:Nat):LeO (impl_changeOf.f k a0 a1 a2 a3 a4) (impl_changeOf.f (k+1) a0 a1 a2 a3 a4):=by
 unfold impl_changeOf.f
 repeat' first
   | (with_reducible exact impl_textOk.mono _ _)
   | (with_reducible exact LeO.refl _)
   | (with_reducible refine LeO.ite ?_ ?_)
   | (with_reducible refine LeO.bind ?_ (fun _=>?_))
def ChV (a0 a1 a2 a3:Int) (a4:ByteArray):Value :=
 if a0=1 then .iface 156 (.agg #[.int .i64 a1,.int .i64 a2,.int .i64 a3,.string a4])
 else if a0=2 then .iface 159 (.agg #[.int .i64 a1,.string a4])
 else .iface 161 (.agg #[.int .i64 a1,.int .i64 a2,.int .i64 a3])
def ChPost (w:World) (a0 a1 a2 a3:Int) (a4:ByteArray) (r:Bool) (e:Ending) (w':World):Prop :=
 ∃ v:Value,e=.returned (.tuple #[v,.bool r])∧(r=true→v=ChV a0 a1 a2 a3 a4)∧Below w.heap.size w w'
theorem below_box0 (w:World) (o:Obj):Below w.heap.size w (w.alloc o):=(Below.refl _ _).alloc (Nat.le_refl _) _
theorem changeOf_unmade (a0 a1 a2 a3:Int) (a4:ByteArray) (w:World) (hm:impl_isMade.f a1=some false) (hG:Glob w) :
  Calls Tryd.prog 92 #[.agg #[.int .i64 a0,.int .i64 a1,.int .i64 a2,.int .i64 a3,.string a4]] w (ChPost w a0 a1 a2 a3 a4 false):=by
 have hGa:Glob (w.alloc (.cells #[.int .i64 a0,.int .i64 a1,.int .i64 a2,.int .i64 a3,.string a4] 42)):=hG.below (below_box0 w _)
 have HG:=a_ hGa
 clear hGa hG
 have Hm:=a_ hm
 clear hm
 go_enter Tryd.func92,Tryd.ntmps92
 go_wp2_with (go_at_call 127;refine (impl_isMade.calls a1 _ _ Hm.out HG.out).mono ?_;rintro e w' ⟨rfl,⟨nd,rfl⟩⟩)
 go_ret2
 exact ⟨_,rfl,(fun h=>by cases h),by (with_reducible repeat (first|exact below_box0 w _|apply pw_below_drewN))⟩
theorem changeOf_make (k:Nat) (a0 a1 a2 a3:Int) (a4:ByteArray) (r:Bool) (w:World) (hm:impl_isMade.f a1=some true) (hp:impl_placeOk.f a2 a3=some true) (ht:impl_textOk.f k a4=some r) (h0:a0=1) (hG:Glob w) :
  Calls Tryd.prog 92 #[.agg #[.int .i64 a0,.int .i64 a1,.int .i64 a2,.int .i64 a3,.string a4]] w (ChPost w a0 a1 a2 a3 a4 r):=by
 have hGa:Glob (w.alloc (.cells #[.int .i64 a0,.int .i64 a1,.int .i64 a2,.int .i64 a3,.string a4] 42)):=hG.below (below_box0 w _)
 have HG:=a_ hGa
 clear hGa hG
 subst h0
 have Hm:=a_ hm
 have Hp:=a_ hp
 have Ht:=a_ ht
 clear hm hp ht
 go_enter Tryd.func92,Tryd.ntmps92
 go_wp2_with (go_at_call 127;refine (impl_isMade.calls a1 _ _ Hm.out HG.out).mono ?_;rintro e w' ⟨rfl,⟨nd,rfl⟩⟩)
 go_quiet ((first|(go_at_call 128;refine quiet_d (impl_placeOk.calls a2 a3 true _ Hp.out (by (with_reducible repeat (first|exact HG.out|apply Glob.drewN|apply Glob.drew)))))|(go_at_call 129;refine quiet_d (impl_textOk.calls k a4 r _ Ht.out))))
 go_wp2
 go_ret2
 exact ⟨_,rfl,fun _=>rfl,by (with_reducible repeat (first|exact below_box0 w _|apply pw_below_drewN))⟩
theorem changeOf_make_no (a0 a1 a2 a3:Int) (a4:ByteArray) (w:World) (hm:impl_isMade.f a1=some true) (hp:impl_placeOk.f a2 a3=some false) (h0:a0=1) (hG:Glob w) :
  Calls Tryd.prog 92 #[.agg #[.int .i64 a0,.int .i64 a1,.int .i64 a2,.int .i64 a3,.string a4]] w (ChPost w a0 a1 a2 a3 a4 false):=by
 have hGa:Glob (w.alloc (.cells #[.int .i64 a0,.int .i64 a1,.int .i64 a2,.int .i64 a3,.string a4] 42)):=hG.below (below_box0 w _)
 have HG:=a_ hGa
 clear hGa hG
 subst h0
 have Hm:=a_ hm
 have Hp:=a_ hp
 clear hm hp
 go_enter Tryd.func92,Tryd.ntmps92
 go_wp2_with (go_at_call 127;refine (impl_isMade.calls a1 _ _ Hm.out HG.out).mono ?_;rintro e w' ⟨rfl,⟨nd,rfl⟩⟩)
 go_quiet ((go_at_call 128;refine quiet_d (impl_placeOk.calls a2 a3 false _ Hp.out (by (with_reducible repeat (first|exact HG.out|apply Glob.drewN|apply Glob.drew))))))
 go_wp2
 go_ret2
 exact ⟨_,rfl,(fun h=>by cases h),by (with_reducible repeat (first|exact below_box0 w _|apply pw_below_drewN))⟩
theorem changeOf_text (k:Nat) (a0 a1 a2 a3:Int) (a4:ByteArray) (r:Bool) (w:World) (hm:impl_isMade.f a1=some true) (h2:a2=0) (h3:a3=0) (ht:impl_textOk.f k a4=some r) (h0:a0=2) (hG:Glob w) :
  Calls Tryd.prog 92 #[.agg #[.int .i64 a0,.int .i64 a1,.int .i64 a2,.int .i64 a3,.string a4]] w (ChPost w a0 a1 a2 a3 a4 r):=by
 have hGa:Glob (w.alloc (.cells #[.int .i64 a0,.int .i64 a1,.int .i64 a2,.int .i64 a3,.string a4] 42)):=hG.below (below_box0 w _)
 have HG:=a_ hGa
 clear hGa hG
 subst h0 h2 h3
 have Hm:=a_ hm
 have Ht:=a_ ht
 clear hm ht
 go_enter Tryd.func92,Tryd.ntmps92
 go_wp2_with (go_at_call 127;refine (impl_isMade.calls a1 _ _ Hm.out HG.out).mono ?_;rintro e w' ⟨rfl,⟨nd,rfl⟩⟩)
 go_quiet ((go_at_call 129;refine quiet_d (impl_textOk.calls k a4 r _ Ht.out)))
 go_wp2
 go_ret2
 exact ⟨_,rfl,fun _=>rfl,by (with_reducible repeat (first|exact below_box0 w _|apply pw_below_drewN))⟩
theorem changeOf_text_no2 (a0 a1 a2 a3:Int) (a4:ByteArray) (w:World) (hm:impl_isMade.f a1=some true) (h2:a2≠0) (h0:a0=2) (hG:Glob w) :
  Calls Tryd.prog 92 #[.agg #[.int .i64 a0,.int .i64 a1,.int .i64 a2,.int .i64 a3,.string a4]] w (ChPost w a0 a1 a2 a3 a4 false):=by
 have hGa:Glob (w.alloc (.cells #[.int .i64 a0,.int .i64 a1,.int .i64 a2,.int .i64 a3,.string a4] 42)):=hG.below (below_box0 w _)
 have HG:=a_ hGa
 clear hGa hG
 subst h0
 have e2:(a2==0)=false:=beq_eq_false_iff_ne.2 h2
 clear h2
 have Hm:=a_ hm
 clear hm
 go_enter Tryd.func92,Tryd.ntmps92
 go_wp2_with (go_at_call 127;refine (impl_isMade.calls a1 _ _ Hm.out HG.out).mono ?_;rintro e w' ⟨rfl,⟨nd,rfl⟩⟩)
 go_quiet (fail)
 go_wp2
 go_ret2
 exact ⟨_,rfl,(fun h=>by cases h),by (with_reducible repeat (first|exact below_box0 w _|apply pw_below_drewN))⟩
theorem changeOf_text_no3 (a0 a1 a2 a3:Int) (a4:ByteArray) (w:World) (hm:impl_isMade.f a1=some true) (h2:a2=0) (h3:a3≠0) (h0:a0=2) (hG:Glob w) :
  Calls Tryd.prog 92 #[.agg #[.int .i64 a0,.int .i64 a1,.int .i64 a2,.int .i64 a3,.string a4]] w (ChPost w a0 a1 a2 a3 a4 false):=by
 have hGa:Glob (w.alloc (.cells #[.int .i64 a0,.int .i64 a1,.int .i64 a2,.int .i64 a3,.string a4] 42)):=hG.below (below_box0 w _)
 have HG:=a_ hGa
 clear hGa hG
 subst h0 h2
 have e3:(a3==0)=false:=beq_eq_false_iff_ne.2 h3
 clear h3
 have Hm:=a_ hm
 clear hm
 go_enter Tryd.func92,Tryd.ntmps92
 go_wp2_with (go_at_call 127;refine (impl_isMade.calls a1 _ _ Hm.out HG.out).mono ?_;rintro e w' ⟨rfl,⟨nd,rfl⟩⟩)
 go_quiet (fail)
 go_wp2
 go_ret2
 exact ⟨_,rfl,(fun h=>by cases h),by (with_reducible repeat (first|exact below_box0 w _|apply pw_below_drewN))⟩
theorem changeOf_move (a0 a1 a2 a3:Int) (a4:ByteArray) (w:World) (hm:impl_isMade.f a1=some true) (hp:impl_placeOk.f a2 a3=some true) (h0:a0=3) (hG:Glob w) :
  Calls Tryd.prog 92 #[.agg #[.int .i64 a0,.int .i64 a1,.int .i64 a2,.int .i64 a3,.string a4]] w (ChPost w a0 a1 a2 a3 a4 a4.toList.isEmpty):=by
 have hGa:Glob (w.alloc (.cells #[.int .i64 a0,.int .i64 a1,.int .i64 a2,.int .i64 a3,.string a4] 42)):=hG.below (below_box0 w _)
 have HG:=a_ hGa
 clear hGa hG
 subst h0
 have Hm:=a_ hm
 have Hp:=a_ hp
 clear hm hp
 go_enter Tryd.func92,Tryd.ntmps92
 go_wp2_with (go_at_call 127;refine (impl_isMade.calls a1 _ _ Hm.out HG.out).mono ?_;rintro e w' ⟨rfl,⟨nd,rfl⟩⟩)
 go_quiet ((go_at_call 128;refine quiet_d (impl_placeOk.calls a2 a3 true _ Hp.out (by (with_reducible repeat (first|exact HG.out|apply Glob.drewN|apply Glob.drew))))))
 go_wp2
 go_ret2
 exact ⟨_,rfl,fun _=>rfl,by (with_reducible repeat (first|exact below_box0 w _|apply pw_below_drewN))⟩
theorem changeOf_move_no (a0 a1 a2 a3:Int) (a4:ByteArray) (w:World) (hm:impl_isMade.f a1=some true) (hp:impl_placeOk.f a2 a3=some false) (h0:a0=3) (hG:Glob w) :
  Calls Tryd.prog 92 #[.agg #[.int .i64 a0,.int .i64 a1,.int .i64 a2,.int .i64 a3,.string a4]] w (ChPost w a0 a1 a2 a3 a4 false):=by
 have hGa:Glob (w.alloc (.cells #[.int .i64 a0,.int .i64 a1,.int .i64 a2,.int .i64 a3,.string a4] 42)):=hG.below (below_box0 w _)
 have HG:=a_ hGa
 clear hGa hG
 subst h0
 have Hm:=a_ hm
 have Hp:=a_ hp
 clear hm hp
 go_enter Tryd.func92,Tryd.ntmps92
 go_wp2_with (go_at_call 127;refine (impl_isMade.calls a1 _ _ Hm.out HG.out).mono ?_;rintro e w' ⟨rfl,⟨nd,rfl⟩⟩)
 go_quiet ((go_at_call 128;refine quiet_d (impl_placeOk.calls a2 a3 false _ Hp.out (by (with_reducible repeat (first|exact HG.out|apply Glob.drewN|apply Glob.drew))))))
 go_wp2
 go_ret2
 exact ⟨_,rfl,(fun h=>by cases h),by (with_reducible repeat (first|exact below_box0 w _|apply pw_below_drewN))⟩
theorem changeOf_kind (a0 a1 a2 a3:Int) (a4:ByteArray) (w:World) (hm:impl_isMade.f a1=some true) (h1:a0≠1) (h2:a0≠2) (h3:a0≠3) (hG:Glob w) :
  Calls Tryd.prog 92 #[.agg #[.int .i64 a0,.int .i64 a1,.int .i64 a2,.int .i64 a3,.string a4]] w (ChPost w a0 a1 a2 a3 a4 false):=by
 have hGa:Glob (w.alloc (.cells #[.int .i64 a0,.int .i64 a1,.int .i64 a2,.int .i64 a3,.string a4] 42)):=hG.below (below_box0 w _)
 have HG:=a_ hGa
 clear hGa hG
 have e1:(a0==1)=false:=beq_eq_false_iff_ne.2 h1
 have e2:(a0==2)=false:=beq_eq_false_iff_ne.2 h2
 have e3:(a0==3)=false:=beq_eq_false_iff_ne.2 h3
 clear h1 h2 h3
 have Hm:=a_ hm
 clear hm
 go_enter Tryd.func92,Tryd.ntmps92
 go_wp2_with (go_at_call 127;refine (impl_isMade.calls a1 _ _ Hm.out HG.out).mono ?_;rintro e w' ⟨rfl,⟨nd,rfl⟩⟩)
 go_ret2
 exact ⟨_,rfl,(fun h=>by cases h),by (with_reducible repeat (first|exact below_box0 w _|apply pw_below_drewN))⟩
theorem impl_changeOf.calls (k:Nat) (a0 a1 a2 a3:Int) (a4:ByteArray) (r:Bool) (w:World) (h:impl_changeOf.f k a0 a1 a2 a3 a4=some r) (hG:Glob w) :
  Calls Tryd.prog 92 #[.agg #[.int .i64 a0,.int .i64 a1,.int .i64 a2,.int .i64 a3,.string a4]] w (ChPost w a0 a1 a2 a3 a4 r):=by
 unfold impl_changeOf.f at h
 obtain ⟨m,hm,h⟩:=Option.bind_eq_some_iff.1 h
 cases m with
 | false =>
  simp only [Bool.false_eq_true,if_false,Option.some.injEq] at h
  subst h
  exact changeOf_unmade a0 a1 a2 a3 a4 w hm hG
 | true =>
  simp only [if_true] at h
  by_cases h1:a0=1
  ·rw [if_pos h1] at h
   obtain ⟨p,hp,h⟩:=Option.bind_eq_some_iff.1 h
   cases p with
   | false =>
    simp only [Bool.false_eq_true,if_false,Option.some.injEq] at h
    subst h
    exact changeOf_make_no a0 a1 a2 a3 a4 w hm hp h1 hG
   | true =>
    simp only [if_true] at h
    exact changeOf_make k a0 a1 a2 a3 a4 r w hm hp h h1 hG
  ·rw [if_neg h1] at h
   by_cases h2:a0=2
   ·rw [if_pos h2] at h
    by_cases g2:a2=0
    ·rw [if_pos g2] at h
     by_cases g3:a3=0
     ·rw [if_pos g3] at h
      exact changeOf_text k a0 a1 a2 a3 a4 r w hm g2 g3 h h2 hG
     ·rw [if_neg g3] at h
      simp only [Option.some.injEq] at h
      subst h
      exact changeOf_text_no3 a0 a1 a2 a3 a4 w hm g2 g3 h2 hG
    ·rw [if_neg g2] at h
     simp only [Option.some.injEq] at h
     subst h
     exact changeOf_text_no2 a0 a1 a2 a3 a4 w hm g2 h2 hG
   ·rw [if_neg h2] at h
    by_cases h3:a0=3
    ·rw [if_pos h3] at h
     obtain ⟨p,hp,h⟩:=Option.bind_eq_some_iff.1 h
     cases p with
     | false =>
      simp only [Bool.false_eq_true,if_false,Option.some.injEq] at h
      subst h
      exact changeOf_move_no a0 a1 a2 a3 a4 w hm hp h3 hG
     | true =>
      simp only [if_true,Option.some.injEq] at h
      subst h
      exact changeOf_move a0 a1 a2 a3 a4 w hm hp h3 hG
    ·rw [if_neg h3] at h
     simp only [Option.some.injEq] at h
     subst h
     exact changeOf_kind a0 a1 a2 a3 a4 w hm h1 h2 h3 hG
def impl_OpOk.f (k:Nat) (a0 a1 a2 a3:Int) (a4:ByteArray):Option Bool:=impl_changeOf.f k a0 a1 a2 a3 a4
theorem impl_OpOk.mono (a0 a1 a2 a3:Int) (a4:ByteArray) (k:Nat):LeO (impl_OpOk.f k a0 a1 a2 a3 a4) (impl_OpOk.f (k+1) a0 a1 a2 a3 a4):=impl_changeOf.mono a0 a1 a2 a3 a4 k
theorem impl_OpOk.calls (k:Nat) (a0_0 a0_1 a0_2 a0_3:Int) (a0_4:ByteArray) (r:Bool) (w:World) (h:impl_OpOk.f k a0_0 a0_1 a0_2 a0_3 a0_4=some r) (hG:Glob w) :
  Calls Tryd.prog 116 #[.agg #[.int .i64 a0_0,.int .i64 a0_1,.int .i64 a0_2,.int .i64 a0_3,.string a0_4]] w fun e w'=>e=.returned (.bool r)∧Below w.heap.size w w':=by
 have hGa:Glob (w.alloc (.cells #[.int .i64 a0_0,.int .i64 a0_1,.int .i64 a0_2,.int .i64 a0_3,.string a0_4] 42)):=hG.below (below_box0 w _)
 have HG:=a_ hGa
 have HH:=a_ h
 clear hGa hG h
 have hu:=Tryd.underlying42
 go_enter Tryd.func116,Tryd.ntmps116
 go_wp2_with (go_at_call 92;refine (impl_changeOf.calls k a0_0 a0_1 a0_2 a0_3 a0_4 r _ HH.out HG.out).mono ?_;rintro e w1 ⟨v,rfl,_,hb⟩;have HB:=a_ hb;clear hb)
 go_ret
 exact ⟨rfl,(below_box0 w _).trans (HB.out.mono (by simp))⟩
end Go.Proofs.YtdpklbomhdpimaaDoor.P
namespace Go.Proofs.YtdpklbomhdpimaaDoor.P
open Go.RowKit Go.Proofs.YtdpklbomhdpimaaDoorW.PrintWords Go.Proofs.YtdpklbomhdpimaaDoorW.PrintLast
def impl_EntryOk.f (k:Nat) (a0_0:Int) (a0_1:Int) (a0_2:Int) (a0_3:Int) (a0_4:Int) (a0_5:Int) (a0_6:ByteArray):Option (Bool):=(impl_whoOk.f a0_0).bind fun t405=>(if t405=true then (if a0_1 < 1 then (some false) else (if a0_1 > 40 then (some false) else ((impl_OpOk.f k a0_2 a0_3 a0_4 a0_5 a0_6).bind fun t406=>(if t406=true then ((impl_RowWho.f a0_3).bind fun bt407=>(if a0_2=1 then (some (bt407.1==a0_0)) else (some true))) else (some false))))) else (some false))
theorem impl_EntryOk.mono:∀ a0 a1 a2 a3 a4 a5 a6 k,LeO (impl_EntryOk.f k a0 a1 a2 a3 a4 a5 a6) (impl_EntryOk.f (k+1) a0 a1 a2 a3 a4 a5 a6):=by
 intro a0 a1 a2 a3 a4 a5 a6 k
 unfold impl_EntryOk.f
 repeat' first
   | (with_reducible exact impl_OpOk.mono _ _ _ _ _ _)
   | (with_reducible exact LeO.refl _)
   | (with_reducible exact LeO.none _)
   | (with_reducible refine LeO.ite ?_ ?_)
   | (with_reducible refine LeO.bind ?_ (fun _=>?_))
   | exact impl_OpOk.mono _ _ _ _ _ _
   | exact LeO.none _
   | refine LeO.ite ?_ ?_
   | refine LeO.bind ?_ (fun _=>?_)
theorem impl_EntryOk.calls (k:Nat) (a0_0:Int) (a0_1:Int) (a0_2:Int) (a0_3:Int) (a0_4:Int) (a0_5:Int) (a0_6:ByteArray) (r:Bool) (w:World) (h:impl_EntryOk.f k a0_0 a0_1 a0_2 a0_3 a0_4 a0_5 a0_6=some r) (hG:Glob w) :
  Calls Tryd.prog 78 #[.agg #[.int .i64 a0_0,.int .i64 a0_1,.int .i64 a0_2,.int .i64 a0_3,.int .i64 a0_4,.int .i64 a0_5,.string a0_6]] w fun e w'=>e=.returned (.bool r)∧Below w.heap.size w w':=by
 have hu44:=Tryd.underlying44
 have hu42:=Tryd.underlying42
 have HB:=a_ (Below.refl w.heap.size w)
 have HG:=a_ hG
 clear hG
 unfold impl_EntryOk.f at h
 have H:=h
 clear h
 replace H:=bs_ H
 obtain ⟨t405,A20,H⟩:=H
 try dsimp only at H
 have A2:=a_ A20
 clear A20
 by_cases c3:t405=true
 ·subst c3
  have H1:(if a0_1 < 1 then (some false) else (if a0_1 > 40 then (some false) else ((impl_OpOk.f k a0_2 a0_3 a0_4 a0_5 a0_6).bind fun t406=>(if t406=true then ((impl_RowWho.f a0_3).bind fun bt407=>(if a0_2=1 then (some (bt407.1==a0_0)) else (some true))) else (some false)))))=some r:=by rw [if_pos rfl] at H;exact H
  clear H
  have H:=H1
  clear H1
  by_cases c4:a0_1 < 1
  ·rw [if_pos c4] at H
   have c4b0:decide (a0_1 < 1)=true:=dt_ c4
   clear c4
   obtain rfl:=sj_ H
   go_enter Tryd.func78,Tryd.ntmps78
   go_wp2_with (first|((with_reducible refine gD_ (N:=1) rfl ?_);refine bx_ 1 (#[.int .i64 a0_0,.int .i64 a0_1,.int .i64 a0_2,.int .i64 a0_3,.int .i64 a0_4,.int .i64 a0_5,.string a0_6]) 44 ?_;intro gb404 hg w5 hbox hb;have n0_:=a_ (bS_ (bel_) hb);have n1_:=a_ (hbox);have n2_:=a_ ((by rw [hg];exact (below_size (bel_)):w.heap.size≤gb404));have n3_:=a_ ((by rw [hg];exact (below_size (bel_)):w.heap.size≤gb404));clear HB;have HB:=n0_;have BK404:=n1_;have GW404:=n2_;have GE404:=n3_;clear n0_ n1_ n2_ n3_;clear hb hbox hg;have Z6_0:=cz_ BK404.out 0 (.int .i64 a0_0);have Z6_1:=cz_ BK404.out 1 (.int .i64 a0_1);have Z6_2:=cz_ BK404.out 2 (.int .i64 a0_2);have Z6_3:=cz_ BK404.out 3 (.int .i64 a0_3);have Z6_4:=cz_ BK404.out 4 (.int .i64 a0_4);have Z6_5:=cz_ BK404.out 5 (.int .i64 a0_5);have Z6_6:=cz_ BK404.out 6 (.string a0_6);have Y6_0:=bF_ BK404.out 0;have Y6_1:=bF_ BK404.out 1;have Y6_2:=bF_ BK404.out 2;have Y6_3:=bF_ BK404.out 3;have Y6_4:=bF_ BK404.out 4;have Y6_5:=bF_ BK404.out 5;have Y6_6:=bF_ BK404.out 6)|((with_reducible refine gC_ (f:=104) rfl ?_);refine gl_ 7 Tryd.func104 #[.int .i64 a0_0] ?_;(with_reducible refine (impl_whoOk.calls a0_0 true _ A2.out).mono ?_);rintro e w' ⟨rfl,⟨nd,rfl⟩⟩;refine ⟨_,rfl,?_⟩))
   go_ret
   exact ⟨fi_,bel_⟩
  ·rw [if_neg c4] at H
   have c4b0:decide (a0_1 < 1)=false:=df_ c4
   clear c4
   by_cases c7:a0_1 > 40
   ·rw [if_pos c7] at H
    have c7b0:decide (40 < a0_1)=true:=dt_ c7
    clear c7
    obtain rfl:=sj_ H
    go_enter Tryd.func78,Tryd.ntmps78
    go_wp2_with (first|((with_reducible refine gD_ (N:=1) rfl ?_);refine bx_ 1 (#[.int .i64 a0_0,.int .i64 a0_1,.int .i64 a0_2,.int .i64 a0_3,.int .i64 a0_4,.int .i64 a0_5,.string a0_6]) 44 ?_;intro gb404 hg w8 hbox hb;have n0_:=a_ (bS_ (bel_) hb);have n1_:=a_ (hbox);have n2_:=a_ ((by rw [hg];exact (below_size (bel_)):w.heap.size≤gb404));have n3_:=a_ ((by rw [hg];exact (below_size (bel_)):w.heap.size≤gb404));clear HB;have HB:=n0_;have BK404:=n1_;have GW404:=n2_;have GE404:=n3_;clear n0_ n1_ n2_ n3_;clear hb hbox hg;have Z9_0:=cz_ BK404.out 0 (.int .i64 a0_0);have Z9_1:=cz_ BK404.out 1 (.int .i64 a0_1);have Z9_2:=cz_ BK404.out 2 (.int .i64 a0_2);have Z9_3:=cz_ BK404.out 3 (.int .i64 a0_3);have Z9_4:=cz_ BK404.out 4 (.int .i64 a0_4);have Z9_5:=cz_ BK404.out 5 (.int .i64 a0_5);have Z9_6:=cz_ BK404.out 6 (.string a0_6);have Y9_0:=bF_ BK404.out 0;have Y9_1:=bF_ BK404.out 1;have Y9_2:=bF_ BK404.out 2;have Y9_3:=bF_ BK404.out 3;have Y9_4:=bF_ BK404.out 4;have Y9_5:=bF_ BK404.out 5;have Y9_6:=bF_ BK404.out 6)|((with_reducible refine gC_ (f:=104) rfl ?_);refine gl_ 7 Tryd.func104 #[.int .i64 a0_0] ?_;(with_reducible refine (impl_whoOk.calls a0_0 true _ A2.out).mono ?_);rintro e w' ⟨rfl,⟨nd,rfl⟩⟩;refine ⟨_,rfl,?_⟩))
    go_ret
    exact ⟨fi_,bel_⟩
   ·rw [if_neg c7] at H
    have c7b0:decide (40 < a0_1)=false:=df_ c7
    clear c7
    replace H:=bs_ H
    obtain ⟨t406,A100,H⟩:=H
    try dsimp only at H
    have A10:=a_ A100
    clear A100
    by_cases c11:t406=true
    ·subst c11
     have H1:((impl_RowWho.f a0_3).bind fun bt407=>(if a0_2=1 then (some (bt407.1==a0_0)) else (some true)))=some r:=by rw [if_pos rfl] at H;exact H
     clear H
     have H:=H1
     clear H1
     replace H:=bs_ H
     obtain ⟨⟨t407,t408⟩,A120,H⟩:=H
     try dsimp only at H
     have A12:=a_ A120
     clear A120
     by_cases c13:a0_2=1
     ·rw [if_pos c13] at H
      have c13b0:(a0_2==1)=true:=beq_iff_eq.mpr c13
      have c13b1:(a0_2 != 1)=false:=be_ c13
      clear c13
      obtain rfl:=sj_ H
      go_enter Tryd.func78,Tryd.ntmps78
      go_wp2_with (first|((with_reducible refine gD_ (N:=1) rfl ?_);refine bx_ 1 (#[.int .i64 a0_0,.int .i64 a0_1,.int .i64 a0_2,.int .i64 a0_3,.int .i64 a0_4,.int .i64 a0_5,.string a0_6]) 44 ?_;intro gb404 hg w14 hbox hb;have n0_:=a_ (bS_ (bel_) hb);have n1_:=a_ (hbox);have n2_:=a_ ((by rw [hg];exact (below_size (bel_)):w.heap.size≤gb404));have n3_:=a_ ((by rw [hg];exact (below_size (bel_)):w.heap.size≤gb404));clear HB;have HB:=n0_;have BK404:=n1_;have GW404:=n2_;have GE404:=n3_;clear n0_ n1_ n2_ n3_;clear hb hbox hg;have Z15_0:=cz_ BK404.out 0 (.int .i64 a0_0);have Z15_1:=cz_ BK404.out 1 (.int .i64 a0_1);have Z15_2:=cz_ BK404.out 2 (.int .i64 a0_2);have Z15_3:=cz_ BK404.out 3 (.int .i64 a0_3);have Z15_4:=cz_ BK404.out 4 (.int .i64 a0_4);have Z15_5:=cz_ BK404.out 5 (.int .i64 a0_5);have Z15_6:=cz_ BK404.out 6 (.string a0_6);have Y15_0:=bF_ BK404.out 0;have Y15_1:=bF_ BK404.out 1;have Y15_2:=bF_ BK404.out 2;have Y15_3:=bF_ BK404.out 3;have Y15_4:=bF_ BK404.out 4;have Y15_5:=bF_ BK404.out 5;have Y15_6:=bF_ BK404.out 6)|((with_reducible refine gC_ (f:=104) rfl ?_);refine gl_ 7 Tryd.func104 #[.int .i64 a0_0] ?_;(with_reducible refine (impl_whoOk.calls a0_0 true _ A2.out).mono ?_);rintro e w' ⟨rfl,⟨nd,rfl⟩⟩;refine ⟨_,rfl,?_⟩)|(go_at_call 116;(with_reducible refine (impl_OpOk.calls k a0_2 a0_3 a0_4 a0_5 a0_6 true _ A10.out ?side1).mono ?_);(case side1=>exact Glob.below HG.out (bel_));rintro e w16 ⟨rfl,hb⟩;replace HB:=a_ (bS_ (bel_) hb);replace BK404:=a_ (bb_ BK404.out hb);(try clear hb);have Z17_0:=cz_ BK404.out 0 (.int .i64 a0_0);have Z17_1:=cz_ BK404.out 1 (.int .i64 a0_1);have Z17_2:=cz_ BK404.out 2 (.int .i64 a0_2);have Z17_3:=cz_ BK404.out 3 (.int .i64 a0_3);have Z17_4:=cz_ BK404.out 4 (.int .i64 a0_4);have Z17_5:=cz_ BK404.out 5 (.int .i64 a0_5);have Z17_6:=cz_ BK404.out 6 (.string a0_6);have Y17_0:=bF_ BK404.out 0;have Y17_1:=bF_ BK404.out 1;have Y17_2:=bF_ BK404.out 2;have Y17_3:=bF_ BK404.out 3;have Y17_4:=bF_ BK404.out 4;have Y17_5:=bF_ BK404.out 5;have Y17_6:=bF_ BK404.out 6)|((with_reducible refine gC_ (f:=117) rfl ?_);refine gl_ 29 Tryd.func117 #[.int .i64 a0_3] ?_;(with_reducible refine (impl_RowWho.calls a0_3 t407 t408 _ A12.out ?side1).mono ?_);(case side1=>exact Glob.below HG.out (bel_));rintro e w' ⟨rfl,⟨nd,rfl⟩⟩;refine ⟨_,rfl,?_⟩))
      go_ret
      exact ⟨fi_,bel_⟩
     ·rw [if_neg c13] at H
      have c13b0:(a0_2==1)=false:=bn_ c13
      have c13b1:(a0_2 != 1)=true:=bne_iff_ne.mpr c13
      obtain rfl:=sj_ H
      go_enter Tryd.func78,Tryd.ntmps78
      go_wp2_with (first|((with_reducible refine gD_ (N:=1) rfl ?_);refine bx_ 1 (#[.int .i64 a0_0,.int .i64 a0_1,.int .i64 a0_2,.int .i64 a0_3,.int .i64 a0_4,.int .i64 a0_5,.string a0_6]) 44 ?_;intro gb404 hg w18 hbox hb;have n0_:=a_ (bS_ (bel_) hb);have n1_:=a_ (hbox);have n2_:=a_ ((by rw [hg];exact (below_size (bel_)):w.heap.size≤gb404));have n3_:=a_ ((by rw [hg];exact (below_size (bel_)):w.heap.size≤gb404));clear HB;have HB:=n0_;have BK404:=n1_;have GW404:=n2_;have GE404:=n3_;clear n0_ n1_ n2_ n3_;clear hb hbox hg;have Z19_0:=cz_ BK404.out 0 (.int .i64 a0_0);have Z19_1:=cz_ BK404.out 1 (.int .i64 a0_1);have Z19_2:=cz_ BK404.out 2 (.int .i64 a0_2);have Z19_3:=cz_ BK404.out 3 (.int .i64 a0_3);have Z19_4:=cz_ BK404.out 4 (.int .i64 a0_4);have Z19_5:=cz_ BK404.out 5 (.int .i64 a0_5);have Z19_6:=cz_ BK404.out 6 (.string a0_6);have Y19_0:=bF_ BK404.out 0;have Y19_1:=bF_ BK404.out 1;have Y19_2:=bF_ BK404.out 2;have Y19_3:=bF_ BK404.out 3;have Y19_4:=bF_ BK404.out 4;have Y19_5:=bF_ BK404.out 5;have Y19_6:=bF_ BK404.out 6)|((with_reducible refine gC_ (f:=104) rfl ?_);refine gl_ 7 Tryd.func104 #[.int .i64 a0_0] ?_;(with_reducible refine (impl_whoOk.calls a0_0 true _ A2.out).mono ?_);rintro e w' ⟨rfl,⟨nd,rfl⟩⟩;refine ⟨_,rfl,?_⟩)|(go_at_call 116;(with_reducible refine (impl_OpOk.calls k a0_2 a0_3 a0_4 a0_5 a0_6 true _ A10.out ?side1).mono ?_);(case side1=>exact Glob.below HG.out (bel_));rintro e w20 ⟨rfl,hb⟩;replace HB:=a_ (bS_ (bel_) hb);replace BK404:=a_ (bb_ BK404.out hb);(try clear hb);have Z21_0:=cz_ BK404.out 0 (.int .i64 a0_0);have Z21_1:=cz_ BK404.out 1 (.int .i64 a0_1);have Z21_2:=cz_ BK404.out 2 (.int .i64 a0_2);have Z21_3:=cz_ BK404.out 3 (.int .i64 a0_3);have Z21_4:=cz_ BK404.out 4 (.int .i64 a0_4);have Z21_5:=cz_ BK404.out 5 (.int .i64 a0_5);have Z21_6:=cz_ BK404.out 6 (.string a0_6);have Y21_0:=bF_ BK404.out 0;have Y21_1:=bF_ BK404.out 1;have Y21_2:=bF_ BK404.out 2;have Y21_3:=bF_ BK404.out 3;have Y21_4:=bF_ BK404.out 4;have Y21_5:=bF_ BK404.out 5;have Y21_6:=bF_ BK404.out 6)|((with_reducible refine gC_ (f:=117) rfl ?_);refine gl_ 29 Tryd.func117 #[.int .i64 a0_3] ?_;(with_reducible refine (impl_RowWho.calls a0_3 t407 t408 _ A12.out ?side1).mono ?_);(case side1=>exact Glob.below HG.out (bel_));rintro e w' ⟨rfl,⟨nd,rfl⟩⟩;refine ⟨_,rfl,?_⟩))
      go_ret
      exact ⟨fi_,bel_⟩
    ·replace c11:=Bool.eq_false_iff.mpr c11
     subst c11
     have H1:(some false)=some r:=by rw [if_neg (show ¬ (false=true) by decide)] at H;exact H
     clear H
     have H:=H1
     clear H1
     obtain rfl:=sj_ H
     go_enter Tryd.func78,Tryd.ntmps78
     go_wp2_with (first|((with_reducible refine gD_ (N:=1) rfl ?_);refine bx_ 1 (#[.int .i64 a0_0,.int .i64 a0_1,.int .i64 a0_2,.int .i64 a0_3,.int .i64 a0_4,.int .i64 a0_5,.string a0_6]) 44 ?_;intro gb404 hg w22 hbox hb;have n0_:=a_ (bS_ (bel_) hb);have n1_:=a_ (hbox);have n2_:=a_ ((by rw [hg];exact (below_size (bel_)):w.heap.size≤gb404));have n3_:=a_ ((by rw [hg];exact (below_size (bel_)):w.heap.size≤gb404));clear HB;have HB:=n0_;have BK404:=n1_;have GW404:=n2_;have GE404:=n3_;clear n0_ n1_ n2_ n3_;clear hb hbox hg;have Z23_0:=cz_ BK404.out 0 (.int .i64 a0_0);have Z23_1:=cz_ BK404.out 1 (.int .i64 a0_1);have Z23_2:=cz_ BK404.out 2 (.int .i64 a0_2);have Z23_3:=cz_ BK404.out 3 (.int .i64 a0_3);have Z23_4:=cz_ BK404.out 4 (.int .i64 a0_4);have Z23_5:=cz_ BK404.out 5 (.int .i64 a0_5);have Z23_6:=cz_ BK404.out 6 (.string a0_6);have Y23_0:=bF_ BK404.out 0;have Y23_1:=bF_ BK404.out 1;have Y23_2:=bF_ BK404.out 2;have Y23_3:=bF_ BK404.out 3;have Y23_4:=bF_ BK404.out 4;have Y23_5:=bF_ BK404.out 5;have Y23_6:=bF_ BK404.out 6)|((with_reducible refine gC_ (f:=104) rfl ?_);refine gl_ 7 Tryd.func104 #[.int .i64 a0_0] ?_;(with_reducible refine (impl_whoOk.calls a0_0 true _ A2.out).mono ?_);rintro e w' ⟨rfl,⟨nd,rfl⟩⟩;refine ⟨_,rfl,?_⟩)|(go_at_call 116;(with_reducible refine (impl_OpOk.calls k a0_2 a0_3 a0_4 a0_5 a0_6 false _ A10.out ?side1).mono ?_);(case side1=>exact Glob.below HG.out (bel_));rintro e w24 ⟨rfl,hb⟩;replace HB:=a_ (bS_ (bel_) hb);replace BK404:=a_ (bb_ BK404.out hb);(try clear hb)))
     go_ret
     exact ⟨fi_,bel_⟩
 ·replace c3:=Bool.eq_false_iff.mpr c3
  subst c3
  have H1:(some false)=some r:=by rw [if_neg (show ¬ (false=true) by decide)] at H;exact H
  clear H
  have H:=H1
  clear H1
  obtain rfl:=sj_ H
  go_enter Tryd.func78,Tryd.ntmps78
  go_wp2_with (first|((with_reducible refine gD_ (N:=1) rfl ?_);refine bx_ 1 (#[.int .i64 a0_0,.int .i64 a0_1,.int .i64 a0_2,.int .i64 a0_3,.int .i64 a0_4,.int .i64 a0_5,.string a0_6]) 44 ?_;intro gb404 hg w25 hbox hb;have n0_:=a_ (bS_ (bel_) hb);have n1_:=a_ (hbox);have n2_:=a_ ((by rw [hg];exact (below_size (bel_)):w.heap.size≤gb404));have n3_:=a_ ((by rw [hg];exact (below_size (bel_)):w.heap.size≤gb404));clear HB;have HB:=n0_;have BK404:=n1_;have GW404:=n2_;have GE404:=n3_;clear n0_ n1_ n2_ n3_;clear hb hbox hg;have Z26_0:=cz_ BK404.out 0 (.int .i64 a0_0);have Z26_1:=cz_ BK404.out 1 (.int .i64 a0_1);have Z26_2:=cz_ BK404.out 2 (.int .i64 a0_2);have Z26_3:=cz_ BK404.out 3 (.int .i64 a0_3);have Z26_4:=cz_ BK404.out 4 (.int .i64 a0_4);have Z26_5:=cz_ BK404.out 5 (.int .i64 a0_5);have Z26_6:=cz_ BK404.out 6 (.string a0_6);have Y26_0:=bF_ BK404.out 0;have Y26_1:=bF_ BK404.out 1;have Y26_2:=bF_ BK404.out 2;have Y26_3:=bF_ BK404.out 3;have Y26_4:=bF_ BK404.out 4;have Y26_5:=bF_ BK404.out 5;have Y26_6:=bF_ BK404.out 6)|((with_reducible refine gC_ (f:=104) rfl ?_);refine gl_ 7 Tryd.func104 #[.int .i64 a0_0] ?_;(with_reducible refine (impl_whoOk.calls a0_0 false _ A2.out).mono ?_);rintro e w' ⟨rfl,⟨nd,rfl⟩⟩;refine ⟨_,rfl,?_⟩))
  go_ret
  exact ⟨fi_,bel_⟩


theorem eqA42 (d:Nat) (w:World) (x0 y0:Int) (x1 y1:Int) (x2 y2:Int) (x3 y3:Int) (x4 y4:ByteArray) :
  (Op.equalIn (d+2) 42 (.agg #[.int .i64 x0,.int .i64 x1,.int .i64 x2,.int .i64 x3,.string x4]) (.agg #[.int .i64 y0,.int .i64 y1,.int .i64 y2,.int .i64 y3,.string y4])).run Tryd.prog w=.ok (x0==y0&&(x1==y1&&(x2==y2&&(x3==y3&&(x4.toList==y4.toList))))) w:=by
 refine eqA_of Tryd.underlying42 (by kernel_rfl) ?_
 refine eqf_cons (by rfl) (by go_simp;rfl) (by go_simp;rfl) (by go_simp) ?_
 refine eqf_cons (by rfl) (by go_simp;rfl) (by go_simp;rfl) (by go_simp) ?_
 refine eqf_cons (by rfl) (by go_simp;rfl) (by go_simp;rfl) (by go_simp) ?_
 refine eqf_cons (by rfl) (by go_simp;rfl) (by go_simp;rfl) (by go_simp) ?_
 exact eqf_last (by rfl) (by go_simp;rfl) (by go_simp;rfl) (by go_simp)
theorem eqA44 (d:Nat) (w:World) (x0 y0:Int) (x1 y1:Int) (x2 y2:Int) (x3 y3:Int) (x4 y4:Int) (x5 y5:Int) (x6 y6:ByteArray) :
  (Op.equalIn (d+3) 44 (.agg #[.int .i64 x0,.int .i64 x1,.int .i64 x2,.int .i64 x3,.int .i64 x4,.int .i64 x5,.string x6]) (.agg #[.int .i64 y0,.int .i64 y1,.int .i64 y2,.int .i64 y3,.int .i64 y4,.int .i64 y5,.string y6])).run Tryd.prog w=.ok (x0==y0&&(x1==y1&&((x2==y2&&(x3==y3&&(x4==y4&&(x5==y5&&(x6.toList==y6.toList)))))))) w:=by
 refine eqA_of Tryd.underlying44 (by kernel_rfl) ?_
 refine eqf_cons (by rfl) (by go_simp;rfl) (by go_simp;rfl) (by go_simp) ?_
 refine eqf_cons (by rfl) (by go_simp;rfl) (by go_simp;rfl) (by go_simp) ?_
 exact eqf_last (by rfl) (by go_simp) (by go_simp) (eqA42 (d+0) w _ _ _ _ _ _ _ _ _ _)
attribute [local go_sem high] eqA44
attribute [local go_sem high] eqA69

def laws_lpRows.l0:Nat→List (S69)→List (S69)→Int→Option (Bool)
 | 0,_,_,_=>none
 | k+1,x0,x1,x5=>if x5 < (x0.length:Int) then (if 0≤x5 then (if x5 < (x1.length:Int) then (if (!(((rd_T69 x0 x5).f0)==((rd_T69 x1 x5).f0)) || (!(((rd_T69 x0 x5).f1)==((rd_T69 x1 x5).f1)) || (!((((rd_T69 x0 x5).f2).toList)==(((rd_T69 x1 x5).f2).toList)))))=true then (some false) else (laws_lpRows.l0 k x0 x1 (wrap64 (x5+1)))) else (none)) else (none)) else (some true)
def laws_lpRows.f (k:Nat) (l0:List (S69)) (l1:List (S69)):Option (Bool):=if (l0.length:Int)=(l1.length:Int) then (laws_lpRows.l0 k l0 l1 0) else (some false)
theorem laws_lpRows.mono_l:∀ k,(∀ y0 y1 y2,LeO (laws_lpRows.l0 k y0 y1 y2) (laws_lpRows.l0 (k+1) y0 y1 y2))
 | 0=>fun _ _ _ r h=>by simp [laws_lpRows.l0] at h
 | k+1=>by
  have ih0:=laws_lpRows.mono_l k
  ·intro y0 y1 y2
   unfold laws_lpRows.l0
   repeat' first
   | (with_reducible exact ih0 _ _ _)
   | (with_reducible exact LeO.refl _)
   | (with_reducible exact LeO.none _)
   | (with_reducible refine LeO.ite ?_ ?_)
   | (with_reducible refine LeO.bind ?_ (fun _=>?_))
   | exact ih0 _ _ _
   | exact LeO.none _
   | refine LeO.ite ?_ ?_
   | refine LeO.bind ?_ (fun _=>?_)
theorem laws_lpRows.mono:∀ a0 a1 k,LeO (laws_lpRows.f k a0 a1) (laws_lpRows.f (k+1) a0 a1):=by
 intro a0 a1 k
 have ih0:=laws_lpRows.mono_l k
 unfold laws_lpRows.f
 repeat' first
   | (with_reducible exact ih0 _ _ _)
   | (with_reducible exact LeO.refl _)
   | (with_reducible exact LeO.none _)
   | (with_reducible refine LeO.ite ?_ ?_)
   | (with_reducible refine LeO.bind ?_ (fun _=>?_))
   | exact ih0 _ _ _
   | exact LeO.none _
   | refine LeO.ite ?_ ?_
   | refine LeO.bind ?_ (fun _=>?_)
theorem laws_lpRows.calls (k:Nat) (A0:Option Addr) (c0:Nat) (l0:List (S69)) (A1:Option Addr) (c1:Nat) (l1:List (S69)) (r:Bool) (w:World) (hr0:Kd.C k69 w A0 l0.length l0) (hc0:l0.length≤c0) (hr1:Kd.C k69 w A1 l1.length l1) (hc1:l1.length≤c1) (h:laws_lpRows.f k l0 l1=some r) :
  Calls Tryd.prog 38 #[.slice A0 l0.length c0,.slice A1 l1.length c1] w fun e w'=>e=.returned (.bool r)∧Drawn0 w w':=by
 have hu69:=Tryd.underlying69
 have HR0:=a_ hr0
 have HC0:=a_ hc0
 clear hr0 hc0
 have HR1:=a_ hr1
 have HC1:=a_ hc1
 clear hr1 hc1
 unfold laws_lpRows.f at h
 have H:=h
 clear h
 by_cases c3:(l0.length:Int)=(l1.length:Int)
 ·rw [if_pos c3] at H
  have c3b0:((l0.length:Int)==(l1.length:Int))=true:=beq_iff_eq.mpr c3
  have c3b1:((l0.length:Int) != (l1.length:Int))=false:=be_ c3
  have c3b2:(l0.length==l1.length)=true:=by first|simpa using c3|(simp at c3 ⊢;omega)
  clear c3
  have H':=a_ H
  clear H
  go_enter Tryd.func38,Tryd.ntmps38
  go_wp2
  repeat (go_quiet (fail);try go_wp2)
  go_loopg [5] k (fun kq v5 w'=>∃ (x5_1:Int),v5=.int .i64 x5_1∧Aside0 (laws_lpRows.l0 kq l0 l1 x5_1=some r)∧Aside0 (kq≤k)∧Drawn0 w w')
  case atStart=>exact ⟨(0),(si_),H',⟨Nat.le_refl _⟩,by repeat (first|exact Drawn0.refl _|apply Drawn0.step)⟩
  case round =>
   clear H'
   try clear c1
   try clear p2
   try clear c3
   try clear c3b0
   try clear c3b1
   try clear c3b2
   obtain ⟨x5_1,rfl,HA,HK1,⟨m1,rfl⟩⟩:=hrel
   cases gk with
   | zero=>exact absurd HA.out (by simp [laws_lpRows.l0])
   | succ k1 =>
    have H:=HA.out
    clear HA
    simp only [laws_lpRows.l0] at H
    by_cases c4:x5_1 < (l0.length:Int)
    ·rw [if_pos c4] at H
     have c4b0:decide (x5_1 < (l0.length:Int))=true:=dt_ c4
     clear c4
     by_cases c5:0≤x5_1
     ·rw [if_pos c5] at H
      have c5b0:decide (0≤x5_1)=true:=dt_ c5
      clear c5
      by_cases c6:x5_1 < (l1.length:Int)
      ·rw [if_pos c6] at H
       have c6b0:decide (x5_1 < (l1.length:Int))=true:=dt_ c6
       clear c6
       by_cases c7:(!(((rd_T69 l0 x5_1).f0)==((rd_T69 l1 x5_1).f0)) || (!(((rd_T69 l0 x5_1).f1)==((rd_T69 l1 x5_1).f1)) || (!((((rd_T69 l0 x5_1).f2).toList)==(((rd_T69 l1 x5_1).f2).toList)))))=true
       ·rw [if_pos c7] at H
        have c7b0:(!(((rd_T69 l0 x5_1).f0)==((rd_T69 l1 x5_1).f0)) || (!(((rd_T69 l0 x5_1).f1)==((rd_T69 l1 x5_1).f1)) || (!((((rd_T69 l0 x5_1).f2).toList)==(((rd_T69 l1 x5_1).f2).toList)))))=true:=c7
        clear c7
        obtain rfl:=sj_ H
        have p934:0≤(x5_1:Int):=od_
        have q934:x5_1 < (l0.length:Int):=od_
        obtain ⟨ad934,e934,hx934_0,hx934_1,hx934_2⟩:=at_T69 HR0.out x5_1 p934 q934
        cases e934
        replace p934:=eq_true p934
        replace q934:=eq_true q934
        have p935:0≤(x5_1:Int):=od_
        have q935:x5_1 < (l1.length:Int):=od_
        obtain ⟨ad935,e935,hx935_0,hx935_1,hx935_2⟩:=at_T69 HR1.out x5_1 p935 q935
        cases e935
        replace p935:=eq_true p935
        replace q935:=eq_true q935
        go_wp2
        repeat (go_quiet (fail);try go_wp2)
        go_ret
        exact ⟨si_,by repeat (first|exact Drawn0.refl _|apply Drawn0.step)⟩
       ·rw [if_neg c7] at H
        have c7b0:(!(((rd_T69 l0 x5_1).f0)==((rd_T69 l1 x5_1).f0)) || (!(((rd_T69 l0 x5_1).f1)==((rd_T69 l1 x5_1).f1)) || (!((((rd_T69 l0 x5_1).f2).toList)==(((rd_T69 l1 x5_1).f2).toList)))))=false:=by simpa using c7
        clear c7
        have H':=a_ H
        clear H
        have p934:0≤(x5_1:Int):=od_
        have q934:x5_1 < (l0.length:Int):=od_
        obtain ⟨ad934,e934,hx934_0,hx934_1,hx934_2⟩:=at_T69 HR0.out x5_1 p934 q934
        cases e934
        replace p934:=eq_true p934
        replace q934:=eq_true q934
        have p935:0≤(x5_1:Int):=od_
        have q935:x5_1 < (l1.length:Int):=od_
        obtain ⟨ad935,e935,hx935_0,hx935_1,hx935_2⟩:=at_T69 HR1.out x5_1 p935 q935
        cases e935
        replace p935:=eq_true p935
        replace q935:=eq_true q935
        go_wp2
        repeat (go_quiet (fail);try go_wp2)
        go_roundg k1
        case measure=>have:=HK1.out;omega
        case rel=>exact ⟨(wrap64 (x5_1+1)),(si_),H',⟨by have:=HK1.out;omega⟩,by repeat (first|exact Drawn0.refl _|apply Drawn0.step)⟩
      ·rw [if_neg c6] at H
       exact absurd H (by simp)
     ·rw [if_neg c5] at H
      exact absurd H (by simp)
    ·rw [if_neg c4] at H
     have c4b0:decide (x5_1 < (l0.length:Int))=false:=df_ c4
     clear c4
     obtain rfl:=sj_ H
     go_wp2
     repeat (go_quiet (fail);try go_wp2)
     go_ret
     exact ⟨si_,by repeat (first|exact Drawn0.refl _|apply Drawn0.step)⟩
 ·rw [if_neg c3] at H
  have c3b0:((l0.length:Int)==(l1.length:Int))=false:=bn_ c3
  have c3b1:((l0.length:Int) != (l1.length:Int))=true:=bne_iff_ne.mpr c3
  have c3b2:(l0.length==l1.length)=false:=by first|simpa using c3|(simp at c3 ⊢;omega)
  obtain rfl:=sj_ H
  go_enter Tryd.func38,Tryd.ntmps38
  go_wp2
  repeat (go_quiet (fail);try go_wp2)
  go_ret
  exact ⟨si_,by repeat (first|exact Drawn0.refl _|apply Drawn0.step)⟩

def impl_RowOk.f (k:Nat) (a0_0:Int) (a0_1:Int) (a0_2:ByteArray):Option (Bool):=(impl_isRoot.f a0_0).bind fun t937=>(if t937=true then (if a0_1=0 then (some (a0_2.toList==([]:List UInt8))) else (some false)) else ((impl_isMade.f a0_0).bind fun t938=>(if t938=true then (if a0_1≥1 then (if a0_1≤18 then ((impl_textOk.f k a0_2).bind fun t939=>(some t939)) else (some false)) else (some false)) else (some false))))
theorem impl_RowOk.mono:∀ a0 a1 a2 k,LeO (impl_RowOk.f k a0 a1 a2) (impl_RowOk.f (k+1) a0 a1 a2):=by
 intro a0 a1 a2 k
 unfold impl_RowOk.f
 repeat' first
   | (with_reducible exact impl_textOk.mono _ _)
   | (with_reducible exact LeO.refl _)
   | (with_reducible exact LeO.none _)
   | (with_reducible refine LeO.ite ?_ ?_)
   | (with_reducible refine LeO.bind ?_ (fun _=>?_))
   | exact impl_textOk.mono _ _
   | exact LeO.none _
   | refine LeO.ite ?_ ?_
   | refine LeO.bind ?_ (fun _=>?_)
theorem impl_RowOk.calls (k:Nat) (a0_0:Int) (a0_1:Int) (a0_2:ByteArray) (r:Bool) (w:World) (h:impl_RowOk.f k a0_0 a0_1 a0_2=some r) (hG:Glob w) :
  Calls Tryd.prog 97 #[.agg #[.int .i64 a0_0,.int .i64 a0_1,.string a0_2]] w fun e w'=>e=.returned (.bool r)∧Below w.heap.size w w':=by
 have hu69:=Tryd.underlying69
 have HB:=a_ (Below.refl w.heap.size w)
 have HG:=a_ hG
 clear hG
 unfold impl_RowOk.f at h
 have H:=h
 clear h
 replace H:=bs_ H
 obtain ⟨t937,A20,H⟩:=H
 try dsimp only at H
 have A2:=a_ A20
 clear A20
 by_cases c3:t937=true
 ·subst c3
  have H1:(if a0_1=0 then (some (a0_2.toList==([]:List UInt8))) else (some false))=some r:=by rw [if_pos rfl] at H;exact H
  clear H
  have H:=H1
  clear H1
  by_cases c4:a0_1=0
  ·rw [if_pos c4] at H
   have c4b0:(a0_1==0)=true:=beq_iff_eq.mpr c4
   have c4b1:(a0_1 != 0)=false:=be_ c4
   clear c4
   obtain rfl:=sj_ H
   go_enter Tryd.func97,Tryd.ntmps97
   go_wp2_with (first|((with_reducible refine gD_ (N:=1) rfl ?_);refine bx_ 1 (#[.int .i64 a0_0,.int .i64 a0_1,.string a0_2]) 69 ?_;intro gb936 hg w5 hbox hb;have n0_:=a_ (bS_ (bel_) hb);have n1_:=a_ (hbox);have n2_:=a_ ((by rw [hg];exact (below_size (bel_)):w.heap.size≤gb936));have n3_:=a_ ((by rw [hg];exact (below_size (bel_)):w.heap.size≤gb936));clear HB;have HB:=n0_;have BK936:=n1_;have GW936:=n2_;have GE936:=n3_;clear n0_ n1_ n2_ n3_;clear hb hbox hg;have Z6_0:=cz_ BK936.out 0 (.int .i64 a0_0);have Z6_1:=cz_ BK936.out 1 (.int .i64 a0_1);have Z6_2:=cz_ BK936.out 2 (.string a0_2);have Y6_0:=bF_ BK936.out 0;have Y6_1:=bF_ BK936.out 1;have Y6_2:=bF_ BK936.out 2)|((with_reducible refine gC_ (f:=98) rfl ?_);refine gl_ 5 Tryd.func98 #[.int .i64 a0_0] ?_;(with_reducible refine (impl_isRoot.calls a0_0 true _ A2.out ?side1).mono ?_);(case side1=>exact Glob.below HG.out (bel_));rintro e w' ⟨rfl,⟨nd,rfl⟩⟩;refine ⟨_,rfl,?_⟩))
   go_ret
   exact ⟨fi_,bel_⟩
  ·rw [if_neg c4] at H
   have c4b0:(a0_1==0)=false:=bn_ c4
   have c4b1:(a0_1 != 0)=true:=bne_iff_ne.mpr c4
   obtain rfl:=sj_ H
   go_enter Tryd.func97,Tryd.ntmps97
   go_wp2_with (first|((with_reducible refine gD_ (N:=1) rfl ?_);refine bx_ 1 (#[.int .i64 a0_0,.int .i64 a0_1,.string a0_2]) 69 ?_;intro gb936 hg w7 hbox hb;have n0_:=a_ (bS_ (bel_) hb);have n1_:=a_ (hbox);have n2_:=a_ ((by rw [hg];exact (below_size (bel_)):w.heap.size≤gb936));have n3_:=a_ ((by rw [hg];exact (below_size (bel_)):w.heap.size≤gb936));clear HB;have HB:=n0_;have BK936:=n1_;have GW936:=n2_;have GE936:=n3_;clear n0_ n1_ n2_ n3_;clear hb hbox hg;have Z8_0:=cz_ BK936.out 0 (.int .i64 a0_0);have Z8_1:=cz_ BK936.out 1 (.int .i64 a0_1);have Z8_2:=cz_ BK936.out 2 (.string a0_2);have Y8_0:=bF_ BK936.out 0;have Y8_1:=bF_ BK936.out 1;have Y8_2:=bF_ BK936.out 2)|((with_reducible refine gC_ (f:=98) rfl ?_);refine gl_ 5 Tryd.func98 #[.int .i64 a0_0] ?_;(with_reducible refine (impl_isRoot.calls a0_0 true _ A2.out ?side1).mono ?_);(case side1=>exact Glob.below HG.out (bel_));rintro e w' ⟨rfl,⟨nd,rfl⟩⟩;refine ⟨_,rfl,?_⟩))
   go_ret
   exact ⟨fi_,bel_⟩
 ·replace c3:=Bool.eq_false_iff.mpr c3
  subst c3
  have H1:((impl_isMade.f a0_0).bind fun t938=>(if t938=true then (if a0_1≥1 then (if a0_1≤18 then ((impl_textOk.f k a0_2).bind fun t939=>(some t939)) else (some false)) else (some false)) else (some false)))=some r:=by rw [if_neg (show ¬ (false=true) by decide)] at H;exact H
  clear H
  have H:=H1
  clear H1
  replace H:=bs_ H
  obtain ⟨t938,A90,H⟩:=H
  try dsimp only at H
  have A9:=a_ A90
  clear A90
  by_cases c10:t938=true
  ·subst c10
   have H1:(if a0_1≥1 then (if a0_1≤18 then ((impl_textOk.f k a0_2).bind fun t939=>(some t939)) else (some false)) else (some false))=some r:=by rw [if_pos rfl] at H;exact H
   clear H
   have H:=H1
   clear H1
   by_cases c11:a0_1≥1
   ·rw [if_pos c11] at H
    have c11b0:decide (1≤a0_1)=true:=dt_ c11
    clear c11
    by_cases c12:a0_1≤18
    ·rw [if_pos c12] at H
     have c12b0:decide (a0_1≤18)=true:=dt_ c12
     clear c12
     replace H:=bs_ H
     obtain ⟨t939,A130,H⟩:=H
     try dsimp only at H
     have A13:=a_ A130
     clear A130
     obtain rfl:=sj_ H
     go_enter Tryd.func97,Tryd.ntmps97
     go_wp2_with (first|((with_reducible refine gD_ (N:=1) rfl ?_);refine bx_ 1 (#[.int .i64 a0_0,.int .i64 a0_1,.string a0_2]) 69 ?_;intro gb936 hg w14 hbox hb;have n0_:=a_ (bS_ (bel_) hb);have n1_:=a_ (hbox);have n2_:=a_ ((by rw [hg];exact (below_size (bel_)):w.heap.size≤gb936));have n3_:=a_ ((by rw [hg];exact (below_size (bel_)):w.heap.size≤gb936));clear HB;have HB:=n0_;have BK936:=n1_;have GW936:=n2_;have GE936:=n3_;clear n0_ n1_ n2_ n3_;clear hb hbox hg;have Z15_0:=cz_ BK936.out 0 (.int .i64 a0_0);have Z15_1:=cz_ BK936.out 1 (.int .i64 a0_1);have Z15_2:=cz_ BK936.out 2 (.string a0_2);have Y15_0:=bF_ BK936.out 0;have Y15_1:=bF_ BK936.out 1;have Y15_2:=bF_ BK936.out 2)|((with_reducible refine gC_ (f:=98) rfl ?_);refine gl_ 5 Tryd.func98 #[.int .i64 a0_0] ?_;(with_reducible refine (impl_isRoot.calls a0_0 false _ A2.out ?side1).mono ?_);(case side1=>exact Glob.below HG.out (bel_));rintro e w' ⟨rfl,⟨nd,rfl⟩⟩;refine ⟨_,rfl,?_⟩)|((with_reducible refine gC_ (f:=127) rfl ?_);refine gl_ 16 Tryd.func127 #[.int .i64 a0_0] ?_;(with_reducible refine (impl_isMade.calls a0_0 true _ A9.out ?side1).mono ?_);(case side1=>exact Glob.below HG.out (bel_));rintro e w' ⟨rfl,⟨nd,rfl⟩⟩;refine ⟨_,rfl,?_⟩)|(go_at_call 129;(with_reducible refine (impl_textOk.calls k a0_2 t939 _ A13.out).mono ?_);rintro e w' ⟨rfl,⟨nd,rfl⟩⟩))
     go_ret
     exact ⟨fi_,bel_⟩
    ·rw [if_neg c12] at H
     have c12b0:decide (a0_1≤18)=false:=df_ c12
     clear c12
     obtain rfl:=sj_ H
     go_enter Tryd.func97,Tryd.ntmps97
     go_wp2_with (first|((with_reducible refine gD_ (N:=1) rfl ?_);refine bx_ 1 (#[.int .i64 a0_0,.int .i64 a0_1,.string a0_2]) 69 ?_;intro gb936 hg w16 hbox hb;have n0_:=a_ (bS_ (bel_) hb);have n1_:=a_ (hbox);have n2_:=a_ ((by rw [hg];exact (below_size (bel_)):w.heap.size≤gb936));have n3_:=a_ ((by rw [hg];exact (below_size (bel_)):w.heap.size≤gb936));clear HB;have HB:=n0_;have BK936:=n1_;have GW936:=n2_;have GE936:=n3_;clear n0_ n1_ n2_ n3_;clear hb hbox hg;have Z17_0:=cz_ BK936.out 0 (.int .i64 a0_0);have Z17_1:=cz_ BK936.out 1 (.int .i64 a0_1);have Z17_2:=cz_ BK936.out 2 (.string a0_2);have Y17_0:=bF_ BK936.out 0;have Y17_1:=bF_ BK936.out 1;have Y17_2:=bF_ BK936.out 2)|((with_reducible refine gC_ (f:=98) rfl ?_);refine gl_ 5 Tryd.func98 #[.int .i64 a0_0] ?_;(with_reducible refine (impl_isRoot.calls a0_0 false _ A2.out ?side1).mono ?_);(case side1=>exact Glob.below HG.out (bel_));rintro e w' ⟨rfl,⟨nd,rfl⟩⟩;refine ⟨_,rfl,?_⟩)|((with_reducible refine gC_ (f:=127) rfl ?_);refine gl_ 16 Tryd.func127 #[.int .i64 a0_0] ?_;(with_reducible refine (impl_isMade.calls a0_0 true _ A9.out ?side1).mono ?_);(case side1=>exact Glob.below HG.out (bel_));rintro e w' ⟨rfl,⟨nd,rfl⟩⟩;refine ⟨_,rfl,?_⟩))
     go_ret
     exact ⟨fi_,bel_⟩
   ·rw [if_neg c11] at H
    have c11b0:decide (1≤a0_1)=false:=df_ c11
    clear c11
    obtain rfl:=sj_ H
    go_enter Tryd.func97,Tryd.ntmps97
    go_wp2_with (first|((with_reducible refine gD_ (N:=1) rfl ?_);refine bx_ 1 (#[.int .i64 a0_0,.int .i64 a0_1,.string a0_2]) 69 ?_;intro gb936 hg w18 hbox hb;have n0_:=a_ (bS_ (bel_) hb);have n1_:=a_ (hbox);have n2_:=a_ ((by rw [hg];exact (below_size (bel_)):w.heap.size≤gb936));have n3_:=a_ ((by rw [hg];exact (below_size (bel_)):w.heap.size≤gb936));clear HB;have HB:=n0_;have BK936:=n1_;have GW936:=n2_;have GE936:=n3_;clear n0_ n1_ n2_ n3_;clear hb hbox hg;have Z19_0:=cz_ BK936.out 0 (.int .i64 a0_0);have Z19_1:=cz_ BK936.out 1 (.int .i64 a0_1);have Z19_2:=cz_ BK936.out 2 (.string a0_2);have Y19_0:=bF_ BK936.out 0;have Y19_1:=bF_ BK936.out 1;have Y19_2:=bF_ BK936.out 2)|((with_reducible refine gC_ (f:=98) rfl ?_);refine gl_ 5 Tryd.func98 #[.int .i64 a0_0] ?_;(with_reducible refine (impl_isRoot.calls a0_0 false _ A2.out ?side1).mono ?_);(case side1=>exact Glob.below HG.out (bel_));rintro e w' ⟨rfl,⟨nd,rfl⟩⟩;refine ⟨_,rfl,?_⟩)|((with_reducible refine gC_ (f:=127) rfl ?_);refine gl_ 16 Tryd.func127 #[.int .i64 a0_0] ?_;(with_reducible refine (impl_isMade.calls a0_0 true _ A9.out ?side1).mono ?_);(case side1=>exact Glob.below HG.out (bel_));rintro e w' ⟨rfl,⟨nd,rfl⟩⟩;refine ⟨_,rfl,?_⟩))
    go_ret
    exact ⟨fi_,bel_⟩
  ·replace c10:=Bool.eq_false_iff.mpr c10
   subst c10
   have H1:(some false)=some r:=by rw [if_neg (show ¬ (false=true) by decide)] at H;exact H
   clear H
   have H:=H1
   clear H1
   obtain rfl:=sj_ H
   go_enter Tryd.func97,Tryd.ntmps97
   go_wp2_with (first|((with_reducible refine gD_ (N:=1) rfl ?_);refine bx_ 1 (#[.int .i64 a0_0,.int .i64 a0_1,.string a0_2]) 69 ?_;intro gb936 hg w20 hbox hb;have n0_:=a_ (bS_ (bel_) hb);have n1_:=a_ (hbox);have n2_:=a_ ((by rw [hg];exact (below_size (bel_)):w.heap.size≤gb936));have n3_:=a_ ((by rw [hg];exact (below_size (bel_)):w.heap.size≤gb936));clear HB;have HB:=n0_;have BK936:=n1_;have GW936:=n2_;have GE936:=n3_;clear n0_ n1_ n2_ n3_;clear hb hbox hg;have Z21_0:=cz_ BK936.out 0 (.int .i64 a0_0);have Z21_1:=cz_ BK936.out 1 (.int .i64 a0_1);have Z21_2:=cz_ BK936.out 2 (.string a0_2);have Y21_0:=bF_ BK936.out 0;have Y21_1:=bF_ BK936.out 1;have Y21_2:=bF_ BK936.out 2)|((with_reducible refine gC_ (f:=98) rfl ?_);refine gl_ 5 Tryd.func98 #[.int .i64 a0_0] ?_;(with_reducible refine (impl_isRoot.calls a0_0 false _ A2.out ?side1).mono ?_);(case side1=>exact Glob.below HG.out (bel_));rintro e w' ⟨rfl,⟨nd,rfl⟩⟩;refine ⟨_,rfl,?_⟩)|((with_reducible refine gC_ (f:=127) rfl ?_);refine gl_ 16 Tryd.func127 #[.int .i64 a0_0] ?_;(with_reducible refine (impl_isMade.calls a0_0 false _ A9.out ?side1).mono ?_);(case side1=>exact Glob.below HG.out (bel_));rintro e w' ⟨rfl,⟨nd,rfl⟩⟩;refine ⟨_,rfl,?_⟩))
   go_ret
   exact ⟨fi_,bel_⟩

end Go.Proofs.YtdpklbomhdpimaaDoor.P
namespace Go.Proofs.YtdpklbomhdpimaaDoor.FP
open Go.Proofs.YtdpklbomhdpimaaDoor.P
inductive Fo where
 | nil
 | nd (i:Nat) (t:ByteArray) (k n:Fo)
structure Nd where
 t:ByteArray
 up:Nat
 first:Nat
 next:Nat
def Fo.hd:Fo→Nat
 | .nil=>0
 | .nd i _ _ _=>i
def Fo.ids:Fo→List Nat
 | .nil=>[]
 | .nd i _ k n=>i::(k.ids++n.ids)
def Fo.tops:Fo→List Nat
 | .nil=>[]
 | .nd i _ _ n=>i::n.tops
def Rep (h:Nat→Nd) (up:Nat):Fo→Prop
 | .nil=>True
 | .nd i t k n=>i≠0∧h i=⟨t,up,k.hd,n.hd⟩∧Rep h i k∧Rep h up n
def sub (x:Nat):Fo→Fo
 | .nil=>.nil
 | .nd j u k n=>if j=x then k else if x∈k.ids then sub x k else sub x n
theorem nodup_nd {j:Nat} {u:ByteArray} {k n:Fo} (h:(Fo.nd j u k n).ids.Nodup):j∉k.ids∧j∉n.ids∧k.ids.Nodup∧n.ids.Nodup∧(∀ x∈k.ids,x∉n.ids):=by
 simp only [Fo.ids,List.nodup_cons,List.nodup_append,List.mem_append,not_or] at h
 exact ⟨h.1.1,h.1.2,h.2.1,h.2.2.1,fun x hx hn=>h.2.2.2 x hx x hn rfl⟩
def RepTop (h:Nat→Nd):Fo→Prop
 | .nil=>True
 | .nd i t k n=>i≠0∧h i=⟨t,0,k.hd,0⟩∧Rep h i k∧RepTop h n
theorem tops_ids:∀ {F:Fo} {x:Nat},x∈F.tops→x∈F.ids
 | .nil,x,h=>by cases h
 | .nd j t k n,x,h=>by
  simp only [Fo.tops,List.mem_cons] at h
  simp only [Fo.ids,List.mem_cons,List.mem_append]
  rcases h with h|h
  ·exact Or.inl h
  ·exact Or.inr (Or.inr (tops_ids h))
def sp:Nat→Fo→Nat
 | _,.nil=>0
 | 0,.nd i _ _ .nil=>i
 | e+1,.nd _ _ k .nil=>sp e k
 | e,.nd _ _ _ (.nd i t k n)=>sp e (.nd i t k n)
end Go.Proofs.YtdpklbomhdpimaaDoor.FP
namespace Go.Proofs.YtdpklbomhdpimaaDoor.P
open Go.RowKit Go.Proofs.YtdpklbomhdpimaaDoorW.PrintWords Go.Proofs.YtdpklbomhdpimaaDoorW.PrintLast Go.Proofs.YtdpklbomhdpimaaDoorW.PrintMore Go.Proofs.YtdpklbomhdpimaaDoor.FP
def pa (o:Option Nat):Option Addr:=o.map fun b=>⟨b,0,none⟩
theorem pa_some (b:Nat):pa (some b)=some ⟨b,0,none⟩:=rfl
def nodeC (A:Nat→Option Nat) (i:Nat) (x:Nd):Array Value:=#[.int .i64 (i:Int),.string x.t,.pointer (pa (A x.up)),.pointer (pa (A x.first)),.pointer (pa (A x.next))]
def tabC (A:Nat→Option Nat):Array Value:=((List.range 37).map fun i=>Value.pointer (pa (A i))).toArray
structure Mem (w:World) (n0 F:Nat) (A:Nat→Option Nat) (h:Nat→Nd):Prop where
 z:A 0=none
 rng:∀ i b,A i=some b→i < 37
 inj:∀ i j b,A i=some b→A j=some b→i=j
 ne:∀ i b,A i=some b→b≠F
 lo:∀ i b,A i=some b→n0≤b
 loF:n0≤F
 tab:w.heap[F]?=some (.cells (tabC A) 165 (0,0))
 nod:∀ i b,A i=some b→w.heap[b]?=some (.cells (nodeC A i (h i)) 168 (0,0))
 cu:∀ i,A i≠none→(h i).up=0∨A (h i).up≠none
 cf:∀ i,A i≠none→(h i).first=0∨A (h i).first≠none
 cn:∀ i,A i≠none→(h i).next=0∨A (h i).next≠none
theorem Mem.kept {w w':World} {n0 F:Nat} {A:Nat→Option Nat} {h:Nat→Nd} (m:Mem w n0 F A h) (hk:∀ b,b < w.heap.size→w'.heap[b]?=w.heap[b]?):Mem w' n0 F A h :=
 { m with tab:=(hk F (blk_lt m.tab)).trans m.tab,nod:=fun i b e=>(hk b (blk_lt (m.nod i b e))).trans (m.nod i b e) }
theorem Mem.below {w w':World} {n0 F:Nat} {A:Nat→Option Nat} {h:Nat→Nd} (m:Mem w n0 F A h) (hb:Below w.heap.size w w'):Mem w' n0 F A h:=m.kept fun b hl=>hb.block b hl
theorem Mem.alloc {w:World} {n0 F:Nat} {A:Nat→Option Nat} {h:Nat→Nd} (m:Mem w n0 F A h) (o:Obj):Mem (w.alloc o) n0 F A h:=m.kept fun b hl=>Below.heap_alloc w o b hl
theorem Mem.drew {w:World} {n0 F:Nat} {A:Nat→Option Nat} {h:Nat→Nd} (m:Mem w n0 F A h):Mem w.drew n0 F A h:=m.kept fun _ _=>rfl
theorem Mem.drewN {w:World} {n0 F:Nat} {A:Nat→Option Nat} {h:Nat→Nd} (m:Mem w n0 F A h) (n:Nat):Mem (w.drewN n) n0 F A h:=m.kept fun _ _=>rfl
theorem Mem.lt {w:World} {n0 F:Nat} {A:Nat→Option Nat} {h:Nat→Nd} (m:Mem w n0 F A h) {i b:Nat} (e:A i=some b):b < w.heap.size:=blk_lt (m.nod i b e)
theorem Mem.c0 {w:World} {n0 F:Nat} {A:Nat→Option Nat} {h:Nat→Nd} (m:Mem w n0 F A h) {i b:Nat} (e:A i=some b):w.cell? ⟨b,0,none⟩=some (.int .i64 (i:Int)):=(bC_ (m.nod i b e) 0).trans rfl
theorem Mem.c1 {w:World} {n0 F:Nat} {A:Nat→Option Nat} {h:Nat→Nd} (m:Mem w n0 F A h) {i b:Nat} (e:A i=some b):w.cell? ⟨b,1,none⟩=some (.string (h i).t):=(bC_ (m.nod i b e) 1).trans rfl
theorem Mem.c2 {w:World} {n0 F:Nat} {A:Nat→Option Nat} {h:Nat→Nd} (m:Mem w n0 F A h) {i b:Nat} (e:A i=some b):w.cell? ⟨b,2,none⟩=some (.pointer (pa (A (h i).up))):=(bC_ (m.nod i b e) 2).trans rfl
theorem Mem.c3 {w:World} {n0 F:Nat} {A:Nat→Option Nat} {h:Nat→Nd} (m:Mem w n0 F A h) {i b:Nat} (e:A i=some b):w.cell? ⟨b,3,none⟩=some (.pointer (pa (A (h i).first))):=(bC_ (m.nod i b e) 3).trans rfl
theorem Mem.c4 {w:World} {n0 F:Nat} {A:Nat→Option Nat} {h:Nat→Nd} (m:Mem w n0 F A h) {i b:Nat} (e:A i=some b):w.cell? ⟨b,4,none⟩=some (.pointer (pa (A (h i).next))):=(bC_ (m.nod i b e) 4).trans rfl
theorem tabC_get (A:Nat→Option Nat) (i:Nat) (hi:i < 37):(tabC A)[i]?=some (.pointer (pa (A i))):=by
 simp [tabC,hi]
theorem Mem.cF {w:World} {n0 F:Nat} {A:Nat→Option Nat} {h:Nat→Nd} (m:Mem w n0 F A h) (i:Nat) (hi:i < 37):w.cell? ⟨F,i,none⟩=some (.pointer (pa (A i))):=(bC_ m.tab i).trans (tabC_get A i hi)
def upN (h:Nat→Nd) (i:Nat) (x:Nd):Nat→Nd:=fun j=>if j=i then x else h j
def upA (A:Nat→Option Nat) (i b:Nat):Nat→Option Nat:=fun j=>if j=i then some b else A j
theorem tabC_up (A:Nat→Option Nat) (i b:Nat) (hi:i < 37):(tabC A).setIfInBounds i (.pointer (some ⟨b,0,none⟩))=tabC (upA A i b):=by
 unfold tabC
 rw [List.setIfInBounds_toArray]
 congr 1
 apply List.ext_getElem (by simp)
 intro k h1 h2
 simp only [List.getElem_set,List.getElem_map,List.getElem_range,upA]
 by_cases hk:i=k
 ·rw [if_pos hk,if_pos hk.symm];rfl
 ·rw [if_neg hk,if_neg (fun e=>hk e.symm)]
theorem Mem.add {w:World} {n0 F:Nat} {A:Nat→Option Nat} {h:Nat→Nd} (m:Mem w n0 F A h) {i:Nat} (h0:i≠0) (hi:i < 37) (hA:A i=none) (hne:∀ j,A j≠none→(h j).up≠i∧(h j).first≠i∧(h j).next≠i) {b:Nat} {t:ByteArray} (hb:∀ j,A j≠some b) (hbF:b≠F) (hlo:n0≤b)
  (hnew:w.heap[b]?=some (.cells #[.int .i64 (i:Int),.string t,.pointer none,.pointer none,.pointer none] 168 (0,0))) :
  Mem (w.setCell ⟨F,i,none⟩ (.pointer (some ⟨b,0,none⟩))) n0 F (upA A i b) (upN h i ⟨t,0,0,0⟩) where
 z:=by unfold upA;rw [if_neg (fun e=>h0 e.symm)];exact m.z
 rng:=fun j c e=>by
  unfold upA at e
  by_cases hj:j=i
  ·rw [hj];exact hi
  ·rw [if_neg hj] at e;exact m.rng j c e
 inj:=fun j k c ej ek=>by
  unfold upA at ej ek
  by_cases hj:j=i
  ·by_cases hk:k=i
   ·rw [hj,hk]
   ·rw [if_pos hj] at ej;rw [if_neg hk] at ek
    exact absurd (ek.trans ej.symm) (hb k)
  ·by_cases hk:k=i
   ·rw [if_neg hj] at ej;rw [if_pos hk] at ek
    exact absurd (ej.trans ek.symm) (hb j)
   ·rw [if_neg hj] at ej;rw [if_neg hk] at ek
    exact m.inj j k c ej ek
 ne:=fun j c e=>by
  unfold upA at e
  by_cases hj:j=i
  ·rw [if_pos hj] at e;rw [←sj_ e];exact hbF
  ·rw [if_neg hj] at e;exact m.ne j c e
 lo:=fun j c e=>by
  unfold upA at e
  by_cases hj:j=i
  ·rw [if_pos hj] at e;rw [←sj_ e];exact hlo
  ·rw [if_neg hj] at e;exact m.lo j c e
 loF:=m.loF
 tab:=by
  rw [←tabC_up A i b hi]
  exact blk_set m.tab i _
 nod:=fun j c e=>by
  have hF:∀ {c:Nat} {cs:Array Value} {t:TypeId},c≠F→w.heap[c]?=some (.cells cs t (0,0))→(w.setCell ⟨F,i,none⟩ (.pointer (some ⟨b,0,none⟩))).heap[c]?=some (.cells cs t (0,0)):=fun hc hh=>blk_far hh (p:=⟨F,i,none⟩) hc _
  unfold upA at e
  by_cases hj:j=i
  ·rw [if_pos hj] at e
   obtain rfl:=sj_ e
   subst hj
   have:nodeC (upA A j b) j (upN h j ⟨t,0,0,0⟩ j)=#[.int .i64 (j:Int),.string t,.pointer none,.pointer none,.pointer none]:=by
    have h0':¬ (0=j):=fun e=>h0 e.symm
    simp [nodeC,upN,upA,h0',m.z,pa]
   rw [this]
   exact hF hbF hnew
  ·rw [if_neg hj] at e
   have hn:=m.nod j c e
   have e2:nodeC (upA A i b) j (upN h i ⟨t,0,0,0⟩ j)=nodeC A j (h j):=by
    obtain ⟨n1,n2,n3⟩:=hne j (by rw [e];simp)
    unfold nodeC upN upA
    rw [if_neg hj,if_neg n1,if_neg n2,if_neg n3]
   rw [e2]
   exact hF (m.ne j c e) hn
 cu:=fun j hj=>by
  unfold upN
  by_cases hji:j=i
  ·rw [if_pos hji];exact Or.inl rfl
  ·rw [if_neg hji]
   have hj':A j≠none:=by unfold upA at hj;rw [if_neg hji] at hj;exact hj
   rcases m.cu j hj' with h1|h1
   ·exact Or.inl h1
   ·right;unfold upA;split;simp;exact h1
 cf:=fun j hj=>by
  unfold upN
  by_cases hji:j=i
  ·rw [if_pos hji];exact Or.inl rfl
  ·rw [if_neg hji]
   have hj':A j≠none:=by unfold upA at hj;rw [if_neg hji] at hj;exact hj
   rcases m.cf j hj' with h1|h1
   ·exact Or.inl h1
   ·right;unfold upA;split;simp;exact h1
 cn:=fun j hj=>by
  unfold upN
  by_cases hji:j=i
  ·rw [if_pos hji];exact Or.inl rfl
  ·rw [if_neg hji]
   have hj':A j≠none:=by unfold upA at hj;rw [if_neg hji] at hj;exact hj
   rcases m.cn j hj' with h1|h1
   ·exact Or.inl h1
   ·right;unfold upA;split;simp;exact h1
end Go.Proofs.YtdpklbomhdpimaaDoor.P
namespace Go.Proofs.YtdpklbomhdpimaaDoor.P
open Go.RowKit Go.Shelf Go.Proofs.YtdpklbomhdpimaaDoorW.PrintWords Go.Proofs.YtdpklbomhdpimaaDoorW.PrintLast Go.Proofs.YtdpklbomhdpimaaDoorW.PrintMore Go.Proofs.YtdpklbomhdpimaaDoor.FP
attribute [local go_sem] Oper.semAt_some

def NList (A:Nat→Option Nat) (n0:Nat) (W:World):Option Addr→List Nat→Prop
 | p,[]=>p=none
 | p,x::rest=>∃ b q,A x=some b∧p=some ⟨b,0,none⟩∧b < n0∧W.cell? ⟨b,4,none⟩=some (.pointer q)∧NList A n0 W q rest
theorem NList.below {A:Nat→Option Nat} {n0:Nat} {V W:World} (h:Below n0 V W):∀ {p:Option Addr} {xs:List Nat},NList A n0 V p xs→NList A n0 W p xs
 | _,[],hl=>hl
 | _,_::_,⟨b,q,h1,h2,h3,h4,h5⟩=>⟨b,q,h1,h2,h3,(h.cell (p:=⟨b,4,none⟩) h3).trans h4,NList.below h h5⟩
theorem NList.len {A:Nat→Option Nat} {n0:Nat} {W:World}:∀ {xs ys:List Nat} {p:Option Addr},NList A n0 W p xs→NList A n0 W p ys→xs.length=ys.length
 | [],[],_,_,_=>rfl
 | [],_::_,_,h,⟨b,q,_,h2,_⟩=>by rw [show _=none from h] at h2;cases h2
 | _::_,[],_,⟨b,q,_,h2,_⟩,h=>by rw [show _=none from h] at h2;cases h2
 | _::_,_::_,_,⟨b,q,h1,h2,h3,h4,h5⟩,⟨c,r,g1,g2,g3,g4,g5⟩=>by
  rw [h2] at g2
  obtain rfl:b=c:=congrArg Addr.block (sj_ g2)
  rw [h4] at g4
  obtain rfl:q=r:=by injection g4 with e;injection e
  rw [List.length_cons,List.length_cons,NList.len h5 g5]
open Classical in
noncomputable def nleft (A:Nat→Option Nat) (n0:Nat) (W:World) (v:Value):Nat :=
 if h:∃ r:Option Addr×List Nat,v=.pointer r.1∧NList A n0 W r.1 r.2 then (Classical.choose h).2.length else 0
theorem nleft_eq {A:Nat→Option Nat} {n0:Nat} {W:World} {q:Option Addr} {xs:List Nat} (h:NList A n0 W q xs):nleft A n0 W (.pointer q)=xs.length:=by
 have hex:∃ r:Option Addr×List Nat,Value.pointer q=.pointer r.1∧NList A n0 W r.1 r.2:=⟨(q,xs),rfl,h⟩
 unfold nleft
 rw [dif_pos hex]
 obtain ⟨e,hl⟩:=Classical.choose_spec hex
 have e':q=(Classical.choose hex).1:=by simpa using e
 rw [←e'] at hl
 exact NList.len hl h
theorem nlist_of {w:World} {n0 F:Nat} {A:Nat→Option Nat} {h:Nat→Nd} (m:Mem w n0 F A h) {up:Nat}:∀ {G:Fo},Rep h up G→(∀ x∈G.ids,A x≠none)→NList A w.heap.size w (pa (A G.hd)) G.tops
 | .nil,_,_=>by show pa (A 0)=none;rw [m.z];rfl
 | .nd i t k n,⟨h1,h2,h3,h4⟩,hA=>by
  obtain ⟨b,hb⟩:=Option.ne_none_iff_exists'.1 (hA i (by simp [Fo.ids]))
  refine ⟨b,pa (A n.hd),hb,by show pa (A i)=_;rw [hb];rfl,m.lt hb,?_,nlist_of m h4 fun x hx=>hA x (by simp [Fo.ids,hx])⟩
  rw [m.c4 hb,h2]
theorem kids_in (F:Fence) (n:Nat) (hf:F.fn 156) (hro:F.round=none) (p0:Option Addr) (w:World) :
  CallsIn F n Tryd.prog 156 #[.pointer p0] w fun e w'=>e=.returned (.func (.func 157) #[] #[.pointer (some ⟨w.heap.size,0,none⟩)])∧w'=w.alloc (.cells #[.pointer p0] 162):=by
 refine callsIn_of_wp Tryd.func156 rfl hf ?_ hro
 simp only [Tryd.ntmps156,List.size_toArray,List.length_cons,List.length_nil,Nat.reduceAdd,Nat.reduceSub,Array.replicate_succ,Array.replicate_zero,List.push_toArray,List.append_toArray,List.nil_append,List.cons_append]
 gi_wp2
 go_ret
 exact ⟨rfl,rfl⟩
structure KA (Q:Nat→Prop) where
 val:Nat
 ok:Q val
theorem kids1_in (F:Fence) (n:Nat) (hf:F.fn 157) (hro:F.round=none) (hn:1≤n) (l Bn n0 b:Nat) (Q:Nat→Prop) (A:Nat→Option Nat) (p0:Option Addr) (xs:List (KA Q)) (J Jx:List (KA Q)→World→Prop)
  (hY:∀ pre x W,J pre W→pre.length < xs.length→YieldAt F (n - 1) Tryd.prog l #[.pointer (pa (A x.val))] W fun e W' =>
   (e=.returned (.bool true)∧J (pre++[x]) W'∧Below n0 W W')∨(e=.returned (.bool false)∧Jx (pre++[x]) W'))
  (W:World) (hBn:W.cell? ⟨Bn,0,none⟩=some (.pointer (some ⟨b,0,none⟩))) (hb3:W.cell? ⟨b,3,none⟩=some (.pointer p0)) (hL:NList A n0 W p0 (xs.map KA.val)) (h0:J [] W) :
  CallsIn F n Tryd.prog 157 #[.func (.yield l) #[] #[],.pointer (some ⟨Bn,0,none⟩)] W fun e W'=>(∃ v,e=.returned v) ∧
   ((∃ ys,ys=xs∧J ys W')∨(∃ pre,pre <+: xs∧Jx pre W')):=by
 refine callsIn_of_wp Tryd.func157 rfl hf ?_ hro
 simp only [Tryd.ntmps157,List.size_toArray,List.length_cons,List.length_nil,Nat.reduceAdd,Nat.reduceSub,Array.replicate_succ,Array.replicate_zero,List.push_toArray,List.append_toArray,List.nil_append,List.cons_append]
 gi_wp2
 gi_loopw [3] (fun p wr=>∃ (pre rest:List (KA Q)) (q:Option Addr),p=.pointer q∧xs=pre++rest∧NList A n0 wr q (rest.map KA.val)∧J pre wr)
  (fun p wr=>nleft A n0 wr p)
 case atStart =>
  exact ⟨[],xs,p0,rfl,rfl,hL,h0⟩
 case round =>
  obtain ⟨pre,rest,q,rfl,hx,hl,hJs⟩:=hrel
  cases rest with
  | nil =>
   obtain rfl:q=none:=hl
   gi_wp2
   go_end0
   exact ⟨⟨_,rfl⟩,.inl ⟨pre,by simp [hx],hJs⟩⟩
  | cons x rest =>
   have hl':=hl
   obtain ⟨c,q',hA,rfl,hc,hq,hr⟩:=hl
   obtain ⟨fn,tmps,assign,body,hy,hR⟩:=hY pre x wr hJs (by rw [hx];simp)
   rw [hA,pa_some] at hy
   have HA:=a_ hA
   clear hA
   gi_wp2
   refine hR.mono ?_
   rintro e W3 (⟨rfl,hJ3,hk3⟩|⟨rfl,hJx3⟩)
   ·have hq3:W3.cell? ⟨c,4,none⟩=some (.pointer q'):=(hk3.cell (p:=⟨c,4,none⟩) hc).trans hq
    gi_wp2
    go_roundw
    case rel=>exact ⟨pre++[x],rest,q',rfl,by simp [hx],hr.below hk3,hJ3⟩
    case measure=>rw [nleft_eq (hr.below hk3),nleft_eq hl'];simp
   ·gi_wp2
    refine bodyPost_ret (results_none rfl _ _ _) rfl ?_
    exact ⟨⟨_,rfl⟩,.inr ⟨pre++[x],⟨rest,by simp [hx]⟩,hJx3⟩⟩
theorem kids_stops (F:Fence) (n:Nat) (hf:F.fn 157) (hro:F.round=none) (hn:1≤n) (Bn n0 b:Nat) (Q:Nat→Prop) (A:Nat→Option Nat) (p0:Option Addr) (xs:List (KA Q)) (w:World) (hBn:Bn < w.heap.size) (hn0:n0≤w.heap.size) (hb:b < w.heap.size)
  (hc:w.cell? ⟨Bn,0,none⟩=some (.pointer (some ⟨b,0,none⟩))) (hb3:w.cell? ⟨b,3,none⟩=some (.pointer p0)) (hL:NList A n0 w p0 (xs.map KA.val)) :
  SeqStopsK F n Tryd.prog 157 #[.pointer (some ⟨Bn,0,none⟩)] (fun x:KA Q=>#[.pointer (pa (A x.val))]) (Below n0) (fun ys=>ys=xs) (fun pre=>pre <+: xs) xs.length w:=fun l J Jx W hW _ _ hY h0 =>
 kids1_in F n hf hro hn l Bn n0 b Q A p0 xs J Jx hY W ((hW.cell (p:=⟨Bn,0,none⟩) hBn).trans hc) ((hW.cell (p:=⟨b,3,none⟩) hb).trans hb3) (hL.below (hW.mono hn0)) h0
theorem attach_val {Q:Nat→Prop}:∀ {l:List Nat} (h:∀ x∈l,Q x),∃ xs:List (KA Q),xs.map KA.val=l
 | [],_=>⟨[],rfl⟩
 | x::l,h=>by
  obtain ⟨xs,hx⟩:=attach_val (l:=l) fun y hy=>h y (List.mem_cons_of_mem _ hy)
  exact ⟨⟨x,h x List.mem_cons_self⟩::xs,by rw [List.map_cons,hx]⟩
def pv (i:Nat):Nat→List Nat→Nat
 | p,[]=>p
 | p,y::r=>if y=i then p else pv i y r
theorem cell_of_box_f {W:World} {B:Nat} {v:Value} {t:TypeId} (h:W.heap[B]?=some (.cells #[v] t (0,0))):W.cell? ⟨B,0,none⟩=some v∧W.frozen? ⟨B,0,none⟩=false:=by
 constructor <;> simp [World.cell?,World.frozen?,h]
theorem cell_new_f (W:World) (v:Value) (t:TypeId):(W.alloc (.cells #[v] t)).cell? ⟨W.heap.size,0,none⟩=some v∧(W.alloc (.cells #[v] t)).frozen? ⟨W.heap.size,0,none⟩=false :=
 cell_of_box_f (World.alloc_heap_new W _)
end Go.Proofs.YtdpklbomhdpimaaDoor.P
namespace Go.Proofs.YtdpklbomhdpimaaDoor.FP
open Go.Proofs.YtdpklbomhdpimaaDoor.P
def under (u x:Nat) (F:Fo):Prop:=u∈F.ids∧(x=u∨x∈(sub u F).ids)
instance (u x:Nat) (F:Fo):Decidable (under u x F):=by unfold under;exact inferInstance
end Go.Proofs.YtdpklbomhdpimaaDoor.FP
namespace Go.Proofs.YtdpklbomhdpimaaDoor.PL
open Go.RowKit Go.Proofs.YtdpklbomhdpimaaDoor.P Go.Proofs.YtdpklbomhdpimaaDoorW.PrintWords Go.Proofs.YtdpklbomhdpimaaDoorW.PrintLast
theorem evnow {α:Type} (a:α):Ev (fun _=>some a) a:=⟨0,fun _ _=>rfl⟩
theorem ev_neg {α:Type} {c:Prop} [Decidable c] {f g:Nat→Option α} {r:α} (h:¬ c) (k:Ev g r):Ev (fun n=>if c then f n else g n) r:=Ev.congr (fun _=>if_neg h) k
theorem ev_pos {α:Type} {c:Prop} [Decidable c] {f g:Nat→Option α} {r:α} (h:c) (k:Ev f r):Ev (fun n=>if c then f n else g n) r:=Ev.congr (fun _=>if_pos h) k
theorem wrapS (i:Int) (h0:0≤i) (h:i≤4611686018427387904):wrap64 (i+1)=i+1:=by unfold wrap64;omega
theorem wrapT (i:Int) (h0:0≤i) (h:i+1≤9223372036854775807):wrap64 (i+1)=i+1:=by unfold wrap64;omega
def I64 (a:Int):Prop:=-9223372036854775808≤a∧a≤9223372036854775807

def madeB (a:Int):Bool:=decide (ownI a≠0)&&decide (ownI a≠1)
def rootB (a:Int):Bool:=decide (1≤a)&&decide (a≤3)
theorem in_f (a b c:Int):spec_l6In.f a b c=some (decide (b≤a)&&decide (a≤c)):=by
 unfold spec_l6In.f
 by_cases h:a≥b
 ·rw [if_pos h];simp [h]
 ·rw [if_neg h];simp [show ¬ b≤a from h]
theorem ownI_out (a:Int) (h:a < 0∨37≤a):ownI a=0:=by
 unfold ownI
 rw [if_neg (by omega)]
theorem small_root:∀ n:Nat,n < 37→(decide (ownI n≠0)&&decide (ownI n - 1=0))=rootB n:=by decide
theorem isMade_f (a:Int):impl_isMade.f a=some (madeB a):=by
 unfold impl_isMade.f impl_RowWho.f madeB
 simp only [Option.bind_some]
 by_cases h0:ownI a=0
 ·rw [if_pos h0];simp [h0]
 ·rw [if_neg h0]
  by_cases h1:ownI a=1
  ·simp [h1]
  ·simp [h0,h1]
   omega
theorem isRoot_f (a:Int):impl_isRoot.f a=some (rootB a):=by
 unfold impl_isRoot.f impl_RowWho.f
 simp only [Option.bind_some]
 by_cases hs:0≤a∧a < 37
 ·obtain ⟨n,rfl⟩:∃ n:Nat,a=n:=⟨a.toNat,by omega⟩
  have:=small_root n (by omega)
  rw [←this]
  by_cases h0:ownI (n:Int)=0
  ·rw [if_pos h0];simp [h0]
  ·rw [if_neg h0]
   by_cases h1:ownI (n:Int) - 1=0 <;> simp [h0,h1]
 ·rw [if_pos (ownI_out a (by omega))]
  have:rootB a=false:=by unfold rootB;simp;omega
  rw [this]
  simp
def idB (a:Int):Bool:=rootB a || madeB a
def placeB (u a:Int):Bool:=idB u&&(decide (a=0) || madeB a)
theorem place_f (u a:Int):impl_placeOk.f u a=some (placeB u a):=by
 unfold impl_placeOk.f placeB idB
 rw [isMade_f,isMade_f,isRoot_f]
 simp only [Option.bind_some]
 by_cases h:a=0
 ·simp only [h,if_true]
  cases madeB u <;> cases rootB u <;> simp
 ·simp only [h,if_false]
  cases madeB u <;> cases rootB u <;> simp
def textFrom (s:ByteArray) (i:Nat):Nat→Bool
 | 0=>true
 | n+1=>decide (97≤bt s i)&&decide (bt s i≤100)&&textFrom s (i+1) n
def textB (s:ByteArray):Bool:=textFrom s 0 s.size&&decide (s.size≤4)
theorem itext_l0 (s:ByteArray) (hs:s.size≤9223372036854775807):∀ (n:Nat) (i:Nat),i+n=s.size→Ev (fun k=>impl_textOk.l0 k s i) (textFrom s i n)
 | 0,i,h=>by
  refine Ev.step (f:=fun _=>some true) (fun k=>?_) (evnow _)
  simp only [impl_textOk.l0];rw [if_neg (by omega)]
 | n+1,i,h=>by
  unfold textFrom
  by_cases h1:bt s i < 97
  ·have:decide (97≤bt s i)=false:=df_ (by omega)
   rw [this,Bool.false_and,Bool.false_and]
   refine Ev.step (f:=fun _=>some false) (fun k=>?_) (evnow _)
   simp only [impl_textOk.l0]
   rw [if_pos (by omega),if_pos (by omega),if_pos h1]
  ·by_cases h2:bt s i > 100
   ·have:decide (bt s i≤100)=false:=df_ (by omega)
    rw [this,Bool.and_false,Bool.false_and]
    refine Ev.step (f:=fun _=>some false) (fun k=>?_) (evnow _)
    simp only [impl_textOk.l0]
    rw [if_pos (by omega),if_pos (by omega),if_neg h1,if_pos h2]
   ·have e1:decide (97≤bt s i)=true:=dt_ (by omega)
    have e2:decide (bt s i≤100)=true:=dt_ (by omega)
    rw [e1,e2,Bool.true_and,Bool.true_and]
    refine Ev.step (fun k=>?_) (itext_l0 s hs n (i+1) (by omega))
    simp only [impl_textOk.l0]
    rw [if_pos (by omega),if_pos (by omega),if_neg h1,if_neg h2,wrapT i (by omega) (by omega)]
    rfl
theorem itext_f (s:ByteArray) (hs:s.size≤9223372036854775807):Ev (fun k=>impl_textOk.f k s) (textB s):=by
 unfold impl_textOk.f textB
 by_cases h:(s.size:Int) > 4
 ·refine ev_pos h ?_
  have:decide (s.size≤4)=false:=df_ (by omega)
  rw [this,Bool.and_false]
  exact evnow _
 ·refine ev_neg h ?_
  have:decide (s.size≤4)=true:=dt_ (by omega)
  rw [this,Bool.and_true]
  exact itext_l0 s hs s.size 0 (by omega)
def opB (k i u a:Int) (s:ByteArray):Bool :=
 madeB i&&(if k=1 then placeB u a&&textB s else if k=2 then decide (u=0)&&decide (a=0)&&textB s else if k=3 then placeB u a&&s.toList.isEmpty else false)
theorem opOk_f (k i u a:Int) (s:ByteArray) (hs:s.size≤9223372036854775807):Ev (fun n=>impl_OpOk.f n k i u a s) (opB k i u a s):=by
 unfold impl_OpOk.f impl_changeOf.f opB
 rw [isMade_f]
 simp only [Option.bind_some]
 cases madeB i with
 | false=>simp only [Bool.false_eq_true,if_false,Bool.false_and];exact evnow _
 | true =>
  simp only [if_true,Bool.true_and,place_f,Option.bind_some]
  by_cases h1:k=1
  ·simp only [h1,if_true]
   cases placeB u a with
   | true=>simp only [if_true,Bool.true_and];exact itext_f s hs
   | false=>simp only [Bool.false_eq_true,if_false,Bool.false_and];exact evnow _
  ·simp only [h1,if_false]
   by_cases h2:k=2
   ·simp only [h2,if_true]
    by_cases h3:u=0
    ·by_cases h4:a=0
     ·simp only [h3,h4,if_true,decide_true,Bool.true_and];exact itext_f s hs
     ·simp only [h3,h4,if_true,if_false,decide_true,decide_false,Bool.true_and,Bool.false_and];exact evnow _
    ·simp only [h3,if_false,decide_false,Bool.false_and];exact evnow _
   ·simp only [h2,if_false]
    by_cases h3:k=3
    ·simp only [h3,if_true]
     cases placeB u a with
     | true=>simp only [if_true,Bool.true_and];exact evnow _
     | false=>simp only [Bool.false_eq_true,if_false,Bool.false_and];exact evnow _
    ·simp only [h3,if_false];exact evnow _
theorem made_small (a:Int) (h:madeB a=true):0≤a∧a < 37:=by
 rcases Int.lt_or_le a 0 with h0|h0
 ·unfold madeB at h;rw [ownI_out a (by omega)] at h;simp at h
 ·rcases Int.lt_or_le a 37 with h1|h1
  ·exact ⟨h0,h1⟩
  ·unfold madeB at h;rw [ownI_out a (by omega)] at h;simp at h
theorem opB_made (k i u a:Int) (s:ByteArray) (h:opB k i u a s=true):madeB i=true:=by
 unfold opB at h
 simp only [Bool.and_eq_true] at h
 exact h.1
def rowB (r:S69):Bool:=if rootB r.f0 then decide (r.f1=0)&&(r.f2.toList==([]:List UInt8)) else madeB r.f0&&(decide (1≤r.f1)&&(decide (r.f1≤18)&&textB r.f2))
theorem itext_any (s:ByteArray):Ev (fun k=>impl_textOk.f k s) (textB s):=by
 by_cases hs:s.size≤9223372036854775807
 ·exact itext_f s hs
 ·have e:textB s=false:=by unfold textB;simp;omega
  rw [e]
  refine Ev.congr (fun k=>?_) (evnow false)
  unfold impl_textOk.f
  exact if_pos (by omega)
theorem row_f (r:S69):Ev (fun k=>impl_RowOk.f k r.f0 r.f1 r.f2) (rowB r):=by
 unfold impl_RowOk.f rowB
 rw [isRoot_f,isMade_f]
 simp only [Option.bind_some]
 cases rootB r.f0 with
 | true =>
  simp only [if_true]
  by_cases h:r.f1=0
  ·simp only [h,if_true,decide_true,Bool.true_and];exact evnow _
  ·simp only [h,if_false,decide_false,Bool.false_and];exact evnow _
 | false =>
  cases madeB r.f0 with
  | false=>simp only [Bool.false_eq_true,if_false,Bool.false_and];exact evnow _
  | true =>
   simp only [Bool.false_eq_true,if_false,if_true,Bool.true_and]
   by_cases h1:1≤r.f1
   ·refine ev_pos h1 ?_
    by_cases h2:r.f1≤18
    ·refine ev_pos h2 ?_
     simp only [h1,h2,decide_true,Bool.true_and]
     exact Ev.bind (itext_any r.f2) (evnow _)
    ·refine ev_neg h2 ?_
     simp only [h1,h2,decide_true,decide_false,Bool.true_and,Bool.false_and]
     exact evnow _
   ·refine ev_neg h1 ?_
    simp only [h1,decide_false,Bool.false_and]
    exact evnow _
end Go.Proofs.YtdpklbomhdpimaaDoor.PL
namespace Go.Proofs.YtdpklbomhdpimaaDoor.P
open Go.RowKit Go.Proofs.YtdpklbomhdpimaaDoorW.PrintWords Go.Proofs.YtdpklbomhdpimaaDoorW.PrintLast Go.Proofs.YtdpklbomhdpimaaDoorW.PrintMore Go.Proofs.YtdpklbomhdpimaaDoor.PL
def treeGo (seen:List Int) (roots depth:Int):List S69→Bool
 | []=>decide (roots=3)
 | r::rest=>rowB r&&(decide (r.f0∉seen)&&(decide (r.f1≤depth+1) &&
   (if rootB r.f0 then decide (r.f0=roots+1)&&treeGo (r.f0::seen) (roots+1) r.f1 rest else treeGo (r.f0::seen) roots r.f1 rest)))
def treeB (l:List S69):Bool:=treeGo [] 0 (-1) l
def impl_TreeOk.f (k:Nat) (l0:List S69):Option Bool:=some (treeB l0)
theorem impl_TreeOk.mono (l0:List S69) (k:Nat):LeO (impl_TreeOk.f k l0) (impl_TreeOk.f (k+1) l0):=LeO.refl _
def timesC (seen:List Int):Array Value:=((List.range 37).map fun i:Nat=>Value.int .i64 (if (i:Int)∈seen then 1 else 0)).toArray
theorem timesC_get (seen:List Int) (i:Nat) (hi:i < 37):(timesC seen)[i]?=some (.int .i64 (if (i:Int)∈seen then 1 else 0)):=by
 simp [timesC,hi]
theorem timesC_set (seen:List Int) (i:Nat) (hi:i < 37) (hs:(i:Int)∉seen):(timesC seen).setIfInBounds i (.int .i64 1)=timesC ((i:Int)::seen):=by
 unfold timesC
 rw [List.setIfInBounds_toArray]
 congr 1
 apply List.ext_getElem (by simp)
 intro k h1 h2
 simp only [List.getElem_set,List.getElem_map,List.getElem_range,List.mem_cons]
 by_cases hk:i=k
 ·subst hk;simp
 ·have:¬ ((k:Int)=(i:Int)):=fun e=>hk (by omega)
  rw [if_neg hk]
  simp [this]
theorem rowB_id {r:S69} (h:rowB r=true):0≤r.f0∧r.f0 < 37∧0≤r.f1∧r.f1≤18:=by
 unfold rowB at h
 by_cases hr:rootB r.f0=true
 ·rw [if_pos hr] at h
  unfold rootB at hr
  simp only [Bool.and_eq_true,decide_eq_true_eq] at hr h
  omega
 ·rw [if_neg hr] at h
  simp only [Bool.and_eq_true,decide_eq_true_eq] at h
  have:=made_small _ h.1
  omega
def TreeRel (l0:List S69) (r:Bool) (w:World) (ro dp i:Value) (wr:World):Prop :=
 ∃ (j roots depth:Int) (seen:List Int),0≤j∧j≤l0.length∧i=.int .i64 j∧ro=.int .i64 roots∧dp=.int .i64 depth∧(0≤roots∧roots≤3)∧(-1≤depth∧depth≤18)∧Aside0 (treeGo seen roots depth (l0.drop j.toNat)=r) ∧
  Aside0 (wr.heap[w.heap.size]?=some (.cells (timesC seen) 126 (0,0)))∧Aside0 (Below w.heap.size w wr)
theorem impl_TreeOk.calls (k:Nat) (A0:Option Addr) (c0:Nat) (l0:List S69) (r:Bool) (w:World) (hr0:Kd.C k69 w A0 l0.length l0) (hc0:l0.length≤c0) (h:impl_TreeOk.f k l0=some r) (hG:Glob w) :
  Calls Tryd.prog 45 #[.slice A0 l0.length c0] w fun e w'=>e=.returned (.bool r)∧Below w.heap.size w w':=by
 have hlen:=hr0.2.1
 have HR0:=a_ hr0
 have HG:=a_ hG
 have HH:=a_ (sj_ h)
 clear hr0 hG h
 go_enter Tryd.func45,Tryd.ntmps45
 go_wp2
 go_loopw [4,5,10] (fun ro dp i wr=>TreeRel l0 r w ro dp i wr) (fun _ _ i _=>l0.length - (intOf i).toNat)
 case atStart=>exact ⟨0,0,-1,[],Int.le_refl _,by omega,rfl,rfl,rfl,by omega,by omega,HH,⟨heap_alloc_new w (.cells (timesC []) 126)⟩,⟨below_box0 w _⟩⟩
 case round =>
  obtain ⟨j,roots,depth,seen,hj0,hj,rfl,rfl,rfl,hro,hdp,HGO,HT,HB⟩:=hrel
  clear HH
  by_cases hlt:j < l0.length
  ·have hd1:decide (j < (l0.length:Int))=true:=dt_ hlt
   obtain ⟨ad,e,hx0,hx1,hx2⟩:=at_T69 HR0.out j hj0 hlt
   cases e
   replace hx0:=(cb_ HB.out hx0 :)
   replace hx1:=(cb_ HB.out hx1 :)
   replace hx2:=(cb_ HB.out hx2 :)
   have hu:=Tryd.underlying69
   have hxe:rd_T69 l0 j=l0[j.toNat]'(by omega):=by
    unfold rd_T69
    rw [List.getD_eq_getElem?_getD,List.getElem?_eq_getElem (by omega)]
    rfl
   have htd:=List.drop_eq_getElem_cons (l:=l0) (i:=j.toNat) (by omega)
   rw [←hxe] at htd
   have hgo:=HGO.out
   rw [htd] at hgo
   clear HGO hxe
   generalize rd_T69 l0 j=x at hx0 hx1 hx2 htd hgo
   rw [show j.toNat+1=(j+1).toNat by omega] at htd hgo
   unfold treeGo at hgo
   obtain ⟨kr,hkr⟩:=row_f x
   have HKR:=a_ (hkr kr (Nat.le_refl _))
   have p1:=eq_true hj0
   have q1:=eq_true hlt
   have HGO:=a_ hgo
   have HTD:=a_ htd
   have HJ:=a_ (And.intro hj0 (And.intro hlt (And.intro hro hdp)))
   have HL:=a_ (show w.heap.size < wr.heap.size from blk_lt HT.out)
   have HB1:=a_ (wA_ HB.out (.cells #[.int .i64 x.f0,.int .i64 x.f1,.string x.f2] 69))
   have HT1:=a_ (bA_ HT.out (.cells #[.int .i64 x.f0,.int .i64 x.f1,.string x.f2] 69))
   clear hj0 hlt htd hgo hkr HB HT hro hdp
   by_cases hrow:rowB x=true
   ·have hid:=rowB_id hrow
    rw [hrow] at HKR
    have hgo:=HGO.out
    rw [hrow,Bool.true_and] at hgo
    clear HGO hrow
    obtain ⟨i,hi⟩:=Int.eq_ofNat_of_zero_le hid.1
    have hi37:i < 37:=by omega
    have hne:w.heap.size≠wr.heap.size:=by have:=HL.out;omega
    have hne':wr.heap.size≠w.heap.size:=fun e=>hne e.symm
    have i0:0≤(i:Int):=by omega
    have i37:(i:Int) < 37:=by omega
    have hf1:0≤x.f1:=hid.2.2.1
    have hf18:x.f1≤18:=hid.2.2.2
    have hdp0:-1≤depth:=HJ.out.2.2.2.1
    have hdp1:depth≤18:=HJ.out.2.2.2.2
    rw [hi] at hgo HKR HB1 HT1 hx0
    have HXI:=a_ hi
    clear hi hid
    by_cases hs:(i:Int)∈seen
    ·have HTG:=a_ (show (timesC seen)[i]?=some (.int .i64 1) by rw [timesC_get seen i hi37,if_pos hs])
     have hr:r=false:=by rw [←hgo,df_ (fun h=>h hs)];rfl
     clear hgo hs
     subst hr
     go_wp2_with (go_at_call 97;refine (impl_RowOk.calls kr (i:Int) x.f1 x.f2 true _ HKR.out (HG.out.below HB1.out)).mono ?_;rintro e W2 ⟨rfl,hb⟩;have HB2:=a_ (bS_ HB1.out hb);have HT2:=a_ (blk_below HT1.out hb);have HX2:=a_ (blk_below (blk_new wr _) hb);clear hb;have d0:=(bC_ HX2.out 0).trans rfl;have d1:=(bC_ HX2.out 1).trans rfl;have t0:=(bC_ HT2.out i).trans HTG.out;have tf:=bF_ HT2.out i)
     go_ret
     exact ⟨rfl,HB2.out⟩
    ·have HTG:=a_ (show (timesC seen)[i]?=some (.int .i64 0) by rw [timesC_get seen i hi37,if_neg hs])
     have HTS:=a_ (timesC_set seen i hi37 hs)
     rw [dt_ hs,Bool.true_and] at hgo
     clear hs
     by_cases hdep:x.f1≤depth+1
     ·have hdb:decide (depth+1 < x.f1)=false:=df_ (by omega)
      rw [dt_ hdep,Bool.true_and] at hgo
      clear hdep
      by_cases hroot:rootB (i:Int)=true
      ·have HRF:=a_ (isRoot_f (i:Int))
       rw [hroot] at HRF
       rw [if_pos hroot] at hgo
       have hr3:1≤i∧i≤3:=by unfold rootB at hroot;simp at hroot;omega
       have hro0:0≤roots:=HJ.out.2.2.1.1
       have hro3:roots≤3:=HJ.out.2.2.1.2
       clear hroot
       by_cases hn:(i:Int)=roots+1
       ·have hb1:((i:Int) != roots+1)=false:=bne_eq_false_iff_eq.2 hn
        rw [dt_ hn,Bool.true_and] at hgo
        have HN:=a_ hn
        have HGO:=a_ hgo
        clear hn hgo
        go_wp2_with (first|(go_at_call 97;refine (impl_RowOk.calls kr (i:Int) x.f1 x.f2 true _ HKR.out (HG.out.below HB1.out)).mono ?_;rintro e W2 ⟨rfl,hb⟩;have HB2:=a_ (bS_ HB1.out hb);have HT2:=a_ (blk_below HT1.out hb);have HX2:=a_ (blk_below (blk_new wr _) hb);clear hb;have d0:=(bC_ HX2.out 0).trans rfl;have d1:=(bC_ HX2.out 1).trans rfl;have t0:=(bC_ HT2.out i).trans HTG.out;have tf:=bF_ HT2.out i)|(go_at_call 98;refine (impl_isRoot.calls (i:Int) true _ HRF.out (HG.out.below (wS_ HB2.out (Nat.le_refl _)))).mono ?_;rintro e w' ⟨rfl,⟨nd,rfl⟩⟩))
        have hjj:=HJ.out
        have hww:wrap64 (j+1)=j+1:=by unfold wrap64;omega
        refine ⟨⟨j+1,roots+1,x.f1,(i:Int)::seen,by omega,by omega,by first|rfl|rw [hww],rfl,rfl,by have:=HN.out;omega,by omega,HGO,⟨?_⟩,⟨pw_below_drewN (wS_ HB2.out (Nat.le_refl _)) _⟩⟩,?_⟩
        ·have:=blk_set HT2.out i (.int .i64 1)
         rw [HTS.out] at this
         exact this
        ·first|(show l0.length - (j+1).toNat < l0.length - j.toNat;omega)|(rw [hww];show l0.length - (j+1).toNat < l0.length - j.toNat;omega)
       ·have hb1:((i:Int) != roots+1)=true:=bne_iff_ne.2 hn
        rw [df_ hn,Bool.false_and] at hgo
        subst hgo
        clear hn
        go_wp2_with (first|(go_at_call 97;refine (impl_RowOk.calls kr (i:Int) x.f1 x.f2 true _ HKR.out (HG.out.below HB1.out)).mono ?_;rintro e W2 ⟨rfl,hb⟩;have HB2:=a_ (bS_ HB1.out hb);have HT2:=a_ (blk_below HT1.out hb);have HX2:=a_ (blk_below (blk_new wr _) hb);clear hb;have d0:=(bC_ HX2.out 0).trans rfl;have d1:=(bC_ HX2.out 1).trans rfl;have t0:=(bC_ HT2.out i).trans HTG.out;have tf:=bF_ HT2.out i)|(go_at_call 98;refine (impl_isRoot.calls (i:Int) true _ HRF.out (HG.out.below (wS_ HB2.out (Nat.le_refl _)))).mono ?_;rintro e w' ⟨rfl,⟨nd,rfl⟩⟩))
        go_ret
        exact ⟨rfl,pw_below_drewN (wS_ HB2.out (Nat.le_refl _)) _⟩
      ·have hroot:rootB (i:Int)=false:=by simpa using hroot
       have HRF:=a_ (isRoot_f (i:Int))
       rw [hroot] at HRF
       rw [if_neg (by rw [hroot];decide)] at hgo
       have HGO:=a_ hgo
       clear hroot hgo
       go_wp2_with (first|(go_at_call 97;refine (impl_RowOk.calls kr (i:Int) x.f1 x.f2 true _ HKR.out (HG.out.below HB1.out)).mono ?_;rintro e W2 ⟨rfl,hb⟩;have HB2:=a_ (bS_ HB1.out hb);have HT2:=a_ (blk_below HT1.out hb);have HX2:=a_ (blk_below (blk_new wr _) hb);clear hb;have d0:=(bC_ HX2.out 0).trans rfl;have d1:=(bC_ HX2.out 1).trans rfl;have t0:=(bC_ HT2.out i).trans HTG.out;have tf:=bF_ HT2.out i)|(go_at_call 98;refine (impl_isRoot.calls (i:Int) false _ HRF.out (HG.out.below (wS_ HB2.out (Nat.le_refl _)))).mono ?_;rintro e w' ⟨rfl,⟨nd,rfl⟩⟩))
       have hjj:=HJ.out
       have hww:wrap64 (j+1)=j+1:=by unfold wrap64;omega
       refine ⟨⟨j+1,roots,x.f1,(i:Int)::seen,by omega,by omega,by first|rfl|rw [hww],rfl,rfl,by omega,by omega,HGO,⟨?_⟩,⟨pw_below_drewN (wS_ HB2.out (Nat.le_refl _)) _⟩⟩,?_⟩
       ·have:=blk_set HT2.out i (.int .i64 1)
        rw [HTS.out] at this
        exact this
       ·first|(show l0.length - (j+1).toNat < l0.length - j.toNat;omega)|(rw [hww];show l0.length - (j+1).toNat < l0.length - j.toNat;omega)
     ·have hdb:decide (depth+1 < x.f1)=true:=dt_ (by omega)
      rw [df_ hdep,Bool.false_and] at hgo
      subst hgo
      clear hdep
      go_wp2_with (go_at_call 97;refine (impl_RowOk.calls kr (i:Int) x.f1 x.f2 true _ HKR.out (HG.out.below HB1.out)).mono ?_;rintro e W2 ⟨rfl,hb⟩;have HB2:=a_ (bS_ HB1.out hb);have HT2:=a_ (blk_below HT1.out hb);have HX2:=a_ (blk_below (blk_new wr _) hb);clear hb;have d0:=(bC_ HX2.out 0).trans rfl;have d1:=(bC_ HX2.out 1).trans rfl;have t0:=(bC_ HT2.out i).trans HTG.out;have tf:=bF_ HT2.out i)
      go_ret
      exact ⟨rfl,HB2.out⟩
   ·have hrow:rowB x=false:=by simpa using hrow
    rw [hrow] at HKR
    have hgo:=HGO.out
    rw [hrow,Bool.false_and] at hgo
    subst hgo
    clear hrow HGO
    go_wp2_with (go_at_call 97;refine (impl_RowOk.calls kr x.f0 x.f1 x.f2 false _ HKR.out (HG.out.below HB1.out)).mono ?_;rintro e W2 ⟨rfl,hb⟩;have HB2:=a_ (bS_ HB1.out hb);have HT2:=a_ (blk_below HT1.out hb);have HX2:=a_ (blk_below (blk_new wr _) hb);clear hb;have d0:=(bC_ HX2.out 0).trans rfl;have d1:=(bC_ HX2.out 1).trans rfl)
    go_ret
    exact ⟨rfl,HB2.out⟩
  ·have hd1:decide (j < (l0.length:Int))=false:=df_ hlt
   have hgo:=HGO.out
   rw [List.drop_eq_nil_of_le (by omega)] at hgo
   unfold treeGo at hgo
   have HGO2:=a_ hgo
   clear hgo HGO hlt
   by_cases h3:roots=3
   ·subst h3
    go_wp2
    go_ret
    exact ⟨by rw [←HGO2.out];rfl,HB.out⟩
   ·have hb3:(roots==3)=false:=beq_eq_false_iff_ne.2 h3
    have HGO3:=a_ (df_ h3)
    clear h3
    go_wp2
    go_ret
    exact ⟨by rw [←HGO2.out,HGO3.out];rfl,HB.out⟩
end Go.Proofs.YtdpklbomhdpimaaDoor.P
namespace Go.Proofs.YtdpklbomhdpimaaDoor.P
open Go.RowKit Go.Proofs.YtdpklbomhdpimaaDoorW.PrintWords Go.Proofs.YtdpklbomhdpimaaDoorW.PrintLast Go.Proofs.YtdpklbomhdpimaaDoorW.PrintMore Go.Proofs.YtdpklbomhdpimaaDoor.PL Go.Proofs.YtdpklbomhdpimaaDoor.FP
theorem Mem.far {w:World} {n0 F:Nat} {A:Nat→Option Nat} {h:Nat→Nd} (m:Mem w n0 F A h) {p:Addr} (hF:F≠p.block) (hA:∀ i,A i≠some p.block) (v:Value):Mem (w.setCell p v) n0 F A h :=
 { m with tab:=blk_far m.tab hF v,nod:=fun i b e=>blk_far (m.nod i b e) (fun e2=>hA i (e2 ▸ e)) v }
theorem as_hit {P:Program} {t xT:TypeId} {fs:Array Field} (hu:P.underlying t=some (.struct fs)) (v:Value) (w:World):(Instr.typeAssert (.iface t v) xT t true).run P w=.ok (.tuple #[v,.bool true]) w:=by
 simp [Instr.typeAssert,run_underlying hu]
theorem as_miss {P:Program} {t t' xT:TypeId} {fs:Array Field} {z:Value} (hu:P.underlying t'=some (.struct fs)) (hz:(P.info? t').map (·.zero)=some (some z)) (hne:t≠t') (v:Value) (w:World):(Instr.typeAssert (.iface t v) xT t' true).run P w=.ok (.tuple #[z,.bool false]) w:=by
 obtain ⟨j,hj,hz'⟩:=Option.map_eq_some_iff.1 hz
 simp [Instr.typeAssert,run_underlying hu,typeInfo,zeroValue,hj,hz',hne]
@[go_sem]
theorem as_mm (v:Value) (w:World):(Instr.typeAssert (.iface 156 v) 118 156 true).run Tryd.prog w=.ok (.tuple #[v,.bool true]) w:=as_hit Tryd.underlying156 v w
@[go_sem]
theorem as_tt (v:Value) (w:World):(Instr.typeAssert (.iface 159 v) 118 159 true).run Tryd.prog w=.ok (.tuple #[v,.bool true]) w:=as_hit Tryd.underlying159 v w
@[go_sem]
theorem as_vv (v:Value) (w:World):(Instr.typeAssert (.iface 161 v) 118 161 true).run Tryd.prog w=.ok (.tuple #[v,.bool true]) w:=as_hit Tryd.underlying161 v w
def zM:Value:=.agg #[.int .i64 0,.int .i64 0,.int .i64 0,.string ByteArray.empty]
def zT:Value:=.agg #[.int .i64 0,.string ByteArray.empty]
def zV:Value:=.agg #[.int .i64 0,.int .i64 0,.int .i64 0]
@[go_sem]
theorem as_tm (v:Value) (w:World):(Instr.typeAssert (.iface 159 v) 118 156 true).run Tryd.prog w=.ok (.tuple #[zM,.bool false]) w:=as_miss Tryd.underlying156 (by kernel_rfl) (by decide) v w
@[go_sem]
theorem as_vm (v:Value) (w:World):(Instr.typeAssert (.iface 161 v) 118 156 true).run Tryd.prog w=.ok (.tuple #[zM,.bool false]) w:=as_miss Tryd.underlying156 (by kernel_rfl) (by decide) v w
@[go_sem]
theorem as_mt (v:Value) (w:World):(Instr.typeAssert (.iface 156 v) 118 159 true).run Tryd.prog w=.ok (.tuple #[zT,.bool false]) w:=as_miss Tryd.underlying159 (by kernel_rfl) (by decide) v w
@[go_sem]
theorem as_vt (v:Value) (w:World):(Instr.typeAssert (.iface 161 v) 118 159 true).run Tryd.prog w=.ok (.tuple #[zT,.bool false]) w:=as_miss Tryd.underlying159 (by kernel_rfl) (by decide) v w
@[go_sem]
theorem as_mv (v:Value) (w:World):(Instr.typeAssert (.iface 156 v) 118 161 true).run Tryd.prog w=.ok (.tuple #[zV,.bool false]) w:=as_miss Tryd.underlying161 (by kernel_rfl) (by decide) v w
@[go_sem]
theorem as_tv (v:Value) (w:World):(Instr.typeAssert (.iface 159 v) 118 161 true).run Tryd.prog w=.ok (.tuple #[zV,.bool false]) w:=as_miss Tryd.underlying161 (by kernel_rfl) (by decide) v w
end Go.Proofs.YtdpklbomhdpimaaDoor.P
namespace Go.Proofs.YtdpklbomhdpimaaDoor.P
open Go.RowKit Go.Shelf Go.Proofs.YtdpklbomhdpimaaDoorW.PrintWords Go.Proofs.YtdpklbomhdpimaaDoorW.PrintLast Go.Proofs.YtdpklbomhdpimaaDoorW.PrintMore Go.Proofs.YtdpklbomhdpimaaDoor.FP
attribute [local go_sem] Oper.semAt_some

theorem roomN {F:Fence} (hd:F.depth=none) (k:Nat):F.room k:=fun d h=>by rw [hd] at h;cases h
theorem callsIn_any {F:Fence} (hd:F.depth=none) {m m':Nat} {P:Program} {f:FuncId} {args:Array Value} {w:World} {R:Ending→World→Prop} (h:CallsIn F m P f args w R):CallsIn F m' P f args w R :=
 ⟨h.1,fun cs _=>h.2 cs (roomN hd _)⟩
theorem KeepsFrom.mono {B B':Nat} {W W':World} (h:KeepsFrom B W W') (hB:B≤B'):KeepsFrom B' W W':=⟨h.size,fun k o hk=>h.same k o (Nat.le_trans hB hk)⟩
def Stb {β:Type} (B0:Nat) (J:β→World→Prop):Prop :=
 ∀ s V W row,J s V→V.grownBy W row→(∀ r,row=some r→B0≤r∧∃ o:Obj,V.heap[r]?=some o∧(o.isCells=false∨∃ v,o=.cells #[v] 4 (0,0)))→J s W
theorem Stb.own {β:Type} {B0 B:Nat} {J:β→World→Prop} (h:Stb B0 J) (hB:B0≤B):OwnFrom B J:=fun s V W row hs hg hr=>h s V W row hs hg fun r e=>by
 obtain ⟨h1,o,h2,h3⟩:=hr r e
 exact ⟨Nat.le_trans hB h1,o,h2,Or.inl h3⟩
theorem Stb.alloc {β:Type} {B0:Nat} {J:β→World→Prop} (h:Stb B0 J) {s:β} {V:World} (o:Obj) (hs:J s V):J s (V.alloc o):=h s V _ none hs (World.grownBy_alloc V o none) (fun r e=>by cases e)
theorem Stb.put {β:Type} {B0:Nat} {J:β→World→Prop} (h:Stb B0 J) {s:β} {V:World} {l:Nat} {o:Obj} (o':Obj) (hs:J s V) (hl:V.heap[l]?=some o) (ho:o.isCells=false) (hB:B0≤l):J s (V.putObj l o') :=
 h s V _ (some l) hs (grownBy_putObj' V l o') (fun r e=>by cases e;exact ⟨hB,o,hl,Or.inl ho⟩)
theorem Stb.box {β:Type} {B0:Nat} {J:β→World→Prop} (h:Stb B0 J) {s:β} {V:World} {l:Nat} {v:Value} (v':Value) (hs:J s V) (hl:Boxed V l 4 v) (hB:B0≤l):J s (V.setCell ⟨l,0,none⟩ v') :=
 h s V _ (some l) hs (grownBy_setCell' V l v') (fun r e=>by cases e;exact ⟨hB,_,hl,Or.inr ⟨v,rfl⟩⟩)
structure YE (A:Nat→Option Nat) where
 val:Nat
 dep:Int
 ok:A val≠none
 d0:0≤dep∧dep≤1000
def YE.pr {A:Nat→Option Nat} (e:YE A):Nat×Int:=(e.val,e.dep)
theorem YE.inj {A:Nat→Option Nat}:∀ {e e':YE A},e.pr=e'.pr→e=e'
 | ⟨v,d,_,_⟩,⟨v',d',_,_⟩,h=>by
  have h1:v=v':=congrArg Prod.fst h
  have h2:d=d':=congrArg Prod.snd h
  subst h1;subst h2;rfl
theorem YE.inj_map {A:Nat→Option Nat}:∀ {l l':List (YE A)},l.map YE.pr=l'.map YE.pr→l=l'
 | [],[],_=>rfl
 | [],_::_,h=>by cases h
 | _::_,[],h=>by cases h
 | e::l,e'::l',h=>by
  rw [List.map_cons,List.map_cons] at h
  rw [YE.inj (List.cons.inj h).1,YE.inj_map (List.cons.inj h).2]
def mkYE (A:Nat→Option Nat):(l:List (Nat×Int))→(∀ p∈l,A p.1≠none∧0≤p.2∧p.2≤1000)→List (YE A)
 | [],_=>[]
 | p::l,h=>⟨p.1,p.2,(h p List.mem_cons_self).1,(h p List.mem_cons_self).2⟩::mkYE A l fun q hq=>h q (List.mem_cons_of_mem _ hq)
theorem mkYE_pr (A:Nat→Option Nat):∀ (l:List (Nat×Int)) (h:∀ p∈l,A p.1≠none∧0≤p.2∧p.2≤1000),(mkYE A l h).map YE.pr=l
 | [],_=>rfl
 | p::l,h=>by
  unfold mkYE
  rw [List.map_cons,mkYE_pr A l]
  rfl
def pre1 (d:Int):Fo→List (Nat×Int)
 | .nil=>[]
 | .nd i _ k n=>(i,d)::(pre1 (d+1) k++pre1 d n)
theorem pre1_len:∀ (F:Fo) (d:Int),(pre1 d F).length=F.ids.length
 | .nil,d=>rfl
 | .nd i t k n,d=>by simp [pre1,Fo.ids,pre1_len k,pre1_len n]
theorem pre1_mem:∀ {F:Fo} {d:Int} {p:Nat×Int},p∈pre1 d F→p.1∈F.ids∧d≤p.2∧p.2 < d+F.ids.length
 | .nil,d,p,h=>by cases h
 | .nd i t k n,d,p,h=>by
  simp only [pre1,List.mem_cons,List.mem_append] at h
  simp only [Fo.ids,List.mem_cons,List.mem_append,List.length_cons,List.length_append]
  rcases h with rfl|h|h
  ·exact ⟨Or.inl rfl,by simp,by simp;omega⟩
  ·obtain ⟨h1,h2,h3⟩:=pre1_mem h
   exact ⟨Or.inr (Or.inl h1),by omega,by omega⟩
  ·obtain ⟨h1,h2,h3⟩:=pre1_mem h
   exact ⟨Or.inr (Or.inr h1),by omega,by omega⟩
def kf (x:Nat):Fo→Fo
 | .nil=>.nil
 | .nd j _ k n=>if j=x then k else kf x n
theorem kf_spec {h:Nat→Nd} {x:Nat}:∀ {F:Fo} {up:Nat},Rep h up F→F.ids.Nodup→x∈F.tops→Rep h x (kf x F)∧(h x).first=(kf x F).hd∧(∀ y∈(kf x F).ids,y∈F.ids)∧(kf x F).ids.length < F.ids.length∧(kf x F).ids.Nodup
 | .nil,_,_,_,hx=>by cases hx
 | .nd j t k n,up,⟨h1,h2,h3,h4⟩,hn,hx=>by
  obtain ⟨n1,n2,n3,n4,n5⟩:=nodup_nd hn
  unfold kf
  by_cases e:j=x
  ·subst e
   rw [if_pos rfl]
   exact ⟨h3,by rw [h2],fun y hy=>by simp [Fo.ids,hy],by simp [Fo.ids];omega,n3⟩
  ·rw [if_neg e]
   have hx':x∈n.tops:=by
    simp only [Fo.tops,List.mem_cons] at hx
    exact hx.resolve_left fun e'=>e e'.symm
   obtain ⟨g1,g2,g3,g4,g5⟩:=kf_spec h4 n4 hx'
   exact ⟨g1,g2,fun y hy=>by simp [Fo.ids,g3 y hy],by simp [Fo.ids];omega,g5⟩
theorem flatMap_congr' {α β:Type} {f g:α→List β}:∀ {l:List α},(∀ x∈l,f x=g x)→l.flatMap f=l.flatMap g
 | [],_=>rfl
 | x::l,h=>by rw [List.flatMap_cons,List.flatMap_cons,h x List.mem_cons_self,flatMap_congr' fun y hy=>h y (List.mem_cons_of_mem _ hy)]
theorem pre1_kids:∀ (F:Fo) (d:Int),F.ids.Nodup→pre1 d F=F.tops.flatMap fun x=>(x,d)::pre1 (d+1) (kf x F)
 | .nil,d,_=>rfl
 | .nd j t k n,d,hn=>by
  obtain ⟨n1,n2,n3,n4,n5⟩:=nodup_nd hn
  simp only [Fo.tops,List.flatMap_cons,pre1]
  rw [pre1_kids n d n4]
  have e1:kf j (Fo.nd j t k n)=k:=by unfold kf;exact if_pos rfl
  rw [e1,List.cons_append]
  congr 2
  refine flatMap_congr' fun x hx=>?_
  have e2:kf x (Fo.nd j t k n)=kf x n:=by
   have:j≠x:=fun e=>n2 (tops_ids (e ▸ hx))
   show (if j=x then k else kf x n)=kf x n
   exact if_neg this
  rw [e2]
theorem map_flatMap' {α β γ:Type} (f:α→List β) (g:β→γ):∀ (l:List α),(l.flatMap f).map g=l.flatMap fun x=>(f x).map g
 | []=>rfl
 | x::l=>by rw [List.flatMap_cons,List.flatMap_cons,List.map_append,map_flatMap' f g l]
theorem flatMap_map' {α β γ:Type} (f:β→List γ) (g:α→β):∀ (l:List α),(l.map g).flatMap f=l.flatMap fun x=>f (g x)
 | []=>rfl
 | x::l=>by rw [List.map_cons,List.flatMap_cons,List.flatMap_cons,flatMap_map' f g l]
theorem flatMap_len {α β:Type} (f:α→List β) (c:Nat):∀ (l:List α),(∀ x∈l,(f x).length≤c)→(l.flatMap f).length≤c * l.length
 | [],_=>by simp
 | x::l,h=>by
  rw [List.flatMap_cons,List.length_append,List.length_cons,Nat.mul_add]
  have h1:=h x List.mem_cons_self
  have h2:=flatMap_len f c l fun y hy=>h y (List.mem_cons_of_mem _ hy)
  omega
theorem tops_len:∀ (F:Fo),F.tops.length≤F.ids.length
 | .nil=>Nat.le_refl _
 | .nd i t k n=>by
  have:=tops_len n
  simp only [Fo.tops,Fo.ids,List.length_cons,List.length_append]
  omega
attribute [local go_sem] Oper.semAt_some

def KB (V W:World):Prop:=∀ (b:Nat) (t:TypeId) (v:Value),(t=3∨t=194∨t=4∨t=162∨t=121)→Boxed V b t v→Boxed W b t v
theorem KB.refl (W:World):KB W W:=fun _ _ _ _ h=>h
theorem KB.trans {U V W:World} (h:KB U V) (k:KB V W):KB U W:=fun b t v ht hb=>k b t v ht (h b t v ht hb)
theorem KB.grown {V W:World} {row:Option Nat} (hg:V.grownBy W row) (hr:∀ r,row=some r→∃ o:Obj,V.heap[r]?=some o∧o.isCells=false):KB V W:=fun b t v _ hb=>hb.kept hg fun e=>by
 obtain ⟨o,h1,h2⟩:=hr b e.symm
 have h3:V.heap[b]?=some (.cells #[v] t (0,0)):=hb
 rw [h3] at h1
 rw [←sj_ h1] at h2
 cases h2
theorem KB.alloc {U V:World} (h:KB U V) (o:Obj):KB U (V.alloc o):=h.trans (KB.grown (World.grownBy_alloc V o none) (fun r e=>by cases e))
structure Stp (w0:World) (B0:Nat) (V W:World):Prop where
 below:Below w0.heap.size V W
 from_:KeepsFrom B0 V W
 kb:KB V W
theorem Stp.refl (w0:World) (B0:Nat) (W:World):Stp w0 B0 W W:=⟨Below.refl _ _,KeepsFrom.refl _ _,KB.refl _⟩
theorem Stp.trans {w0:World} {B0:Nat} {U V W:World} (h:Stp w0 B0 U V) (k:Stp w0 B0 V W):Stp w0 B0 U W:=⟨h.below.trans k.below,h.from_.trans k.from_,h.kb.trans k.kb⟩
theorem Stp.alloc {w0:World} {B0:Nat} {U V:World} (h:Stp w0 B0 U V) (hB:w0.heap.size≤V.heap.size) (o:Obj):Stp w0 B0 U (V.alloc o):=⟨h.below.alloc hB _,h.from_.trans ((KeepsOthers.alloc _ _).from _),h.kb.alloc o⟩
theorem ownFrom_stp {β:Type} {B B0:Nat} {w0 U:World} (h1:w0.heap.size≤U.heap.size) (h2:U.heap.size≤B):OwnFrom B (fun (_:β) W=>Stp w0 B0 U W):=fun s V W row hs hg hr =>
 ⟨ownFrom_below (n₀:=w0.heap.size) (β:=Unit) h1 (Nat.le_trans h1 h2) () V W row hs.below hg hr,ownFrom_keepsFrom (β:=Unit) (B:=B0) h2 () V W row hs.from_ hg hr,hs.kb.trans (KB.grown hg fun r e=>(hr r e).2)⟩
def WalkI {A:Nat→Option Nat} {Q:Nat→Prop} (J:List (YE A)→World→Prop) (pre:List (YE A)) (ys:KA Q→List (YE A)) (w0 W0:World) (B0 g l:Nat) (d:Int) (ks:List (KA Q)) (W:World):Prop :=
 J (pre++ks.flatMap ys) W∧(Boxed W g 3 (.int .i64 d)∧Boxed W (g+1) 194 (.func (.yield l) #[] #[])∧Boxed W (g+1+1) 4 (.bool false))∧Stp w0 B0 W0 W
theorem walkI_own {A:Nat→Option Nat} {Q:Nat→Prop} {J:List (YE A)→World→Prop} {pre:List (YE A)} {ys:KA Q→List (YE A)} {w0 W0:World} {B0 g l B:Nat} {d:Int} (hJ:Stb B0 J) (hB:B0≤B) (h1:w0.heap.size≤W0.heap.size) (h2:W0.heap.size≤B) :
    OwnFrom B (WalkI (Q:=Q) J pre ys w0 W0 B0 g l d):=fun s V W row hs hg hr =>
  ⟨hJ.own hB (pre++s.flatMap ys) V W row hs.1 hg hr,
   ⟨boxed_own g _ (fun (_:Unit)=>_) () V W row hs.2.1.1 hg (fun r e=>(hr r e).2),boxed_own (g+1) _ (fun (_:Unit)=>_) () V W row hs.2.1.2.1 hg (fun r e=>(hr r e).2),boxed_own (g+1+1) _ (fun (_:Unit)=>_) () V W row hs.2.1.2.2 hg (fun r e=>(hr r e).2)⟩,
   ownFrom_stp (β:=Unit) h1 h2 () V W row hs.2.2 hg hr⟩
theorem KB.far {U V:World} (h:KB U V) {g:Nat} (hg:U.heap.size≤g) (v:Value):KB U (V.setCell ⟨g,0,none⟩ v):=fun b t u ht hb=>(h b t u ht hb).other (fun e=>by have:=hb.lt;omega) v
theorem KeepsFrom.far {B:Nat} {U V:World} (h:KeepsFrom B U V) {D:Nat} (hD:U.heap.size≤D) {o:Obj} (hK:V.heap[D]?=some o) (ho:o.isCells=false) (o':Obj):KeepsFrom B U (V.putObj D o') :=
 ownFrom_keepsFrom (β:=Unit) (B':=U.heap.size) (Nat.le_refl _) () V _ (some D) h (grownBy_putObj' V D o') (fun r e=>by cases e;exact ⟨hD,o,hK,ho⟩)
def WalkPost {A:Nat→Option Nat} (J:List (YE A)→World→Prop) (w0:World) (B0:Nat) (l:List (YE A)) (W:World) (e:Ending) (W':World):Prop:=e=.returned (.bool true)∧J l W'∧Stp w0 B0 W W'
theorem wlk_in_ (F:Fence) (hd:F.depth=none) (h81:F.fn 153) (h56:F.fn 156) (h76:F.fn 157) (hro:F.round=none) (l N B0:Nat) {w0:World} {n0 Fb:Nat} {A:Nat→Option Nat} {h:Nat→Nd} (m:Mem w0 n0 Fb A h)
  (J:List (YE A)→World→Prop) (hJ:Stb B0 J)
  (hY:∀ (q:Nat) (pre:List (YE A)) (x:YE A) (W:World),J pre W→Below w0.heap.size w0 W→pre.length < N→YieldAt F q Tryd.prog l #[.pointer (pa (A x.val)),.int .i64 x.dep] W (WalkPost J w0 B0 (pre++[x]) W)) :
  ∀ (s:Nat) (k:Fo),k.ids.length < s→∀ (q i:Nat) (d:Int) (es pre:List (YE A)) (W:World),Rep h i k→k.ids.Nodup→(∀ x∈k.ids,A x≠none)→A i≠none→(h i).first=k.hd→es.map YE.pr=(i,d)::pre1 (d+1) k→J pre W→Below w0.heap.size w0 W→B0≤W.heap.size →
   pre.length+1400 * (k.ids.length+1)≤N→k.ids.length≤36→0≤d→d+k.ids.length≤900 →
   CallsIn F q Tryd.prog 153 #[.pointer (pa (A i)),.int .i64 d,.func (.yield l) #[] #[]] W (WalkPost J w0 B0 (pre++es) W):=by
 intro s
 induction s with
 | zero=>intro k hk;omega
 | succ s ih =>
  intro k hks q i d es pre W hR hnd hAk hAi hfirst hes hJ0 hB hB0 hN h36 hd0 hd1
  obtain ⟨b,hb⟩:=Option.ne_none_iff_exists'.1 hAi
  -- what is handed on
  obtain ⟨e0,rest,rfl⟩:∃ e0 rest,es=e0::rest:=by
   cases es with
   | nil=>cases hes
   | cons e0 rest=>exact ⟨e0,rest,rfl⟩
  rw [List.map_cons] at hes
  obtain ⟨he0,hrest⟩:=List.cons.inj hes
  have hv:e0.val=i:=congrArg Prod.fst he0
  have hdp:e0.dep=d:=congrArg Prod.snd he0
  obtain ⟨ks,hks2⟩:=attach_val (Q:=fun y=>y∈k.tops) (l:=k.tops) fun x hx=>hx
  have hok:∀ x:KA (fun y=>y∈k.tops),∀ p∈(x.val,d+1)::pre1 (d+1+1) (kf x.val k),A p.1≠none∧0≤p.2∧p.2≤1000:=fun x p hp=>by
   obtain ⟨g1,g2,g3,g4,g5⟩:=kf_spec hR hnd x.ok
   rcases List.mem_cons.1 hp with rfl|hp
   ·exact ⟨hAk _ (tops_ids x.ok),by simp;omega,by simp;omega⟩
   ·obtain ⟨a1,a2,a3⟩:=pre1_mem hp
    exact ⟨hAk _ (g3 _ a1),by omega,by omega⟩
  obtain ⟨ys,hys⟩:∃ ys:KA (fun y=>y∈k.tops)→List (YE A),∀ x,(ys x).map YE.pr=(x.val,d+1)::pre1 (d+1+1) (kf x.val k):=⟨fun x=>mkYE A _ (hok x),fun x=>mkYE_pr A _ (hok x)⟩
  have hrest2:rest=ks.flatMap ys:=by
   apply YE.inj_map
   rw [hrest,map_flatMap',pre1_kids k (d+1) hnd]
   refine ((congrArg (fun (z:List Nat)=>z.flatMap fun x=>(x,d+1)::pre1 (d+1+1) (kf x k)) hks2).symm.trans (flatMap_map' _ KA.val ks)).trans ?_
   exact flatMap_congr' fun x _=>(hys x).symm
  have hyl:∀ x,(ys x).length≤36:=fun x=>by
   have h1:=congrArg List.length (hys x)
   have g4:=(kf_spec hR hnd x.ok).2.2.2.1
   rw [List.length_map,List.length_cons,pre1_len] at h1
   omega
  have hkl:ks.length≤36:=by
   have h1:=congrArg List.length hks2
   rw [List.length_map] at h1
   have:=tops_len k
   omega
  subst hrest2
  clear hes hrest hok he0
  have hsz:=hB.size
  -- the boxes
  obtain ⟨W3,hW3⟩:∃ W3,W3=((W.alloc (.cells #[.int .i64 d] 3)).alloc (.cells #[.func (.yield l) #[] #[]] 194)).alloc (.cells #[.bool false] 4):=⟨_,rfl⟩
  have b1:=((Boxed.new W 3 (.int .i64 d)).alloc (.cells #[.func (.yield l) #[] #[]] 194)).alloc (.cells #[.bool false] 4)
  have b2:=(Boxed.new (W.alloc (.cells #[.int .i64 d] 3)) 194 (.func (.yield l) #[] #[])).alloc (.cells #[.bool false] 4)
  have b3:=Boxed.new ((W.alloc (.cells #[.int .i64 d] 3)).alloc (.cells #[.func (.yield l) #[] #[]] 194)) 4 (.bool false)
  simp only [World.size_alloc] at b2 b3
  have hJ3:J pre W3:=by rw [hW3];exact hJ.alloc _ (hJ.alloc _ (hJ.alloc _ hJ0))
  have hS3:Stp w0 B0 W W3:=by rw [hW3];exact (((Stp.refl w0 B0 W).alloc hsz _).alloc (by simp;omega) _).alloc (by simp;omega) _
  have hz3:W3.heap.size=W.heap.size+3:=by rw [hW3];simp
  rw [←hW3] at b1 b2 b3
  obtain ⟨fn,tmps,assign,body,hy,hRd⟩:=hY 7 pre e0 W3 hJ3 (hB.trans hS3.below) (by omega)
  rw [hv,hdp,hb,pa_some] at hy
  have cD:=b1.cell
  have cY:=b2.cell
  have M:=a_ m
  have HB:=a_ hB
  have HBi:=a_ hb
  have HS3:=a_ hS3
  refine callsIn_any hd (m:=8) ?_
  rw [hb,pa_some]
  refine callsIn_of_wp_marks Tryd.func153 rfl h81 ?_ hro
  simp only [Tryd.ntmps153,List.size_toArray,List.length_cons,List.length_nil,Nat.reduceAdd,Nat.reduceSub,Array.replicate_succ,Array.replicate_zero,List.push_toArray,List.append_toArray,List.nil_append,List.cons_append]
  rw [hW3] at hy cD cY
  gi_wp2
  rw [←hW3]
  refine hRd.mono ?_
  clear hRd hy cD cY hJ3 hS3
  rintro e W4 ⟨rfl,hJ4,hS4⟩
  have HJ4:=a_ hJ4
  have HS4:=a_ (HS3.out.trans hS4)
  have HK4:=a_ hS4.kb
  have HZ4:=a_ hS4.below.size
  clear hJ4 hS4
  gi_wp2_with (gi_at_call 156;refine (kids_in F _ h56 hro _ _).mono ?_;rintro e w' ⟨rfl,rfl⟩)
  have hS4:=HS4.out
  have hz4:W3.heap.size≤W4.heap.size:=HZ4.out
  obtain ⟨W5,hW5⟩:∃ W5,W5=W4.alloc (.cells #[.pointer (some ⟨b,0,none⟩)] 162):=⟨_,rfl⟩
  have hz5:W5.heap.size=W4.heap.size+1:=by rw [hW5];simp
  have hB05:B0≤W5.heap.size:=by omega
  have hbox:W5.cell? ⟨W4.heap.size,0,none⟩=some (.pointer (some ⟨b,0,none⟩)):=by rw [hW5];exact (cell_new_f W4 _ _).1
  have hS45:Stp w0 B0 W4 W5:=by rw [hW5];exact (Stp.refl w0 B0 W4).alloc (by omega) _
  have hB5:Below w0.heap.size w0 W5:=(HB.out.trans hS4.below).trans hS45.below
  have M5:=M.out.below hB5
  have c3:=M5.c3 HBi.out
  rw [hfirst] at c3
  have hL:NList A w0.heap.size W5 (pa (A k.hd)) (ks.map KA.val):=by rw [hks2];exact (nlist_of M.out hR hAk).below hB5
  have hbl:b < w0.heap.size:=M.out.lt HBi.out
  have hI0:WalkI J (pre++[e0]) ys w0 W5 B0 W.heap.size l d [] W5:=⟨by rw [List.flatMap_nil,List.append_nil,hW5];exact hJ.alloc _ HJ4.out,⟨hS45.kb _ _ _ (Or.inl rfl) (HK4.out _ _ _ (Or.inl rfl) b1),hS45.kb _ _ _ (Or.inr (Or.inl rfl)) (HK4.out _ _ _ (Or.inr (Or.inl rfl)) b2),hS45.kb _ _ _ (Or.inr (Or.inr (Or.inl rfl))) (HK4.out _ _ _ (Or.inr (Or.inr (Or.inl rfl))) b3)⟩,Stp.refl _ _ _⟩
  rw [←hW5]
  have HB5:=a_ hB5
  have HS45:=a_ hS45
  clear b1 b2 b3 hB5 hS45
  refine wpIn_rangeFunc_ownG hro (show 1≤8 by omega) (gf:=157) (lb:=#[.pointer (some ⟨W4.heap.size,0,none⟩)]) rfl h76 (enters_of Tryd.func157 (by kernel_rfl) rfl)
   (kids_stops F 7 h76 hro (by omega) W4.heap.size w0.heap.size b (fun y=>y∈k.tops) A (pa (A k.hd)) ks W5 (by omega) (by omega) (by omega) hbox c3 hL) belowK_t (belowK_b (by omega)) (Below.refl _ _) (fun _=>by rfl)
   (WalkI J (pre++[e0]) ys w0 W5 B0 W.heap.size l d) (fun _ _ _=>False) (walkI_own hJ (by omega) (by omega) (by omega)) (fun _ _ _ _ _ hs _ _=>hs) hI0
   (fun x=>{ tmps:=#[.pointer (some ⟨b,0,none⟩),.int .i64 d,.func (.yield l) #[] #[],undef,.pointer (some ⟨W.heap.size,0,none⟩),.pointer (some ⟨W.heap.size+1,0,none⟩),.pointer (some ⟨W.heap.size+1+1,0,none⟩),.pointer (pa (A x.val)),.func (.yield l) #[] #[],.pointer (some ⟨b,0,none⟩),.int .i64 d,.bool true,.bool false,.pointer (some ⟨b,0,none⟩),.func (.func 157) #[] #[.pointer (some ⟨W4.heap.size,0,none⟩)],.pointer (pa (A x.val)),undef,undef,undef,undef,undef,undef],defers:=[] }) ?assign ?body ?done ?stop
  case assign =>
   intro l2 x V K hK
   gi_wp2
   exact hK
  case body =>
   rintro l2 pre' x V hI hlt
   obtain ⟨hJv,⟨v1,v2,v3⟩,hSv⟩:=hI
   obtain ⟨g1,g2,g3,g4,g5⟩:=kf_spec hR hnd x.ok
   have hfl:=flatMap_len ys 36 pre' fun x _=>hyl x
   have IH:=a_ (ih (kf x.val k) (by omega) (8 - 1 - 1 - 1) x.val (d+1) (ys x) (pre++[e0]++pre'.flatMap ys) V g1 g5 (fun y hy=>hAk y (g3 y hy)) (hAk _ (tops_ids x.ok)) g2 (hys x) hJv (HB5.out.trans hSv.below) (by have:=hSv.below.size;omega)
    (by simp only [List.length_append,List.length_cons,List.length_nil];omega) (by omega) (by omega) (by omega))
   have p1:=v1.cell
   have p2:=v2.cell
   have HV:=a_ (And.intro v1 (And.intro v2 v3))
   have HSv:=a_ hSv
   clear hJv v1 v2 v3 hSv g1 g2 g3 g4 g5 hfl hlt hI0 hL c3 hbox M5 hz4 hz5 hkl hyl hys hks2 hv hdp hN h36
   have hd0':0≤d:=hd0
   have hd9:d≤900:=by omega
   gi_wp2_with (gi_at_call 153;refine (CallsIn.inRound l2 IH.out).mono ?_;clear IH;rintro e W6 ⟨rfl,hJ6,hS6⟩;have HJ6:=a_ hJ6;have HS6:=a_ hS6;clear hJ6 hS6)
   have h6:=HS6.out
   obtain ⟨v1,v2,v3⟩:=HV.out
   have hJ6:=HJ6.out
   refine ⟨KeepsFrom.mono h6.from_ hB05,h6.below,⟨?_,⟨h6.kb _ _ _ (Or.inl rfl) v1,h6.kb _ _ _ (Or.inr (Or.inl rfl)) v2,h6.kb _ _ _ (Or.inr (Or.inr (Or.inl rfl))) v3⟩,HSv.out.trans h6⟩⟩
   rw [List.flatMap_append,List.flatMap_cons,List.flatMap_nil,List.append_nil,←List.append_assoc]
   exact hJ6
  case done =>
   rintro D zs V hD rfl ⟨hJv,⟨v1,v2,v3⟩,hSv⟩ hK
   have p3:=v3.cell
   have f3:=v3.frozen
   have HV3:=a_ v3
   have HSv:=a_ hSv
   have HJv:=a_ hJv
   clear v1 v2 v3 hSv hJv hI0 hL c3 hbox M5
   gi_wp2
   have hK':=(KeepsOthers.setCell V ⟨W.heap.size+1+1,0,none⟩ (.bool true)).same D _ hK rfl
   refine ⟨by simp,.inl ⟨_,_,rfl,run_takeDeferred hK',?_⟩⟩
   have hc5:=cell_kept (World.cell?_setCell_same' V ⟨W.heap.size+1+1,0,none⟩ (.bool true) (by rw [p3];rfl)) (grownBy_putObj' _ D (.deferred none)) (fun r e=>by cases e;exact ⟨_,hK',rfl⟩)
   have hSW:Stp w0 B0 W V:=(hS4.trans HS45.out).trans HSv.out
   refine ⟨.bool true,?_,rfl,?_,?_⟩
   ·simp [results,Tryd.f153,go_sem,hc5]
   ·refine hJ.put _ ?_ hK' rfl (by omega)
    have hb:=hJ.box (.bool true) HJv.out HV3.out (by omega)
    rw [List.append_assoc] at hb
    exact hb
   ·refine ⟨?_,?_,?_⟩
    ·exact (hSW.below.setCell (p:=⟨W.heap.size+1+1,0,none⟩) (by simp;omega) _).trans (belowK_b (w:=W) hsz _ D _ _ (by omega) hK' rfl rfl)
    ·exact KeepsFrom.far (hSW.from_.trans ((KeepsOthers.setCell _ _ _).from _)) (by omega) hK' rfl _
    ·exact (hSW.kb.far (by omega) _).trans (KB.grown (grownBy_putObj' _ D _) (fun r e=>by cases e;exact ⟨_,hK',rfl⟩))
  case stop =>
   rintro D c pre' V _ _ hf _
   exact hf.elim
attribute [local go_sem] Oper.semAt_some

theorem roots_kf {h:Nat→Nd} {r:Nat}:∀ {G:Fo},RepTop h G→G.ids.Nodup→r∈G.tops→Rep h r (kf r G)∧(h r).first=(kf r G).hd∧(∀ y∈(kf r G).ids,y∈G.ids)∧(kf r G).ids.length < G.ids.length∧(kf r G).ids.Nodup
 | .nil,_,_,hx=>by cases hx
 | .nd j t k n,⟨h1,h2,h3,h4⟩,hn,hx=>by
  obtain ⟨n1,n2,n3,n4,n5⟩:=nodup_nd hn
  unfold kf
  by_cases e:j=r
  ·subst e
   rw [if_pos rfl]
   exact ⟨h3,by rw [h2],fun y hy=>by simp [Fo.ids,hy],by simp [Fo.ids];omega,n3⟩
  ·rw [if_neg e]
   have hx':r∈n.tops:=by
    simp only [Fo.tops,List.mem_cons] at hx
    exact hx.resolve_left fun e'=>e e'.symm
   obtain ⟨g1,g2,g3,g4,g5⟩:=roots_kf h4 n4 hx'
   exact ⟨g1,g2,fun y hy=>by simp [Fo.ids,g3 y hy],by simp [Fo.ids];omega,g5⟩
def ahead_ {α:Type} (part:Nat→List α) (r:Nat):List α:=(List.range' 1 (r - 1)).flatMap part
theorem ahead_succ {α:Type} (part:Nat→List α) (r:Nat) (hr:1≤r):ahead_ part (r+1)=ahead_ part r++part r:=by
 unfold ahead_
 rw [show r+1 - 1=(r - 1)+1 by omega,List.range'_concat,List.flatMap_append]
 simp only [List.flatMap_cons,List.flatMap_nil,List.append_nil,Nat.one_mul]
 rw [show 1+(r - 1)=r by omega]
def AllI {A:Nat→Option Nat} (J:List (YE A)→World→Prop) (part:Nat→List (YE A)) (w0:World) (B0:Nat) (W:World) (v:Value) (V:World):Prop :=
 ∃ r:Nat,1≤r∧r≤4∧v=.int .i64 (r:Int)∧J (ahead_ part r) V∧Stp w0 B0 W V
def AllPost {A:Nat→Option Nat} (J:List (YE A)→World→Prop) (w0:World) (B0:Nat) (l:List (YE A)) (W:World) (e:Ending) (W':World):Prop:=(∃ v,e=.returned v)∧J l W'∧Stp w0 B0 W W'
theorem all1_in (F:Fence) (hd:F.depth=none) (h80:F.fn 152) (h81:F.fn 153) (h56:F.fn 156) (h76:F.fn 157) (hro:F.round=none) (l N B0 q:Nat) {w0:World} {n0 Fb:Nat} {A:Nat→Option Nat} {h:Nat→Nd} (m:Mem w0 n0 Fb A h)
  {G:Fo} (hG:RepTop h G) (hnd:G.ids.Nodup) (hroots:G.tops=[1,2,3]) (hA:∀ x∈G.ids,A x≠none) (h36:G.ids.length≤36)
  (J:List (YE A)→World→Prop) (hJ:Stb B0 J)
  (hY:∀ (q:Nat) (pre:List (YE A)) (x:YE A) (W:World),J pre W→Below w0.heap.size w0 W→pre.length < N→YieldAt F q Tryd.prog l #[.pointer (pa (A x.val)),.int .i64 x.dep] W (WalkPost J w0 B0 (pre++[x]) W))
  (hN:60000≤N) (es:List (YE A)) (hes:es.map YE.pr=pre1 0 G) (Bn:Nat) (W:World) (hBn:Boxed W Bn 121 (.pointer (some ⟨Fb,0,none⟩))) (hB:Below w0.heap.size w0 W) (hB0:B0≤W.heap.size) (hJ0:J [] W) :
  CallsIn F q Tryd.prog 152 #[.func (.yield l) #[] #[],.pointer (some ⟨Bn,0,none⟩)] W (AllPost J w0 B0 es W):=by
 -- the roots' parts
 have hrt:∀ r:Nat,1≤r→r≤3→r∈G.tops:=fun r h1 h2=>by rw [hroots];simp;omega
 obtain ⟨part,hpart⟩:∃ part:Nat→List (YE A),∀ r,1≤r→r≤3→(part r).map YE.pr=(r,0)::pre1 (0+1) (kf r G):=by
  have hok:∀ r:Nat,1≤r∧r≤3→∀ p∈(r,(0:Int))::pre1 (0+1) (kf r G),A p.1≠none∧0≤p.2∧p.2≤1000:=fun r hr p hp=>by
   obtain ⟨g1,g2,g3,g4,g5⟩:=roots_kf hG hnd (hrt r hr.1 hr.2)
   rcases List.mem_cons.1 hp with rfl|hp
   ·exact ⟨hA _ (tops_ids (hrt r hr.1 hr.2)),by simp,by simp⟩
   ·obtain ⟨a1,a2,a3⟩:=pre1_mem hp
    exact ⟨hA _ (g3 _ a1),by omega,by omega⟩
  refine ⟨fun r=>if hr:1≤r∧r≤3 then mkYE A _ (hok r hr) else [],fun r h1 h2=>?_⟩
  have hr:1≤r∧r≤3:=⟨h1,h2⟩
  simp only [dif_pos hr]
  exact mkYE_pr A _ (hok r hr)
 have hes2:es=ahead_ part 4:=by
  apply YE.inj_map
  rw [hes,pre1_kids G 0 hnd,hroots]
  show _=List.map YE.pr ([1,2,3].flatMap part)
  rw [map_flatMap']
  refine flatMap_congr' fun x hx=>?_
  have:1≤x∧x≤3:=by simp at hx;omega
  exact (hpart x this.1 this.2).symm
 have hpl:∀ r,1≤r→r≤3→(part r).length≤36:=fun r h1 h2=>by
  have h3:=congrArg List.length (hpart r h1 h2)
  have h4:=(roots_kf hG hnd (hrt r h1 h2)).2.2.2.1
  rw [List.length_map,List.length_cons,pre1_len] at h3
  omega
 have hal:∀ r,1≤r→r≤4→(ahead_ part r).length≤36 * 3:=fun r h1 h2=>by
  unfold ahead_
  refine Nat.le_trans (flatMap_len part 36 _ fun x hx=>?_) (by rw [List.length_range'];omega)
  have:=List.mem_range'.1 hx
  obtain ⟨i,hi,rfl⟩:=this
  exact hpl _ (by omega) (by omega)
 subst hes2
 have M:=a_ m
 have HB:=a_ hB
 have HBn:=a_ hBn
 have HJ0:=a_ hJ0
 have cB:=hBn.cell
 clear hes hB hBn hJ0
 refine callsIn_any hd (m:=8) ?_
 refine callsIn_of_wp Tryd.func152 rfl h80 ?_ hro
 simp only [Tryd.ntmps152,List.size_toArray,List.length_cons,List.length_nil,Nat.reduceAdd,Nat.reduceSub,Array.replicate_succ,Array.replicate_zero,List.push_toArray,List.append_toArray,List.nil_append,List.cons_append]
 gi_wp2
 gi_loopw [3] (fun v V=>AllI J part w0 B0 W v V) (fun v _=>4 - (intOf v).toNat)
 case atStart=>exact ⟨1,by omega,by omega,rfl,HJ0.out,Stp.refl _ _ _⟩
 case round =>
  obtain ⟨r,hr1,hr4,rfl,hJr,hSr⟩:=hrel
  have cB:=(hSr.kb _ _ _ (Or.inr (Or.inr (Or.inr (Or.inr rfl)))) HBn.out).cell
  by_cases hr3:r≤3
  ·have hd1:decide (r≤3)=true:=dt_ hr3
   have hd2:decide ((r:Int)≤3)=true:=dt_ (by omega)
   have cF:=(M.out.below (HB.out.trans hSr.below)).cF r (by omega)
   obtain ⟨g1,g2,g3,g4,g5⟩:=roots_kf hG hnd (hrt r hr1 hr3)
   have IH:=a_ (wlk_in_ F hd h81 h56 h76 hro l N B0 m J hJ hY 40 (kf r G) (by omega) (8 - 1) r 0 (part r) (ahead_ part r) _ g1 g5 (fun y hy=>hA y (g3 y hy)) (hA _ (tops_ids (hrt r hr1 hr3))) g2 (hpart r hr1 hr3) hJr (HB.out.trans hSr.below) (by have:=hSr.below.size;omega)
    (by have:=hal r hr1 hr4;omega) (by omega) (by omega) (by omega))
   have hi0:0≤(r:Int):=by omega
   have hi37:(r:Int) < 37:=by omega
   have HS:=a_ hSr
   have HR:=a_ (And.intro hr1 hr3)
   have HAS:=a_ (ahead_succ part r hr1)
   clear g1 g2 g3 g4 g5 hJr hSr
   gi_wp2_with (gi_at_call 153;refine (IH.out).mono ?_;clear IH;rintro e W6 ⟨rfl,hJ6,hS6⟩;have HJ6:=a_ hJ6;have HS6:=a_ hS6;clear hJ6 hS6)
   refine ⟨⟨r+1,by have:=HR.out;omega,by have:=HR.out;omega,by simp,by rw [HAS.out];exact HJ6.out,HS.out.trans HS6.out⟩,?_⟩
   have:=HR.out
   simp [intOf]
   omega
  ·have hd1:decide (r≤3)=false:=df_ hr3
   have hd2:decide ((r:Int)≤3)=false:=df_ (by omega)
   obtain rfl:r=4:=by omega
   gi_wp2
   go_end0
   exact ⟨⟨_,rfl⟩,hJr,hSr⟩
#print axioms all1_in
theorem Stp.mono {w0 V W:World} {B B':Nat} (h:Stp w0 B V W) (hB:B≤B'):Stp w0 B' V W:=⟨h.below,KeepsFrom.mono h.from_ hB,h.kb⟩
theorem Stb.mono {β:Type} {B B':Nat} {J:β→World→Prop} (h:Stb B J) (hB:B≤B'):Stb B' J:=fun s V W row hs hg hr=>h s V W row hs hg fun r e=>⟨Nat.le_trans hB (hr r e).1,(hr r e).2⟩
attribute [local go_sem] Oper.semAt_some

end Go.Proofs.YtdpklbomhdpimaaDoor.P
namespace Go.Proofs.YtdpklbomhdpimaaDoor.P
open Go.RowKit Go.Proofs.YtdpklbomhdpimaaDoorW.PrintWords Go.Proofs.YtdpklbomhdpimaaDoorW.PrintLast
def impl_TreeNew.f  : Option ((List (S69))):=some (([(⟨1,0,(⟨#[]⟩:ByteArray)⟩:S69),(⟨2,0,(⟨#[]⟩:ByteArray)⟩:S69),(⟨3,0,(⟨#[]⟩:ByteArray)⟩:S69)]:List (S69)))
theorem impl_TreeNew.calls  (r:List (S69)) (w:World) (h:impl_TreeNew.f  = some r) :
  Calls Tryd.prog 48 #[] w fun e w'=>∃ v0_:Value,e=.returned (v0_)∧Kd.R k69 69 w' w.heap.size (fun _=>True) v0_ r∧Below w.heap.size w w':=by
 have hu69:=Tryd.underlying69
 have HB:=a_ (Below.refl w.heap.size w)
 unfold impl_TreeNew.f at h
 have H:=h
 clear h
 obtain ⟨y940,hy940⟩:∃ y_:List (S69),y_=(([(⟨1,0,(⟨#[]⟩:ByteArray)⟩:S69),(⟨2,0,(⟨#[]⟩:ByteArray)⟩:S69),(⟨3,0,(⟨#[]⟩:ByteArray)⟩:S69)]:List (S69))):=⟨_,rfl⟩
 replace H:(some y940)=some r:=by first|(rw [hy940];with_reducible exact H)|(have H2_:=(Option.bind_some _ _).symm.trans H;rw [hy940];with_reducible exact H2_)|(have H2_:=(Option.bind_some _ _).symm.trans H;with_reducible exact H2_)|with_reducible exact H|(rw [hy940];exact H)|exact H
 have Ny940:=a_ hy940
 clear hy940
 obtain rfl:=sj_ H
 go_enter Tryd.func48,Tryd.ntmps48
 go_wp2_with (first|((with_reducible refine gD_ (N:=4) rfl ?_);refine Kd.R_lit k69 _ 69 ?hg (N:=4) ?hd (xs:=([(⟨1,0,(⟨#[]⟩:ByteArray)⟩:S69),(⟨2,0,(⟨#[]⟩:ByteArray)⟩:S69),(⟨3,0,(⟨#[]⟩:ByteArray)⟩:S69)]:List (S69))) (inner:=[.int .i64 1,.int .i64 0,.string (⟨#[]⟩:ByteArray),.int .i64 2,.int .i64 0,.string (⟨#[]⟩:ByteArray),.int .i64 3,.int .i64 0,.string (⟨#[]⟩:ByteArray)]) (ok:=fun _=>True) (okp:=fun _=>True) ?hr ?hp (fun _ hk=>hk) trivial (Below.refl _ _) (Nat.le_refl _) (by simp) ?_;(case hd=>rfl);(case hg=>rfl);(case hr=>first|(go_simp;done)|(go_simp;rfl));(case hp=>exact (Reps.c3 (show Kd.M k69 _ _ _ (⟨1,0,(⟨#[]⟩:ByteArray)⟩:S69) [.int .i64 1,.int .i64 0,.string (⟨#[]⟩:ByteArray)] from (k69_mkM _ _ _ (⟨1,0,(⟨#[]⟩:ByteArray)⟩:S69) )) (Reps.c3 (show Kd.M k69 _ _ _ (⟨2,0,(⟨#[]⟩:ByteArray)⟩:S69) [.int .i64 2,.int .i64 0,.string (⟨#[]⟩:ByteArray)] from (k69_mkM _ _ _ (⟨2,0,(⟨#[]⟩:ByteArray)⟩:S69) )) (Reps.c3 (show Kd.M k69 _ _ _ (⟨3,0,(⟨#[]⟩:ByteArray)⟩:S69) [.int .i64 3,.int .i64 0,.string (⟨#[]⟩:ByteArray)] from (k69_mkM _ _ _ (⟨3,0,(⟨#[]⟩:ByteArray)⟩:S69) )) (Reps.none _ _)))));intro v941 w1 ho2 hb hg_ hnew_;clear hg_ hnew_;(first|rw [←Ny940.out] at ho2|(simp only [Int.reduceToNat] at ho2;rw [←Ny940.out] at ho2));have HO942:=a_ (Kd.R_lower ho2 (below_size (bel_)));replace HB:=a_ (bS_ (bel_) hb);clear hb ho2))
 go_ret
 exact ⟨_,fi_,by (with_reducible repeat (first|apply Kd.R_alloc|apply Kd.R_drewN|apply Kd.R_drew));exact HO942.out,bel_⟩

attribute [local go_sem high] eqA44
def laws_lpLog.l0:Nat→List (S44)→List (S44)→Int→Option (Bool)
 | 0,_,_,_=>none
 | k+1,x0,x1,x5=>if x5 < (x0.length:Int) then (if 0≤x5 then (if x5 < (x1.length:Int) then (if (!(((rd_T44 x0 x5).f0)==((rd_T44 x1 x5).f0)) || (!(((rd_T44 x0 x5).f1)==((rd_T44 x1 x5).f1)) || ((!(((rd_T44 x0 x5).f2.f0)==((rd_T44 x1 x5).f2.f0)) || (!(((rd_T44 x0 x5).f2.f1)==((rd_T44 x1 x5).f2.f1)) || (!(((rd_T44 x0 x5).f2.f2)==((rd_T44 x1 x5).f2.f2)) || (!(((rd_T44 x0 x5).f2.f3)==((rd_T44 x1 x5).f2.f3)) || (!((((rd_T44 x0 x5).f2.f4).toList)==(((rd_T44 x1 x5).f2.f4).toList))))))))))=true then (some false) else (laws_lpLog.l0 k x0 x1 (wrap64 (x5+1)))) else (none)) else (none)) else (some true)
def laws_lpLog.f (k:Nat) (l0:List (S44)) (l1:List (S44)):Option (Bool):=if (l0.length:Int)=(l1.length:Int) then (laws_lpLog.l0 k l0 l1 0) else (some false)
theorem laws_lpLog.mono_l:∀ k,(∀ y0 y1 y2,LeO (laws_lpLog.l0 k y0 y1 y2) (laws_lpLog.l0 (k+1) y0 y1 y2))
 | 0=>fun _ _ _ r h=>by simp [laws_lpLog.l0] at h
 | k+1=>by
  have ih0:=laws_lpLog.mono_l k
  ·intro y0 y1 y2
   unfold laws_lpLog.l0
   repeat' first
   | (with_reducible exact ih0 _ _ _)
   | (with_reducible exact LeO.refl _)
   | (with_reducible exact LeO.none _)
   | (with_reducible refine LeO.ite ?_ ?_)
   | (with_reducible refine LeO.bind ?_ (fun _=>?_))
   | exact ih0 _ _ _
   | exact LeO.none _
   | refine LeO.ite ?_ ?_
   | refine LeO.bind ?_ (fun _=>?_)
theorem laws_lpLog.mono:∀ a0 a1 k,LeO (laws_lpLog.f k a0 a1) (laws_lpLog.f (k+1) a0 a1):=by
 intro a0 a1 k
 have ih0:=laws_lpLog.mono_l k
 unfold laws_lpLog.f
 repeat' first
   | (with_reducible exact ih0 _ _ _)
   | (with_reducible exact LeO.refl _)
   | (with_reducible exact LeO.none _)
   | (with_reducible refine LeO.ite ?_ ?_)
   | (with_reducible refine LeO.bind ?_ (fun _=>?_))
   | exact ih0 _ _ _
   | exact LeO.none _
   | refine LeO.ite ?_ ?_
   | refine LeO.bind ?_ (fun _=>?_)
theorem laws_lpLog.calls (k:Nat) (A0:Option Addr) (c0:Nat) (l0:List (S44)) (A1:Option Addr) (c1:Nat) (l1:List (S44)) (r:Bool) (w:World) (hr0:Kd.C k44 w A0 l0.length l0) (hc0:l0.length≤c0) (hr1:Kd.C k44 w A1 l1.length l1) (hc1:l1.length≤c1) (h:laws_lpLog.f k l0 l1=some r) :
  Calls Tryd.prog 32 #[.slice A0 l0.length c0,.slice A1 l1.length c1] w fun e w'=>e=.returned (.bool r)∧Drawn0 w w':=by
 have hu44:=Tryd.underlying44
 have HR0:=a_ hr0
 have HC0:=a_ hc0
 clear hr0 hc0
 have HR1:=a_ hr1
 have HC1:=a_ hc1
 clear hr1 hc1
 unfold laws_lpLog.f at h
 have H:=h
 clear h
 by_cases c3:(l0.length:Int)=(l1.length:Int)
 ·rw [if_pos c3] at H
  have c3b0:((l0.length:Int)==(l1.length:Int))=true:=beq_iff_eq.mpr c3
  have c3b1:((l0.length:Int) != (l1.length:Int))=false:=be_ c3
  have c3b2:(l0.length==l1.length)=true:=by first|simpa using c3|(simp at c3 ⊢;omega)
  clear c3
  have H':=a_ H
  clear H
  go_enter Tryd.func32,Tryd.ntmps32
  go_wp2
  repeat (go_quiet (fail);try go_wp2)
  go_loopg [5] k (fun kq v5 w'=>∃ (x5_1:Int),v5=.int .i64 x5_1∧Aside0 (laws_lpLog.l0 kq l0 l1 x5_1=some r)∧Aside0 (kq≤k)∧Drawn0 w w')
  case atStart=>exact ⟨(0),(si_),H',⟨Nat.le_refl _⟩,by repeat (first|exact Drawn0.refl _|apply Drawn0.step)⟩
  case round =>
   clear H'
   try clear c1
   try clear p2
   try clear c3
   try clear c3b0
   try clear c3b1
   try clear c3b2
   obtain ⟨x5_1,rfl,HA,HK1,⟨m1,rfl⟩⟩:=hrel
   cases gk with
   | zero=>exact absurd HA.out (by simp [laws_lpLog.l0])
   | succ k1 =>
    have H:=HA.out
    clear HA
    simp only [laws_lpLog.l0] at H
    by_cases c4:x5_1 < (l0.length:Int)
    ·rw [if_pos c4] at H
     have c4b0:decide (x5_1 < (l0.length:Int))=true:=dt_ c4
     clear c4
     by_cases c5:0≤x5_1
     ·rw [if_pos c5] at H
      have c5b0:decide (0≤x5_1)=true:=dt_ c5
      clear c5
      by_cases c6:x5_1 < (l1.length:Int)
      ·rw [if_pos c6] at H
       have c6b0:decide (x5_1 < (l1.length:Int))=true:=dt_ c6
       clear c6
       by_cases c7:(!(((rd_T44 l0 x5_1).f0)==((rd_T44 l1 x5_1).f0)) || (!(((rd_T44 l0 x5_1).f1)==((rd_T44 l1 x5_1).f1)) || ((!(((rd_T44 l0 x5_1).f2.f0)==((rd_T44 l1 x5_1).f2.f0)) || (!(((rd_T44 l0 x5_1).f2.f1)==((rd_T44 l1 x5_1).f2.f1)) || (!(((rd_T44 l0 x5_1).f2.f2)==((rd_T44 l1 x5_1).f2.f2)) || (!(((rd_T44 l0 x5_1).f2.f3)==((rd_T44 l1 x5_1).f2.f3)) || (!((((rd_T44 l0 x5_1).f2.f4).toList)==(((rd_T44 l1 x5_1).f2.f4).toList))))))))))=true
       ·rw [if_pos c7] at H
        have c7b0:(!(((rd_T44 l0 x5_1).f0)==((rd_T44 l1 x5_1).f0)) || (!(((rd_T44 l0 x5_1).f1)==((rd_T44 l1 x5_1).f1)) || ((!(((rd_T44 l0 x5_1).f2.f0)==((rd_T44 l1 x5_1).f2.f0)) || (!(((rd_T44 l0 x5_1).f2.f1)==((rd_T44 l1 x5_1).f2.f1)) || (!(((rd_T44 l0 x5_1).f2.f2)==((rd_T44 l1 x5_1).f2.f2)) || (!(((rd_T44 l0 x5_1).f2.f3)==((rd_T44 l1 x5_1).f2.f3)) || (!((((rd_T44 l0 x5_1).f2.f4).toList)==(((rd_T44 l1 x5_1).f2.f4).toList))))))))))=true:=c7
        clear c7
        obtain rfl:=sj_ H
        have p742:0≤(x5_1:Int):=od_
        have q742:x5_1 < (l0.length:Int):=od_
        obtain ⟨ad742,e742,hx742_0,hx742_1,hx742_2,hx742_3,hx742_4,hx742_5,hx742_6⟩:=at_T44 HR0.out x5_1 p742 q742
        cases e742
        replace p742:=eq_true p742
        replace q742:=eq_true q742
        have p743:0≤(x5_1:Int):=od_
        have q743:x5_1 < (l1.length:Int):=od_
        obtain ⟨ad743,e743,hx743_0,hx743_1,hx743_2,hx743_3,hx743_4,hx743_5,hx743_6⟩:=at_T44 HR1.out x5_1 p743 q743
        cases e743
        replace p743:=eq_true p743
        replace q743:=eq_true q743
        go_wp2
        repeat (go_quiet (fail);try go_wp2)
        go_ret
        exact ⟨si_,by repeat (first|exact Drawn0.refl _|apply Drawn0.step)⟩
       ·rw [if_neg c7] at H
        have c7b0:(!(((rd_T44 l0 x5_1).f0)==((rd_T44 l1 x5_1).f0)) || (!(((rd_T44 l0 x5_1).f1)==((rd_T44 l1 x5_1).f1)) || ((!(((rd_T44 l0 x5_1).f2.f0)==((rd_T44 l1 x5_1).f2.f0)) || (!(((rd_T44 l0 x5_1).f2.f1)==((rd_T44 l1 x5_1).f2.f1)) || (!(((rd_T44 l0 x5_1).f2.f2)==((rd_T44 l1 x5_1).f2.f2)) || (!(((rd_T44 l0 x5_1).f2.f3)==((rd_T44 l1 x5_1).f2.f3)) || (!((((rd_T44 l0 x5_1).f2.f4).toList)==(((rd_T44 l1 x5_1).f2.f4).toList))))))))))=false:=by simpa using c7
        clear c7
        have H':=a_ H
        clear H
        have p742:0≤(x5_1:Int):=od_
        have q742:x5_1 < (l0.length:Int):=od_
        obtain ⟨ad742,e742,hx742_0,hx742_1,hx742_2,hx742_3,hx742_4,hx742_5,hx742_6⟩:=at_T44 HR0.out x5_1 p742 q742
        cases e742
        replace p742:=eq_true p742
        replace q742:=eq_true q742
        have p743:0≤(x5_1:Int):=od_
        have q743:x5_1 < (l1.length:Int):=od_
        obtain ⟨ad743,e743,hx743_0,hx743_1,hx743_2,hx743_3,hx743_4,hx743_5,hx743_6⟩:=at_T44 HR1.out x5_1 p743 q743
        cases e743
        replace p743:=eq_true p743
        replace q743:=eq_true q743
        go_wp2
        repeat (go_quiet (fail);try go_wp2)
        go_roundg k1
        case measure=>have:=HK1.out;omega
        case rel=>exact ⟨(wrap64 (x5_1+1)),(si_),H',⟨by have:=HK1.out;omega⟩,by repeat (first|exact Drawn0.refl _|apply Drawn0.step)⟩
      ·rw [if_neg c6] at H
       exact absurd H (by simp)
     ·rw [if_neg c5] at H
      exact absurd H (by simp)
    ·rw [if_neg c4] at H
     have c4b0:decide (x5_1 < (l0.length:Int))=false:=df_ c4
     clear c4
     obtain rfl:=sj_ H
     go_wp2
     repeat (go_quiet (fail);try go_wp2)
     go_ret
     exact ⟨si_,by repeat (first|exact Drawn0.refl _|apply Drawn0.step)⟩
 ·rw [if_neg c3] at H
  have c3b0:((l0.length:Int)==(l1.length:Int))=false:=bn_ c3
  have c3b1:((l0.length:Int) != (l1.length:Int))=true:=bne_iff_ne.mpr c3
  have c3b2:(l0.length==l1.length)=false:=by first|simpa using c3|(simp at c3 ⊢;omega)
  obtain rfl:=sj_ H
  go_enter Tryd.func32,Tryd.ntmps32
  go_wp2
  repeat (go_quiet (fail);try go_wp2)
  go_ret
  exact ⟨si_,by repeat (first|exact Drawn0.refl _|apply Drawn0.step)⟩

def spec_DrawClientNew.f (k:Nat) (l0:List Int):Option (Int):=(spec_l6Open.f l0).bind fun bt1114=>((spec_l6Rd_pick.f k bt1114.1 bt1114.2 5).bind fun bt1117=>(some bt1117.1))
theorem spec_DrawClientNew.mono:∀ a0 k,LeO (spec_DrawClientNew.f k a0) (spec_DrawClientNew.f (k+1) a0):=by
 intro a0 k
 unfold spec_DrawClientNew.f
 repeat' first
   | (with_reducible exact spec_l6Rd_pick.mono _ _ _ _)
   | (with_reducible exact LeO.refl _)
   | (with_reducible exact LeO.none _)
   | (with_reducible refine LeO.ite ?_ ?_)
   | (with_reducible refine LeO.bind ?_ (fun _=>?_))
   | exact spec_l6Rd_pick.mono _ _ _ _
   | exact LeO.none _
   | refine LeO.ite ?_ ?_
   | refine LeO.bind ?_ (fun _=>?_)
theorem spec_DrawClientNew.calls (k:Nat) (A0:Option Addr) (c0:Nat) (l0:List Int) (r:Int) (w:World) (hr0:Kd.C (Kd.int .u8) w A0 l0.length l0) (hc0:l0.length≤c0) (h:spec_DrawClientNew.f k l0=some r) :
  Calls Tryd.prog 56 #[.slice A0 l0.length c0] w fun e w'=>e=.returned (.int .i64 r)∧Below w.heap.size w w':=by
 have HR0:=a_ hr0
 have HC0:=a_ hc0
 clear hr0 hc0
 have HB:=a_ (Below.refl w.heap.size w)
 unfold spec_DrawClientNew.f at h
 have H:=h
 clear h
 replace H:=bs_ H
 obtain ⟨⟨t1114,t1115⟩,A20,H⟩:=H
 try dsimp only at H
 have A2:=a_ A20
 clear A20
 replace H:=bs_ H
 obtain ⟨⟨t1117,t1118⟩,A30,H⟩:=H
 try dsimp only at H
 have A3:=a_ A30
 clear A30
 obtain rfl:=sj_ H
 go_enter Tryd.func56,Tryd.ntmps56
 go_wp2_with (first|((with_reducible refine gC_ (f:=72) rfl ?_);refine gl_ 4 Tryd.func72 #[.slice A0 l0.length c0] ?_;(with_reducible refine (spec_l6Open.calls _ _ l0 t1114 t1115 w _ ?side1 ?side2 ?side3 A2.out).mono ?_);(case side1=>exact bel_);(case side2=>exact HR0.out);(case side3=>exact HC0.out);rintro e w4 ⟨g1116,rfl,hi,hb,hb2⟩;refine ⟨_,rfl,?_⟩;replace HB:=a_ (hb);have HI1116:=a_ (hi);(try clear hb hb2 hi))|((with_reducible refine gC_ (f:=74) rfl ?_);refine gl_ 5 Tryd.func74 #[.pointer (some ⟨g1116,0,none⟩),.int .i64 5] ?_;(with_reducible refine (spec_l6Rd_pick.calls k g1116 t1114 t1115 5 t1117 t1118 w _ ?side1 ?side2 A3.out).mono ?_);(case side1=>exact is_HI1116);(case side2=>exact bel_);rintro e w5 ⟨rfl,hi,hb,hk⟩;refine ⟨_,rfl,?_⟩;replace HB:=a_ (hb);replace HI1116:=a_ (hi);(try clear hb hk hi)))
 go_ret
 exact ⟨fi_,bel_⟩

def spec_ClientNew.f (a0:Int):Option (Int×Int×(List (S69))×(List (S44))×Int×Int×Bool):=(spec_l6In.f a0 1 3).bind fun t1120=>(if t1120=true then ((spec_TreeNew.f).bind fun t1121=>(some (a0,0,t1121,(([]:List (S44))),0,0,true))) else (some (0,0,([]:List (S69)),([]:List (S44)),0,0,false)))
theorem spec_ClientNew.calls (a0:Int) (r1:Int) (r2:Int) (r3:List (S69)) (r4:List (S44)) (r5:Int) (r6:Int) (r7:Bool) (w:World) (h:spec_ClientNew.f a0=some (r1,r2,r3,r4,r5,r6,r7)) :
  Calls Tryd.prog 57 #[.int .i64 a0] w fun e w'=>∃ v2_ v3_:Value,e=.returned (.tuple #[.agg #[.int .i64 r1,.int .i64 r2,v2_,v3_,.int .i64 r5,.int .i64 r6],.bool r7])∧Kd.R k69 69 w' w.heap.size (fun _=>True) v2_ r3∧Kd.R k44 44 w' w.heap.size (fun _=>True) v3_ r4∧Below w.heap.size w w':=by
 have hu77:=Tryd.underlying77
 have HB:=a_ (Below.refl w.heap.size w)
 unfold spec_ClientNew.f at h
 have H:=h
 clear h
 replace H:=bs_ H
 obtain ⟨t1120,A20,H⟩:=H
 try dsimp only at H
 have A2:=a_ A20
 clear A20
 by_cases c3:t1120=true
 ·subst c3
  have H1:((spec_TreeNew.f).bind fun t1121=>(some (a0,0,t1121,(([]:List (S44))),0,0,true)))=some (r1,r2,r3,r4,r5,r6,r7):=by rw [if_pos rfl] at H;exact H
  clear H
  have H:=H1
  clear H1
  replace H:=bs_ H
  obtain ⟨t1121,A40,H⟩:=H
  try dsimp only at H
  have A4:=a_ A40
  clear A40
  obtain ⟨y1124,hy1124⟩:∃ y_:List (S44),y_=(([]:List (S44))):=⟨_,rfl⟩
  replace H:(some (a0,0,t1121,y1124,0,0,true))=some (r1,r2,r3,r4,r5,r6,r7):=by first|(rw [hy1124];with_reducible exact H)|(have H2_:=(Option.bind_some _ _).symm.trans H;rw [hy1124];with_reducible exact H2_)|(have H2_:=(Option.bind_some _ _).symm.trans H;with_reducible exact H2_)|with_reducible exact H|(rw [hy1124];exact H)|exact H
  have Ny1124:=a_ hy1124
  clear hy1124
  simp only [Option.some.injEq,Prod.mk.injEq] at H
  obtain ⟨rfl,rfl,rfl,rfl,rfl,rfl,rfl⟩:=H
  go_enter Tryd.func57,Tryd.ntmps57
  go_wp2_with (first|((with_reducible refine gD_ (N:=2) rfl ?_);refine bx_ 2 (#[.int .i64 0,.int .i64 0,.slice none 0 0,.slice none 0 0,.int .i64 0,.int .i64 0]) 77 ?_;intro gb1119 hg w5 hbox hb;have n0_:=a_ (bS_ (bel_) hb);have n1_:=a_ (hbox);have n2_:=a_ ((by rw [hg];exact (below_size (bel_)):w.heap.size≤gb1119));have n3_:=a_ ((by rw [hg];exact (below_size (bel_)):w.heap.size≤gb1119));clear HB;have HB:=n0_;have BK1119:=n1_;have GW1119:=n2_;have GE1119:=n3_;clear n0_ n1_ n2_ n3_;clear hb hbox hg)|((with_reducible refine gC_ (f:=75) rfl ?_);refine gl_ 5 Tryd.func75 #[.int .i64 a0,.int .i64 1,.int .i64 3] ?_;(with_reducible refine (spec_l6In.calls a0 1 3 true _ A2.out).mono ?_);rintro e w' ⟨rfl,⟨nd,rfl⟩⟩;refine ⟨_,rfl,?_⟩;(try (rw [drewN_self w5];generalize hq_:World.drewN w5 _=w5;have n0_:Aside0 (w5.heap[gb1119]?=some (.cells #[.int .i64 0,.int .i64 0,.slice none 0 0,.slice none 0 0,.int .i64 0,.int .i64 0] 77 (0,0))):=⟨by rw [←hq_];exact (bp_ BK1119.out)⟩;have n1_:Aside0 (Below w.heap.size w w5):=⟨by rw [←hq_];exact (bel_)⟩;clear BK1119 HB hq_;have BK1119:=n0_;have HB:=n1_;clear n0_ n1_)))|((with_reducible refine gC_ (f:=100) rfl ?_);refine gl_ 9 Tryd.func100 #[] ?_;(with_reducible refine (spec_TreeNew.calls  t1121 _ A4.out).mono ?_);rintro e w6 ⟨v1122,rfl,ho0,hb⟩;refine ⟨_,rfl,?_⟩;have HO1123:=a_ (Kd.R_lower ho0 (below_size (bel_)));replace HB:=a_ (bS_ (bel_) hb);replace BK1119:=a_ (bb_ BK1119.out hb);(try clear hb ho0))|((with_reducible refine gD_ (N:=10) rfl ?_);refine Kd.R_lit k44 _ 44 ?hg (N:=10) ?hd (xs:=([]:List (S44))) (inner:=[]) (ok:=fun _=>True) (okp:=fun _=>True) ?hr ?hp (fun _ hk=>hk) trivial (Below.refl _ _) (Nat.le_refl _) (by simp) ?_;(case hd=>rfl);(case hg=>rfl);(case hr=>first|(go_simp;done)|(go_simp;rfl));(case hp=>exact (Reps.none _ _));intro v1125 w7 ho8 hb hg_ hnew_;clear hg_ hnew_;(first|rw [←Ny1124.out] at ho8|(simp only [Int.reduceToNat] at ho8;rw [←Ny1124.out] at ho8));replace HO1123:=a_ (Kd.R_below (rp_ HO1123.out) hb);have HO1126:=a_ (Kd.R_lower ho8 (below_size (bel_)));replace HB:=a_ (bS_ (bel_) hb);replace BK1119:=a_ (bb_ BK1119.out hb);clear hb ho8;obtain ⟨Ao9,co9,eo9⟩:=Kd.R_slice HO1126.out;subst eo9;obtain ⟨Ao10,co10,eo10⟩:=Kd.R_slice HO1123.out;subst eo10;have Z11_0:=cz_ BK1119.out 0 (.int .i64 0);have Z11_1:=cz_ BK1119.out 1 (.int .i64 0);have Z11_2:=cz_ BK1119.out 2 (.slice none 0 0);have Z11_3:=cz_ BK1119.out 3 (.slice none 0 0);have Z11_4:=cz_ BK1119.out 4 (.int .i64 0);have Z11_5:=cz_ BK1119.out 5 (.int .i64 0);have Y11_0:=bF_ BK1119.out 0;have Y11_1:=bF_ BK1119.out 1;have Y11_2:=bF_ BK1119.out 2;have Y11_3:=bF_ BK1119.out 3;have Y11_4:=bF_ BK1119.out 4;have Y11_5:=bF_ BK1119.out 5))
  refine bodyPost_ret (results_ct rfl _ _ gb1119 77 #[.int .i64 a0,.int .i64 0,.slice Ao10 t1121.length co10,.slice Ao9 y1124.length co9,.int .i64 0,.int .i64 0] (0,0) _ rfl (by (with_reducible repeat (first|refine bN_ ?_ _|refine bD_ ?_|refine bA_ ?_ _));refine blk_put (cs:=#[.int .i64 a0,.int .i64 0,.slice Ao10 t1121.length co10,.slice Ao9 y1124.length co9,.int .i64 0,.int .i64 0]) ?_ 5 _ rfl;(with_reducible repeat (first|refine bN_ ?_ _|refine bD_ ?_|refine bA_ ?_ _));refine blk_put (cs:=#[.int .i64 a0,.int .i64 0,.slice Ao10 t1121.length co10,.slice Ao9 y1124.length co9,.int .i64 0,.int .i64 0]) ?_ 4 _ rfl;(with_reducible repeat (first|refine bN_ ?_ _|refine bD_ ?_|refine bA_ ?_ _));refine blk_put (cs:=#[.int .i64 a0,.int .i64 0,.slice Ao10 t1121.length co10,.slice none 0 0,.int .i64 0,.int .i64 0]) ?_ 3 _ rfl;(with_reducible repeat (first|refine bN_ ?_ _|refine bD_ ?_|refine bA_ ?_ _));refine blk_put (cs:=#[.int .i64 a0,.int .i64 0,.slice none 0 0,.slice none 0 0,.int .i64 0,.int .i64 0]) ?_ 2 _ rfl;(with_reducible repeat (first|refine bN_ ?_ _|refine bD_ ?_|refine bA_ ?_ _));refine blk_put (cs:=#[.int .i64 a0,.int .i64 0,.slice none 0 0,.slice none 0 0,.int .i64 0,.int .i64 0]) ?_ 1 _ rfl;(with_reducible repeat (first|refine bN_ ?_ _|refine bD_ ?_|refine bA_ ?_ _));refine blk_put (cs:=#[.int .i64 0,.int .i64 0,.slice none 0 0,.slice none 0 0,.int .i64 0,.int .i64 0]) ?_ 0 _ rfl;(with_reducible repeat (first|refine bN_ ?_ _|refine bD_ ?_|refine bA_ ?_ _));exact BK1119.out) Tryd.underlying77 rfl (by kernel_rfl)) rfl ?_
  exact ⟨_,_,fi_,by (with_reducible repeat (first|apply Kd.R_alloc|apply Kd.R_drewN|apply Kd.R_drew));exact Kd.R_mono (Kd.R_far (p:=⟨gb1119,5,none⟩) (Kd.R_far (p:=⟨gb1119,4,none⟩) (Kd.R_far (p:=⟨gb1119,3,none⟩) (Kd.R_far (p:=⟨gb1119,2,none⟩) (Kd.R_far (p:=⟨gb1119,1,none⟩) (Kd.R_far (p:=⟨gb1119,0,none⟩) (Kd.R_types HO1123.out BK1119.out (by decide)) (fun _ hk=>hk.2) (.int .i64 a0)) (fun _ hk=>hk.2) (.int .i64 0)) (fun _ hk=>hk.2) (.slice Ao10 t1121.length co10)) (fun _ hk=>hk.2) (.slice Ao9 y1124.length co9)) (fun _ hk=>hk.2) (.int .i64 0)) (fun _ hk=>hk.2) (.int .i64 0)) (fun _ hk=>trivial),by (with_reducible repeat (first|apply Kd.R_alloc|apply Kd.R_drewN|apply Kd.R_drew));exact Kd.R_mono (Kd.R_far (p:=⟨gb1119,5,none⟩) (Kd.R_far (p:=⟨gb1119,4,none⟩) (Kd.R_far (p:=⟨gb1119,3,none⟩) (Kd.R_far (p:=⟨gb1119,2,none⟩) (Kd.R_far (p:=⟨gb1119,1,none⟩) (Kd.R_far (p:=⟨gb1119,0,none⟩) (Kd.R_types HO1126.out BK1119.out (by decide)) (fun _ hk=>hk.2) (.int .i64 a0)) (fun _ hk=>hk.2) (.int .i64 0)) (fun _ hk=>hk.2) (.slice Ao10 t1121.length co10)) (fun _ hk=>hk.2) (.slice Ao9 y1124.length co9)) (fun _ hk=>hk.2) (.int .i64 0)) (fun _ hk=>hk.2) (.int .i64 0)) (fun _ hk=>trivial),bel_⟩
 ·replace c3:=Bool.eq_false_iff.mpr c3
  subst c3
  have H1:(some (0,0,([]:List (S69)),([]:List (S44)),0,0,false))=some (r1,r2,r3,r4,r5,r6,r7):=by rw [if_neg (show ¬ (false=true) by decide)] at H;exact H
  clear H
  have H:=H1
  clear H1
  simp only [Option.some.injEq,Prod.mk.injEq] at H
  obtain ⟨rfl,rfl,rfl,rfl,rfl,rfl,rfl⟩:=H
  go_enter Tryd.func57,Tryd.ntmps57
  go_wp2_with (first|((with_reducible refine gD_ (N:=2) rfl ?_);refine bx_ 2 (#[.int .i64 0,.int .i64 0,.slice none 0 0,.slice none 0 0,.int .i64 0,.int .i64 0]) 77 ?_;intro gb1119 hg w12 hbox hb;have n0_:=a_ (bS_ (bel_) hb);have n1_:=a_ (hbox);have n2_:=a_ ((by rw [hg];exact (below_size (bel_)):w.heap.size≤gb1119));have n3_:=a_ ((by rw [hg];exact (below_size (bel_)):w.heap.size≤gb1119));clear HB;have HB:=n0_;have BK1119:=n1_;have GW1119:=n2_;have GE1119:=n3_;clear n0_ n1_ n2_ n3_;clear hb hbox hg)|((with_reducible refine gC_ (f:=75) rfl ?_);refine gl_ 5 Tryd.func75 #[.int .i64 a0,.int .i64 1,.int .i64 3] ?_;(with_reducible refine (spec_l6In.calls a0 1 3 false _ A2.out).mono ?_);rintro e w' ⟨rfl,⟨nd,rfl⟩⟩;refine ⟨_,rfl,?_⟩;(try (rw [drewN_self w12];generalize hq_:World.drewN w12 _=w12;have n0_:Aside0 (w12.heap[gb1119]?=some (.cells #[.int .i64 0,.int .i64 0,.slice none 0 0,.slice none 0 0,.int .i64 0,.int .i64 0] 77 (0,0))):=⟨by rw [←hq_];exact (bp_ BK1119.out)⟩;have n1_:Aside0 (Below w.heap.size w w12):=⟨by rw [←hq_];exact (bel_)⟩;clear BK1119 HB hq_;have BK1119:=n0_;have HB:=n1_;clear n0_ n1_));have Z13_0:=cz_ BK1119.out 0 (.int .i64 0);have Z13_1:=cz_ BK1119.out 1 (.int .i64 0);have Z13_2:=cz_ BK1119.out 2 (.slice none 0 0);have Z13_3:=cz_ BK1119.out 3 (.slice none 0 0);have Z13_4:=cz_ BK1119.out 4 (.int .i64 0);have Z13_5:=cz_ BK1119.out 5 (.int .i64 0);have Y13_0:=bF_ BK1119.out 0;have Y13_1:=bF_ BK1119.out 1;have Y13_2:=bF_ BK1119.out 2;have Y13_3:=bF_ BK1119.out 3;have Y13_4:=bF_ BK1119.out 4;have Y13_5:=bF_ BK1119.out 5))
  refine bodyPost_ret (results_ct rfl _ _ gb1119 77 #[.int .i64 0,.int .i64 0,.slice none 0 0,.slice none 0 0,.int .i64 0,.int .i64 0] (0,0) _ rfl (by (with_reducible repeat (first|refine bN_ ?_ _|refine bD_ ?_|refine bA_ ?_ _));refine blk_put (cs:=#[.int .i64 0,.int .i64 0,.slice none 0 0,.slice none 0 0,.int .i64 0,.int .i64 0]) ?_ 5 _ rfl;(with_reducible repeat (first|refine bN_ ?_ _|refine bD_ ?_|refine bA_ ?_ _));refine blk_put (cs:=#[.int .i64 0,.int .i64 0,.slice none 0 0,.slice none 0 0,.int .i64 0,.int .i64 0]) ?_ 4 _ rfl;(with_reducible repeat (first|refine bN_ ?_ _|refine bD_ ?_|refine bA_ ?_ _));refine blk_put (cs:=#[.int .i64 0,.int .i64 0,.slice none 0 0,.slice none 0 0,.int .i64 0,.int .i64 0]) ?_ 3 _ rfl;(with_reducible repeat (first|refine bN_ ?_ _|refine bD_ ?_|refine bA_ ?_ _));refine blk_put (cs:=#[.int .i64 0,.int .i64 0,.slice none 0 0,.slice none 0 0,.int .i64 0,.int .i64 0]) ?_ 2 _ rfl;(with_reducible repeat (first|refine bN_ ?_ _|refine bD_ ?_|refine bA_ ?_ _));refine blk_put (cs:=#[.int .i64 0,.int .i64 0,.slice none 0 0,.slice none 0 0,.int .i64 0,.int .i64 0]) ?_ 1 _ rfl;(with_reducible repeat (first|refine bN_ ?_ _|refine bD_ ?_|refine bA_ ?_ _));refine blk_put (cs:=#[.int .i64 0,.int .i64 0,.slice none 0 0,.slice none 0 0,.int .i64 0,.int .i64 0]) ?_ 0 _ rfl;(with_reducible repeat (first|refine bN_ ?_ _|refine bD_ ?_|refine bA_ ?_ _));exact BK1119.out) Tryd.underlying77 rfl (by kernel_rfl)) rfl ?_
  exact ⟨_,_,fi_,by first|exact Kd.R_nil _ _ _ _ _|exact Kd.N_nil _ _ _ _ _|exact Kd.V_nil _ _ _ _ _|exact Kd.Q_nil _ _ _ _ _|exact Kd.S_nil _ _ _ _ _,by first|exact Kd.R_nil _ _ _ _ _|exact Kd.N_nil _ _ _ _ _|exact Kd.V_nil _ _ _ _ _|exact Kd.Q_nil _ _ _ _ _|exact Kd.S_nil _ _ _ _ _,bel_⟩

def impl_ClientNew.f (a0:Int):Option (Int×Int×(List (S69))×(List (S44))×Int×Int×Bool):=(impl_whoOk.f a0).bind fun t1128=>(if t1128=true then ((impl_TreeNew.f).bind fun t1129=>(some (a0,0,t1129,([]:List (S44)),0,0,true))) else (some (0,0,([]:List (S69)),([]:List (S44)),0,0,false)))
theorem impl_ClientNew.calls (a0:Int) (r1:Int) (r2:Int) (r3:List (S69)) (r4:List (S44)) (r5:Int) (r6:Int) (r7:Bool) (w:World) (h:impl_ClientNew.f a0=some (r1,r2,r3,r4,r5,r6,r7)) :
  Calls Tryd.prog 58 #[.int .i64 a0] w fun e w'=>∃ v2_ v3_:Value,e=.returned (.tuple #[.agg #[.int .i64 r1,.int .i64 r2,v2_,v3_,.int .i64 r5,.int .i64 r6],.bool r7])∧Kd.R k69 69 w' w.heap.size (fun _=>True) v2_ r3∧Kd.R k44 44 w' w.heap.size (fun _=>True) v3_ r4∧Below w.heap.size w w':=by
 have hu77:=Tryd.underlying77
 have HB:=a_ (Below.refl w.heap.size w)
 unfold impl_ClientNew.f at h
 have H:=h
 clear h
 replace H:=bs_ H
 obtain ⟨t1128,A20,H⟩:=H
 try dsimp only at H
 have A2:=a_ A20
 clear A20
 by_cases c3:t1128=true
 ·subst c3
  have H1:((impl_TreeNew.f).bind fun t1129=>(some (a0,0,t1129,([]:List (S44)),0,0,true)))=some (r1,r2,r3,r4,r5,r6,r7):=by rw [if_pos rfl] at H;exact H
  clear H
  have H:=H1
  clear H1
  replace H:=bs_ H
  obtain ⟨t1129,A40,H⟩:=H
  try dsimp only at H
  have A4:=a_ A40
  clear A40
  simp only [Option.some.injEq,Prod.mk.injEq] at H
  obtain ⟨rfl,rfl,rfl,rfl,rfl,rfl,rfl⟩:=H
  go_enter Tryd.func58,Tryd.ntmps58
  go_wp2_with (first|((with_reducible refine gD_ (N:=2) rfl ?_);refine bx_ 2 (#[.int .i64 0,.int .i64 0,.slice none 0 0,.slice none 0 0,.int .i64 0,.int .i64 0]) 77 ?_;intro gb1127 hg w5 hbox hb;have n0_:=a_ (bS_ (bel_) hb);have n1_:=a_ (hbox);have n2_:=a_ ((by rw [hg];exact (below_size (bel_)):w.heap.size≤gb1127));have n3_:=a_ ((by rw [hg];exact (below_size (bel_)):w.heap.size≤gb1127));clear HB;have HB:=n0_;have BK1127:=n1_;have GW1127:=n2_;have GE1127:=n3_;clear n0_ n1_ n2_ n3_;clear hb hbox hg)|((with_reducible refine gC_ (f:=104) rfl ?_);refine gl_ 5 Tryd.func104 #[.int .i64 a0] ?_;(with_reducible refine (impl_whoOk.calls a0 true _ A2.out).mono ?_);rintro e w' ⟨rfl,⟨nd,rfl⟩⟩;refine ⟨_,rfl,?_⟩;(try (rw [drewN_self w5];generalize hq_:World.drewN w5 _=w5;have n0_:Aside0 (w5.heap[gb1127]?=some (.cells #[.int .i64 0,.int .i64 0,.slice none 0 0,.slice none 0 0,.int .i64 0,.int .i64 0] 77 (0,0))):=⟨by rw [←hq_];exact (bp_ BK1127.out)⟩;have n1_:Aside0 (Below w.heap.size w w5):=⟨by rw [←hq_];exact (bel_)⟩;clear BK1127 HB hq_;have BK1127:=n0_;have HB:=n1_;clear n0_ n1_)))|((with_reducible refine gC_ (f:=48) rfl ?_);refine gl_ 9 Tryd.func48 #[] ?_;(with_reducible refine (impl_TreeNew.calls  t1129 _ A4.out).mono ?_);rintro e w6 ⟨v1130,rfl,ho0,hb⟩;refine ⟨_,rfl,?_⟩;have HO1131:=a_ (Kd.R_lower ho0 (below_size (bel_)));replace HB:=a_ (bS_ (bel_) hb);replace BK1127:=a_ (bb_ BK1127.out hb);(try clear hb ho0);obtain ⟨Ao7,co7,eo7⟩:=Kd.R_slice HO1131.out;subst eo7;have Z8_0:=cz_ BK1127.out 0 (.int .i64 0);have Z8_1:=cz_ BK1127.out 1 (.int .i64 0);have Z8_2:=cz_ BK1127.out 2 (.slice none 0 0);have Z8_3:=cz_ BK1127.out 3 (.slice none 0 0);have Z8_4:=cz_ BK1127.out 4 (.int .i64 0);have Z8_5:=cz_ BK1127.out 5 (.int .i64 0);have Y8_0:=bF_ BK1127.out 0;have Y8_1:=bF_ BK1127.out 1;have Y8_2:=bF_ BK1127.out 2;have Y8_3:=bF_ BK1127.out 3;have Y8_4:=bF_ BK1127.out 4;have Y8_5:=bF_ BK1127.out 5))
  refine bodyPost_ret (results_ct rfl _ _ gb1127 77 #[.int .i64 a0,.int .i64 0,.slice Ao7 t1129.length co7,.slice none 0 0,.int .i64 0,.int .i64 0] (0,0) _ rfl (by (with_reducible repeat (first|refine bN_ ?_ _|refine bD_ ?_|refine bA_ ?_ _));refine blk_put (cs:=#[.int .i64 a0,.int .i64 0,.slice Ao7 t1129.length co7,.slice none 0 0,.int .i64 0,.int .i64 0]) ?_ 5 _ rfl;(with_reducible repeat (first|refine bN_ ?_ _|refine bD_ ?_|refine bA_ ?_ _));refine blk_put (cs:=#[.int .i64 a0,.int .i64 0,.slice Ao7 t1129.length co7,.slice none 0 0,.int .i64 0,.int .i64 0]) ?_ 4 _ rfl;(with_reducible repeat (first|refine bN_ ?_ _|refine bD_ ?_|refine bA_ ?_ _));refine blk_put (cs:=#[.int .i64 a0,.int .i64 0,.slice Ao7 t1129.length co7,.slice none 0 0,.int .i64 0,.int .i64 0]) ?_ 3 _ rfl;(with_reducible repeat (first|refine bN_ ?_ _|refine bD_ ?_|refine bA_ ?_ _));refine blk_put (cs:=#[.int .i64 a0,.int .i64 0,.slice none 0 0,.slice none 0 0,.int .i64 0,.int .i64 0]) ?_ 2 _ rfl;(with_reducible repeat (first|refine bN_ ?_ _|refine bD_ ?_|refine bA_ ?_ _));refine blk_put (cs:=#[.int .i64 a0,.int .i64 0,.slice none 0 0,.slice none 0 0,.int .i64 0,.int .i64 0]) ?_ 1 _ rfl;(with_reducible repeat (first|refine bN_ ?_ _|refine bD_ ?_|refine bA_ ?_ _));refine blk_put (cs:=#[.int .i64 0,.int .i64 0,.slice none 0 0,.slice none 0 0,.int .i64 0,.int .i64 0]) ?_ 0 _ rfl;(with_reducible repeat (first|refine bN_ ?_ _|refine bD_ ?_|refine bA_ ?_ _));exact BK1127.out) Tryd.underlying77 rfl (by kernel_rfl)) rfl ?_
  exact ⟨_,_,fi_,by (with_reducible repeat (first|apply Kd.R_alloc|apply Kd.R_drewN|apply Kd.R_drew));exact Kd.R_mono (Kd.R_far (p:=⟨gb1127,5,none⟩) (Kd.R_far (p:=⟨gb1127,4,none⟩) (Kd.R_far (p:=⟨gb1127,3,none⟩) (Kd.R_far (p:=⟨gb1127,2,none⟩) (Kd.R_far (p:=⟨gb1127,1,none⟩) (Kd.R_far (p:=⟨gb1127,0,none⟩) (Kd.R_types HO1131.out BK1127.out (by decide)) (fun _ hk=>hk.2) (.int .i64 a0)) (fun _ hk=>hk.2) (.int .i64 0)) (fun _ hk=>hk.2) (.slice Ao7 t1129.length co7)) (fun _ hk=>hk.2) (.slice none 0 0)) (fun _ hk=>hk.2) (.int .i64 0)) (fun _ hk=>hk.2) (.int .i64 0)) (fun _ hk=>trivial),by first|exact Kd.R_nil _ _ _ _ _|exact Kd.N_nil _ _ _ _ _|exact Kd.V_nil _ _ _ _ _|exact Kd.Q_nil _ _ _ _ _|exact Kd.S_nil _ _ _ _ _,bel_⟩
 ·replace c3:=Bool.eq_false_iff.mpr c3
  subst c3
  have H1:(some (0,0,([]:List (S69)),([]:List (S44)),0,0,false))=some (r1,r2,r3,r4,r5,r6,r7):=by rw [if_neg (show ¬ (false=true) by decide)] at H;exact H
  clear H
  have H:=H1
  clear H1
  simp only [Option.some.injEq,Prod.mk.injEq] at H
  obtain ⟨rfl,rfl,rfl,rfl,rfl,rfl,rfl⟩:=H
  go_enter Tryd.func58,Tryd.ntmps58
  go_wp2_with (first|((with_reducible refine gD_ (N:=2) rfl ?_);refine bx_ 2 (#[.int .i64 0,.int .i64 0,.slice none 0 0,.slice none 0 0,.int .i64 0,.int .i64 0]) 77 ?_;intro gb1127 hg w9 hbox hb;have n0_:=a_ (bS_ (bel_) hb);have n1_:=a_ (hbox);have n2_:=a_ ((by rw [hg];exact (below_size (bel_)):w.heap.size≤gb1127));have n3_:=a_ ((by rw [hg];exact (below_size (bel_)):w.heap.size≤gb1127));clear HB;have HB:=n0_;have BK1127:=n1_;have GW1127:=n2_;have GE1127:=n3_;clear n0_ n1_ n2_ n3_;clear hb hbox hg)|((with_reducible refine gC_ (f:=104) rfl ?_);refine gl_ 5 Tryd.func104 #[.int .i64 a0] ?_;(with_reducible refine (impl_whoOk.calls a0 false _ A2.out).mono ?_);rintro e w' ⟨rfl,⟨nd,rfl⟩⟩;refine ⟨_,rfl,?_⟩;(try (rw [drewN_self w9];generalize hq_:World.drewN w9 _=w9;have n0_:Aside0 (w9.heap[gb1127]?=some (.cells #[.int .i64 0,.int .i64 0,.slice none 0 0,.slice none 0 0,.int .i64 0,.int .i64 0] 77 (0,0))):=⟨by rw [←hq_];exact (bp_ BK1127.out)⟩;have n1_:Aside0 (Below w.heap.size w w9):=⟨by rw [←hq_];exact (bel_)⟩;clear BK1127 HB hq_;have BK1127:=n0_;have HB:=n1_;clear n0_ n1_));have Z10_0:=cz_ BK1127.out 0 (.int .i64 0);have Z10_1:=cz_ BK1127.out 1 (.int .i64 0);have Z10_2:=cz_ BK1127.out 2 (.slice none 0 0);have Z10_3:=cz_ BK1127.out 3 (.slice none 0 0);have Z10_4:=cz_ BK1127.out 4 (.int .i64 0);have Z10_5:=cz_ BK1127.out 5 (.int .i64 0);have Y10_0:=bF_ BK1127.out 0;have Y10_1:=bF_ BK1127.out 1;have Y10_2:=bF_ BK1127.out 2;have Y10_3:=bF_ BK1127.out 3;have Y10_4:=bF_ BK1127.out 4;have Y10_5:=bF_ BK1127.out 5))
  refine bodyPost_ret (results_ct rfl _ _ gb1127 77 #[.int .i64 0,.int .i64 0,.slice none 0 0,.slice none 0 0,.int .i64 0,.int .i64 0] (0,0) _ rfl (by (with_reducible repeat (first|refine bN_ ?_ _|refine bD_ ?_|refine bA_ ?_ _));refine blk_put (cs:=#[.int .i64 0,.int .i64 0,.slice none 0 0,.slice none 0 0,.int .i64 0,.int .i64 0]) ?_ 5 _ rfl;(with_reducible repeat (first|refine bN_ ?_ _|refine bD_ ?_|refine bA_ ?_ _));refine blk_put (cs:=#[.int .i64 0,.int .i64 0,.slice none 0 0,.slice none 0 0,.int .i64 0,.int .i64 0]) ?_ 4 _ rfl;(with_reducible repeat (first|refine bN_ ?_ _|refine bD_ ?_|refine bA_ ?_ _));refine blk_put (cs:=#[.int .i64 0,.int .i64 0,.slice none 0 0,.slice none 0 0,.int .i64 0,.int .i64 0]) ?_ 3 _ rfl;(with_reducible repeat (first|refine bN_ ?_ _|refine bD_ ?_|refine bA_ ?_ _));refine blk_put (cs:=#[.int .i64 0,.int .i64 0,.slice none 0 0,.slice none 0 0,.int .i64 0,.int .i64 0]) ?_ 2 _ rfl;(with_reducible repeat (first|refine bN_ ?_ _|refine bD_ ?_|refine bA_ ?_ _));refine blk_put (cs:=#[.int .i64 0,.int .i64 0,.slice none 0 0,.slice none 0 0,.int .i64 0,.int .i64 0]) ?_ 1 _ rfl;(with_reducible repeat (first|refine bN_ ?_ _|refine bD_ ?_|refine bA_ ?_ _));refine blk_put (cs:=#[.int .i64 0,.int .i64 0,.slice none 0 0,.slice none 0 0,.int .i64 0,.int .i64 0]) ?_ 0 _ rfl;(with_reducible repeat (first|refine bN_ ?_ _|refine bD_ ?_|refine bA_ ?_ _));exact BK1127.out) Tryd.underlying77 rfl (by kernel_rfl)) rfl ?_
  exact ⟨_,_,fi_,by first|exact Kd.R_nil _ _ _ _ _|exact Kd.N_nil _ _ _ _ _|exact Kd.V_nil _ _ _ _ _|exact Kd.Q_nil _ _ _ _ _|exact Kd.S_nil _ _ _ _ _,by first|exact Kd.R_nil _ _ _ _ _|exact Kd.N_nil _ _ _ _ _|exact Kd.V_nil _ _ _ _ _|exact Kd.Q_nil _ _ _ _ _|exact Kd.S_nil _ _ _ _ _,bel_⟩

def laws_lpClient.f (k:Nat) (a0_0:Int) (a0_1:Int) (l0_2:List (S69)) (l0_3:List (S44)) (a0_4:Int) (a0_5:Int) (a1_0:Int) (a1_1:Int) (l1_2:List (S69)) (l1_3:List (S44)) (a1_4:Int) (a1_5:Int):Option (Bool):=if a0_0=a1_0 then (if a0_1=a1_1 then ((laws_lpRows.f k l0_2 l1_2).bind fun t1134=>(if t1134=true then ((laws_lpLog.f k l0_3 l1_3).bind fun t1135=>(if t1135=true then (if a0_4=a1_4 then (some (a0_5==a1_5)) else (some false)) else (some false))) else (some false))) else (some false)) else (some false)
theorem laws_lpClient.mono:∀ a0 a1 a2 a3 a4 a5 a6 a7 a8 a9 a10 a11 k,LeO (laws_lpClient.f k a0 a1 a2 a3 a4 a5 a6 a7 a8 a9 a10 a11) (laws_lpClient.f (k+1) a0 a1 a2 a3 a4 a5 a6 a7 a8 a9 a10 a11):=by
 intro a0 a1 a2 a3 a4 a5 a6 a7 a8 a9 a10 a11 k
 unfold laws_lpClient.f
 repeat' first
   | (with_reducible exact laws_lpLog.mono _ _ _)
   | (with_reducible exact laws_lpRows.mono _ _ _)
   | (with_reducible exact LeO.refl _)
   | (with_reducible exact LeO.none _)
   | (with_reducible refine LeO.ite ?_ ?_)
   | (with_reducible refine LeO.bind ?_ (fun _=>?_))
   | exact laws_lpLog.mono _ _ _
   | exact laws_lpRows.mono _ _ _
   | exact LeO.none _
   | refine LeO.ite ?_ ?_
   | refine LeO.bind ?_ (fun _=>?_)
end Go.Proofs.YtdpklbomhdpimaaDoor.P
