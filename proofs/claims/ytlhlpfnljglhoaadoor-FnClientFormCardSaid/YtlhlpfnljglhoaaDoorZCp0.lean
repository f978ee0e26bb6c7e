/- Joined by programs (wip/shake.py, wip/mini.py). -/
import Derived.Below
import Derived.Deep.Draws
import Derived.Deep.AppendLies
import Derived.Maps.AppendAt
import Derived.OwnWalk
import Derived.Laws.BytesArg
import Derived.Laws.MakeOwn
import Derived.Laws.OwnMore
import Derived.Deep.OwnRows
import Derived.Tactics
import Derived.Lib.ConvBytes
import Derived.Laws.Slices
import Derived.WalkKit
import Derived.KernelRfl
import Derived.RowKit3
import Derived.Deep.LoopGhost
import Derived.Deep.QuietTactic
import Derived.BigQuiet
import Derived.WideLaws
import Derived.Deep.DeepCutAuto
import Derived.Deep.CutBlock
import Derived.Deep.RegionHeld3
import Derived.Laws.Rows
import Derived.Lib.AppendStr
import Derived.ArgAppend
import Derived.Laws.IdiomCopy
import Derived.OrdersHeld
import Derived.Laws.BitsLemmas
import Derived.RowKit
import Derived.Deep.CutRange
import Derived.Lib.LaidTab
import Derived.Lib.Hide
import Derived.RegionTactic
import Derived.LoopTactic
import Derived.Outline
import Derived.LaidMore
import Derived.LaidLaws
import Derived.ProofKit
import Derived.ChangeVars
import Derived.ChangeSame
import Derived.OpenShut
import Derived.ShutString
import Derived.ChangeOld
import Derived.SizedLaws
import Derived.SevenTiedAt
import Derived.Test.YtlhlpfnljglhoaaDoorCards
import Derived.Test.YtlhlpfnljglhoaaDoorRows
import Derived.Test.YtlhlpfnljglhoaaDoorTie
import Derived.Test.YtlhlpfnljglhoaaDoorZCpV
import Derived.Test.YtlhlpfnljglhoaaDoorWSized
set_option linter.unusedVariables false
set_option linter.unusedSimpArgs false
set_option linter.unusedSectionVars false
set_option maxHeartbeats 8000000
set_option maxRecDepth 100000
namespace Go.Proofs.YtlhlpfnljglhoaaDoor.P
open Go.RowKit Go.Proofs.YtlhlpfnljglhoaaDoorW.PrintWords Go.Proofs.YtlhlpfnljglhoaaDoorW.Bc Go.Proofs.YtlhlpfnljglhoaaDoorW.C6
theorem a_{p:Prop}(h:p):Ae p:=⟨h⟩
theorem BJ{p:Prop}[Decidable p](h:p):decide p=true:=decide_eq_true h
theorem C1{p:Prop}[Decidable p](h:¬ p):decide p=false:=decide_eq_false h
theorem BU{α β:Type}{o:Option α}{f:α->Option β}{b:β}(h:o.bind f=some b):∃a,o=some a∧f a=some b:=Option.bind_eq_some_iff.mp h
theorem C5{α:Type}{a b:α}(h:some a=some b):a=b:=Option.some.inj h
theorem FF(w:World)(a:Addr){v:Value}(h:w.cell? a=some v):a.block<w.heap.size:=World.block_lt_of_cell? w a h
theorem Dq{α:Type}[BEq α][LawfulBEq α]{a b:α}(h:a≠b):(a==b)=false:=beq_eq_false_iff_ne.mpr h
theorem Ff{α:Type}[BEq α][LawfulBEq α]{a b:α}(h:a=b):(a != b)=false:=bne_eq_false_iff_eq.mpr h
theorem Ad{p:Prop}(h:p:=by repeat(first|(with_reducible first|exact HB.o|apply FL|apply At|apply Ay|refine EK ?_ (Ae.o (by assumption))|refine EK ?_ (Af.ge (Ae.o (by assumption))))|exact HB.o)):p:=h
theorem Bp{p q:Prop}(h:p)(f:p->q:=by intro h_;(with_reducible repeat(first|refine E6 ?_ _|refine DA ?_|refine Eb ?_ _));exact h_):q:=f h
theorem BC{p q:Prop}(h:p)(f:p->q:=by intro h_;(with_reducible repeat(first|apply Kd.R_alloc|apply Kd.An|apply Kd.As));exact h_):q:=f h
theorem FD{p q:Prop}(h:p)(f:p->q:=by intro h_;(with_reducible repeat(first|apply Kd.V_alloc|apply Kd.BF|apply Kd.AR));exact h_):q:=f h
theorem IV{p q:Prop}(h:p)(f:p->q:=by intro h_;(with_reducible repeat(first|apply Kd.S_alloc|apply Kd.S_drewN|apply Kd.De));exact h_):q:=f h
theorem Lz{p:Prop}(h:p:=by(try simp only[List.map_toArray,List.map_cons,List.map_nil]);first|done|rfl|(simp only[List.length_drop,List.length_take];rfl)):p:=h
theorem C_{p:Prop}(h:p:=by first|rfl|(simp[BK,BM] <;> rfl)|(simp[*,BK,BM] <;> rfl)):p:=h
theorem Gt{p q:Prop}(h:p)(f:p->q:=by intro h_;repeat(first|exact(Kd.Ct h_ HB.o)|(with_reducible refine Kd.C_alloc ?_ _)|(with_reducible refine Kd.Cz ?_ _)|(with_reducible refine Kd.C_drew ?_))):q:=f h
theorem EP{p:Prop}(h:p:=by repeat(first|(with_reducible first|exact HK.o|apply Ai.Qi|apply Is|apply Gm|apply keep_alloc)|exact HK.o)):p:=h
theorem DP{w w1 W:World}{g:Nat}{row:Option Nat}(h0:Ai w w1 g row)(h:Ai w W g row:=by repeat(first|(with_reducible first|exact HK.o|apply Ai.Qi|apply Is|apply Gm|apply keep_alloc|refine MV ?_ (Ae.o (by assumption)) _)|exact HK.o)):Ai w W g row:=h
theorem PC{W:World}{g:Nat}{t:TypeId}{cs:Array Value}(h:W.heap[g]?=some (.cells cs t (0,0)))(i:Nat)(v:Value)(a:cs[i]?=some v:=by exact rfl):W.cell? ⟨g,i,none⟩=some v:=(AO h i).trans a
theorem FI{w w1 a:World}{g g':Nat}{o:Obj}(b:Ai w w1 g none)(h0:a.heap[g']?=some o)(c:g'≠g)(f:a.heap[g']?=some o->w.heap[g']?=some o:=by intro h_;(with_reducible repeat(first|refine E6 ?_ _|refine DA ?_|refine Eb ?_ _));exact h_):w1.heap[g']?=some o:=b.EJ (f h0) c (by simp)
theorem C3{w w1 a:World}{g:Nat}{o:Obj}(h0:a.heap[g]?=some o)(b:Below w.heap.size w w1)(f:a.heap[g]?=some o->w.heap[g]?=some o:=by intro h_;(with_reducible repeat(first|refine E6 ?_ _|refine DA ?_|refine Eb ?_ _));exact h_):w1.heap[g]?=some o:=Az (f h0) b
theorem CE{P:Program}{ops:Array Oper}{Q:Exit->Act->World->Prop}{rest:List Oper}{o:Oper}{a:Act}{W:World}(N:Tmp)(cs:Array Value)(t:TypeId)
    (h:∀g,g=W.heap.size->∀w1,w1.heap[g]?=some (.cells cs t (0,0))->Below W.heap.size W w1->wpList P ops Q rest (a.put o.dst (.pointer (some ⟨g,0,none⟩))) w1)(b:o.dst=some N:=by exact rfl)(hg:o.guard=none:=by exact rfl)
    (c:(execOp a.eval o).run P W=.ok (.value (.pointer (some ⟨W.heap.size,0,none⟩))) (W.alloc (.cells cs t (0,0))):=by first|(go_simp;done)|(go_simp;rfl)):wpList P ops Q (o::rest) a W:=FN hg b c h
theorem Ft{p q:Prop}(h:p)(f:p->q:=by intro h_;repeat(first|exact h_|(with_reducible refine Kd.C_alloc ?_ _)|(with_reducible refine Kd.Cz ?_ _)|(with_reducible refine Kd.C_drew ?_))):q:=f h
theorem Du{p:Prop}(h:p:=by repeat(first|(with_reducible first|exact HG.o|apply B1.drewN|apply B1.drew)|exact HG.o)):p:=h
theorem Bu{p:Prop}[d:Decidable p](h:decide p=true:=by first|(with_reducible assumption)|assumption):p:=of_decide_eq_true h
theorem Cr{p:Prop}(h:p:=by first|rfl|(simp;done)|(simp[*];done)):p:=h
theorem Au{w w':World}{p:Addr}{v:Value}(a:Below w.heap.size w w')(h:w.cell? p=some v):w'.cell? p=some v:=(a.cell (FF w _ h)).trans h
theorem BR{P:Program}{ops:Array Oper}{Q:Exit->Act->World->Prop}{rest:List Oper}{g:Oper}{a:Act}{w:World}(n:Tmp){f:FuncId}{fn:Func}(l:P.funcs[f]?=some fn)(args:Array Value){d:Array Operand}{m:Array TypeId}
    (h:Calls P f args w λe w'=>∃v,e=.returned v∧wpList P ops Q rest (a.put (some n) v) w')(k:g.dst=some n:=by exact rfl)(hg:g.guard=none:=by exact rfl)
    (c:(fn.name == "runtime.NumGoroutine")=false:=by kernel_rfl)(j:fn.body.isSome=true:=by exact rfl)(i:g.op=.call { callee:=.value (.func f),args:=d,argTypes:=m }:=by exact rfl)
    (b:d.map a.eval=args:=by(try simp only[List.map_toArray,List.map_cons,List.map_nil]);first|done|rfl|(simp only[List.length_drop,List.length_take];rfl)):wpList P ops Q (g::rest) a w:=FH (some n) k hg l c j args i b h
theorem A_{P:Program}{md:Region.Mode}{ops:Array Oper}{Q:Exit->Act->World->Prop}{S:World->Prop}{ds:List Nat}(i:Nat)(n:Tmp){b:Oper}{v:Value}{fuel:Nat}{l:Array Bool}{a:Act}{w:World}{a':Act}
    (h:Ax P md ops Q S ds fuel (l.setIfInBounds i true) a' w)(hi:ops[i]?=some b:=by exact rfl)(hN:b.dst=some n:=by exact rfl)(g:Ly md ops l (l.setIfInBounds i true) i=true:=by first|exact Mv HT_.o (by kernel_rfl)|kernel_rfl)
    (d:∀c a w,Q (.panic c) (a.put b.dst v) w->Q (.panic c) a w:=by exact λ_ _ _ h=>h)(j:Yields P ops b v a:=by exact Or.inl ⟨by rfl,by intro w';go_simp;with_reducible rfl⟩)
    (e:a.put (some n) v=a':=by simp only[Act.put,List.setIfInBounds_toArray,List.set_cons_zero,List.set_cons_succ,Cp,Cv];rfl):Ax P md ops Q S ds (fuel+1) l a w:=Ox _ hi hN g d j e h
theorem D9{P:Program}{md:Region.Mode}{ops:Array Oper}{Q:Exit->Act->World->Prop}{S:World->Prop}{ds:List Nat}(i:Nat)(n:Tmp){b:Oper}{fuel:Nat}{l:Array Bool}{a:Act}{w:World}{a':Act}
    (h:Ax P md ops Q S ds fuel (l.setIfInBounds i true) a' w)(hi:ops[i]?=some b:=by exact rfl)(hN:b.dst=some n:=by exact rfl)(g:Ly md ops l (l.setIfInBounds i true) i=true:=by first|exact Mv HT_.o (by kernel_rfl)|kernel_rfl)
    (d:∀c a w,Q (.panic c) (a.put b.dst undef) w->Q (.panic c) a w:=by exact λ_ _ _ h=>h)(j:Yields P ops b undef a:=by exact Or.inr ⟨by rfl,rfl⟩)
    (e:a.put (some n) undef=a':=by simp only[Act.put,List.setIfInBounds_toArray,List.set_cons_zero,List.set_cons_succ,Cp,Cv];rfl):Ax P md ops Q S ds (fuel+1) l a w:=Ox _ hi hN g d j e h
theorem EU{P:Program}{md:Region.Mode}{ops:Array Oper}{Q:Exit->Act->World->Prop}{S:World->Prop}{ds:List Nat}(i:Nat)(n:Tmp){b:Oper}{fuel:Nat}{l:Array Bool}{a:Act}{w:World}
    (h:∀K:Act->World->Prop,Shut (∀a' w',S w'->(S w'->Ax P md ops Q S ds fuel (l.setIfInBounds i true) a' w')->K a' w')->if Region.wanted b (yielded ops a.tmps)=true then Oper.wp P b a w K Q else K (a.put (some n) undef) w)
    (hi:ops[i]?=some b:=by exact rfl)(hN:b.dst=some n:=by exact rfl)(c:GR md ops l (l.setIfInBounds i true) i=true:=by first|exact It HT_.o (by kernel_rfl)|kernel_rfl)(d:i∉ds:=by decide):Ax P md ops Q S ds (fuel+1) l a w:=Qe _ hi hN c d h
theorem Ea(n:Tmp){P:Program}{md:Region.Mode}{ops:Array Oper}{Q:Exit->Act->World->Prop}{S:World->Prop}{ds:List Nat}{fuel:Nat}{l:Array Bool}{a a':Act}{v:Value}{w:World}(h:Ax P md ops Q S ds fuel l a' w)
    (b:a.put (some n) v=a':=by simp only[Act.put,List.setIfInBounds_toArray,List.set_cons_zero,List.set_cons_succ,Cp,Cv];rfl):Ax P md ops Q S ds fuel l (a.put (some n) v) w:=Fj b h
theorem Pq{P:Program}{md:Region.Mode}{ops:Array Oper}{Q:Exit->Act->World->Prop}{S:World->Prop}{ds:List Nat}(i:Nat)(n:Tmp){b:Oper}{v:Value}{fuel:Nat}{l:Array Bool}{a:Act}{w:World}{a':Act}(e:S w)
    (h:Ax P md ops Q S ds fuel (l.setIfInBounds i true) a' w)(hi:ops[i]?=some b:=by exact rfl)(hN:b.dst=some n:=by exact rfl)(j:E1 md ops ds l (l.setIfInBounds i true) i=true:=by first|exact DJ HT_.o HW_.o (by kernel_rfl)|kernel_rfl)
    (d:∀c a w,Q (.panic c) (a.put b.dst v) w->Q (.panic c) a w:=by exact λ_ _ _ h=>h)(k:YieldsIf P ops S b v a:=by exact Or.inl ⟨by rfl,by intro w' s0;go_simp;with_reducible rfl⟩)
    (g:a.put (some n) v=a':=by simp only[Act.put,List.setIfInBounds_toArray,List.set_cons_zero,List.set_cons_succ,Cp,Cv];rfl):Ax P md ops Q S ds (fuel+1) l a w:=Fk _ hi hN j d k e g h
theorem Kj{P:Program}{md:Region.Mode}{ops:Array Oper}{Q:Exit->Act->World->Prop}{S:World->Prop}{ds:List Nat}(i:Nat)(n:Tmp){b:Oper}{v:Value}{fuel:Nat}{l:Array Bool}{a:Act}{w:World}{a':Act}(e:S w)
    (h:Ax P md ops Q S ds fuel (l.setIfInBounds i true) a' w)(hi:ops[i]?=some b:=by exact rfl)(hN:b.dst=some n:=by exact rfl)(j:E1 md ops ds l (l.setIfInBounds i true) i=true:=by first|exact DJ HT_.o HW_.o (by kernel_rfl)|kernel_rfl)
    (d:∀c a w,Q (.panic c) (a.put b.dst v) w->Q (.panic c) a w:=by exact λ_ _ _ h=>h)(k:YieldsIf P ops S b v a:=by exact Or.inl ⟨by rfl,by rintro w' ⟨s0,s1⟩;go_simp;with_reducible rfl⟩)
    (g:a.put (some n) v=a':=by simp only[Act.put,List.setIfInBounds_toArray,List.set_cons_zero,List.set_cons_succ,Cp,Cv];rfl):Ax P md ops Q S ds (fuel+1) l a w:=Fk _ hi hN j d k e g h
theorem Nd{P:Program}{md:Region.Mode}{ops:Array Oper}{Q:Exit->Act->World->Prop}{S:World->Prop}{ds:List Nat}(i:Nat)(n:Tmp){b:Oper}{v:Value}{fuel:Nat}{l:Array Bool}{a:Act}{w:World}{a':Act}(e:S w)
    (h:Ax P md ops Q S ds fuel (l.setIfInBounds i true) a' w)(hi:ops[i]?=some b:=by exact rfl)(hN:b.dst=some n:=by exact rfl)(j:E1 md ops ds l (l.setIfInBounds i true) i=true:=by first|exact DJ HT_.o HW_.o (by kernel_rfl)|kernel_rfl)
    (d:∀c a w,Q (.panic c) (a.put b.dst v) w->Q (.panic c) a w:=by exact λ_ _ _ h=>h)(k:YieldsIf P ops S b v a:=by exact Or.inl ⟨by rfl,by rintro w' ⟨s0,s1,s2⟩;go_simp;with_reducible rfl⟩)
    (g:a.put (some n) v=a':=by simp only[Act.put,List.setIfInBounds_toArray,List.set_cons_zero,List.set_cons_succ,Cp,Cv];rfl):Ax P md ops Q S ds (fuel+1) l a w:=Fk _ hi hN j d k e g h
theorem Ql{P:Program}{md:Region.Mode}{ops:Array Oper}{Q:Exit->Act->World->Prop}{S:World->Prop}{ds:List Nat}(i:Nat)(n:Tmp){b:Oper}{v:Value}{fuel:Nat}{l:Array Bool}{a:Act}{w:World}{a':Act}(e:S w)
    (h:Ax P md ops Q S ds fuel (l.setIfInBounds i true) a' w)(hi:ops[i]?=some b:=by exact rfl)(hN:b.dst=some n:=by exact rfl)(j:E1 md ops ds l (l.setIfInBounds i true) i=true:=by first|exact DJ HT_.o HW_.o (by kernel_rfl)|kernel_rfl)
    (d:∀c a w,Q (.panic c) (a.put b.dst v) w->Q (.panic c) a w:=by exact λ_ _ _ h=>h)(k:YieldsIf P ops S b v a:=by exact Or.inl ⟨by rfl,by rintro w' ⟨s0,s1,s2,s3,s4⟩;go_simp;with_reducible rfl⟩)
    (g:a.put (some n) v=a':=by simp only[Act.put,List.setIfInBounds_toArray,List.set_cons_zero,List.set_cons_succ,Cp,Cv];rfl):Ax P md ops Q S ds (fuel+1) l a w:=Fk _ hi hN j d k e g h
theorem Kk{P:Program}{md:Region.Mode}{ops:Array Oper}{Q:Exit->Act->World->Prop}{S:World->Prop}{ds:List Nat}(i:Nat)(n:Tmp){b:Oper}{v:Value}{fuel:Nat}{l:Array Bool}{a:Act}{w:World}{a':Act}(e:S w)
    (h:Ax P md ops Q S ds fuel (l.setIfInBounds i true) a' w)(hi:ops[i]?=some b:=by exact rfl)(hN:b.dst=some n:=by exact rfl)(j:E1 md ops ds l (l.setIfInBounds i true) i=true:=by first|exact DJ HT_.o HW_.o (by kernel_rfl)|kernel_rfl)
    (d:∀c a w,Q (.panic c) (a.put b.dst v) w->Q (.panic c) a w:=by exact λ_ _ _ h=>h)(k:YieldsIf P ops S b v a:=by exact Or.inl ⟨by rfl,by rintro w' ⟨s0,s1,s2,s3,s4,s5⟩;go_simp;with_reducible rfl⟩)
    (g:a.put (some n) v=a':=by simp only[Act.put,List.setIfInBounds_toArray,List.set_cons_zero,List.set_cons_succ,Cp,Cv];rfl):Ax P md ops Q S ds (fuel+1) l a w:=Fk _ hi hN j d k e g h
theorem Iy{P:Program}{md:Region.Mode}{ops:Array Oper}{Q:Exit->Act->World->Prop}{S:World->Prop}{ds:List Nat}(i:Nat)(n:Tmp){b:Oper}{v:Value}{fuel:Nat}{l:Array Bool}{a:Act}{w:World}{a':Act}(e:S w)
    (h:Ax P md ops Q S ds fuel (l.setIfInBounds i true) a' w)(hi:ops[i]?=some b:=by exact rfl)(hN:b.dst=some n:=by exact rfl)(j:E1 md ops ds l (l.setIfInBounds i true) i=true:=by first|exact DJ HT_.o HW_.o (by kernel_rfl)|kernel_rfl)
    (d:∀c a w,Q (.panic c) (a.put b.dst v) w->Q (.panic c) a w:=by exact λ_ _ _ h=>h)(k:YieldsIf P ops S b v a:=by exact Or.inl ⟨by rfl,by rintro w' ⟨s0,s1,s2,s3,s4,s5,s6⟩;go_simp;with_reducible rfl⟩)
    (g:a.put (some n) v=a':=by simp only[Act.put,List.setIfInBounds_toArray,List.set_cons_zero,List.set_cons_succ,Cp,Cv];rfl):Ax P md ops Q S ds (fuel+1) l a w:=Fk _ hi hN j d k e g h
theorem Qm{P:Program}{md:Region.Mode}{ops:Array Oper}{Q:Exit->Act->World->Prop}{S:World->Prop}{ds:List Nat}(i:Nat)(n:Tmp){b:Oper}{v:Value}{fuel:Nat}{l:Array Bool}{a:Act}{w:World}{a':Act}(e:S w)
    (h:Ax P md ops Q S ds fuel (l.setIfInBounds i true) a' w)(hi:ops[i]?=some b:=by exact rfl)(hN:b.dst=some n:=by exact rfl)(j:E1 md ops ds l (l.setIfInBounds i true) i=true:=by first|exact DJ HT_.o HW_.o (by kernel_rfl)|kernel_rfl)
    (d:∀c a w,Q (.panic c) (a.put b.dst v) w->Q (.panic c) a w:=by exact λ_ _ _ h=>h)(k:YieldsIf P ops S b v a:=by exact Or.inl ⟨by rfl,by rintro w' ⟨s0,s1,s2,s3,s4,s5,s6,s7⟩;go_simp;with_reducible rfl⟩)
    (g:a.put (some n) v=a':=by simp only[Act.put,List.setIfInBounds_toArray,List.set_cons_zero,List.set_cons_succ,Cp,Cv];rfl):Ax P md ops Q S ds (fuel+1) l a w:=Fk _ hi hN j d k e g h
theorem Pr{P:Program}{md:Region.Mode}{ops:Array Oper}{Q:Exit->Act->World->Prop}{S:World->Prop}{ds:List Nat}(i:Nat)(n:Tmp){b:Oper}{v:Value}{fuel:Nat}{l:Array Bool}{a:Act}{w:World}{a':Act}(e:S w)
    (h:Ax P md ops Q S ds fuel (l.setIfInBounds i true) a' w)(hi:ops[i]?=some b:=by exact rfl)(hN:b.dst=some n:=by exact rfl)(j:E1 md ops ds l (l.setIfInBounds i true) i=true:=by first|exact DJ HT_.o HW_.o (by kernel_rfl)|kernel_rfl)
    (d:∀c a w,Q (.panic c) (a.put b.dst v) w->Q (.panic c) a w:=by exact λ_ _ _ h=>h)(k:YieldsIf P ops S b v a:=by exact Or.inl ⟨by rfl,by rintro w' ⟨s0,s1,s2,s3,s4,s5,s6,s7,s8⟩;go_simp;with_reducible rfl⟩)
    (g:a.put (some n) v=a':=by simp only[Act.put,List.setIfInBounds_toArray,List.set_cons_zero,List.set_cons_succ,Cp,Cv];rfl):Ax P md ops Q S ds (fuel+1) l a w:=Fk _ hi hN j d k e g h
theorem Ix{P:Program}{md:Region.Mode}{ops:Array Oper}{Q:Exit->Act->World->Prop}{S:World->Prop}{ds:List Nat}(i:Nat)(n:Tmp){b:Oper}{v:Value}{fuel:Nat}{l:Array Bool}{a:Act}{w:World}{a':Act}(e:S w)
    (h:Ax P md ops Q S ds fuel (l.setIfInBounds i true) a' w)(hi:ops[i]?=some b:=by exact rfl)(hN:b.dst=some n:=by exact rfl)(j:E1 md ops ds l (l.setIfInBounds i true) i=true:=by first|exact DJ HT_.o HW_.o (by kernel_rfl)|kernel_rfl)
    (d:∀c a w,Q (.panic c) (a.put b.dst v) w->Q (.panic c) a w:=by exact λ_ _ _ h=>h)(k:YieldsIf P ops S b v a:=by exact Or.inl ⟨by rfl,by rintro w' ⟨s0,s1,s2,s3,s4,s5,s6,s7,s8,s9⟩;go_simp;with_reducible rfl⟩)
    (g:a.put (some n) v=a':=by simp only[Act.put,List.setIfInBounds_toArray,List.set_cons_zero,List.set_cons_succ,Cp,Cv];rfl):Ax P md ops Q S ds (fuel+1) l a w:=Fk _ hi hN j d k e g h
theorem Gc{P:Program}{md:Region.Mode}{ops:Array Oper}{Q:Exit->Act->World->Prop}{S:World->Prop}{ds:List Nat}(i:Nat)(n:Tmp){b:Oper}{v:Value}{fuel:Nat}{l:Array Bool}{a:Act}{w:World}{a':Act}(e:S w)
    (h:Ax P md ops Q S ds fuel (l.setIfInBounds i true) a' w)(hi:ops[i]?=some b:=by exact rfl)(hN:b.dst=some n:=by exact rfl)(j:E1 md ops ds l (l.setIfInBounds i true) i=true:=by first|exact DJ HT_.o HW_.o (by kernel_rfl)|kernel_rfl)
    (d:∀c a w,Q (.panic c) (a.put b.dst v) w->Q (.panic c) a w:=by exact λ_ _ _ h=>h)(k:YieldsIf P ops S b v a:=by exact Or.inl ⟨by rfl,by rintro w' ⟨s0,s1,s2,s3,s4,s5,s6,s7,s8,s9,s10⟩;go_simp;with_reducible rfl⟩)
    (g:a.put (some n) v=a':=by simp only[Act.put,List.setIfInBounds_toArray,List.set_cons_zero,List.set_cons_succ,Cp,Cv];rfl):Ax P md ops Q S ds (fuel+1) l a w:=Fk _ hi hN j d k e g h
theorem E0{P:Program}{md:Region.Mode}{ops:Array Oper}{Q:Exit->Act->World->Prop}{S:World->Prop}{ds:List Nat}(i:Nat)(n:Tmp){b:Oper}{v:Value}{fuel:Nat}{l:Array Bool}{a:Act}{w:World}{a':Act}(e:S w)
    (h:Ax P md ops Q S ds fuel (l.setIfInBounds i true) a' w)(hi:ops[i]?=some b:=by exact rfl)(hN:b.dst=some n:=by exact rfl)(j:E1 md ops ds l (l.setIfInBounds i true) i=true:=by first|exact DJ HT_.o HW_.o (by kernel_rfl)|kernel_rfl)
    (d:∀c a w,Q (.panic c) (a.put b.dst v) w->Q (.panic c) a w:=by exact λ_ _ _ h=>h)(k:YieldsIf P ops S b v a:=by exact Or.inl ⟨by rfl,by rintro w' ⟨s0,s1,s2,s3,s4,s5,s6,s7,s8,s9,s10,s11,s12⟩;go_simp;with_reducible rfl⟩)
    (g:a.put (some n) v=a':=by simp only[Act.put,List.setIfInBounds_toArray,List.set_cons_zero,List.set_cons_succ,Cp,Cv];rfl):Ax P md ops Q S ds (fuel+1) l a w:=Fk _ hi hN j d k e g h
theorem Nc{P:Program}{md:Region.Mode}{ops:Array Oper}{Q:Exit->Act->World->Prop}{S:World->Prop}{ds:List Nat}(i:Nat)(n:Tmp){b:Oper}{v:Value}{fuel:Nat}{l:Array Bool}{a:Act}{w:World}{a':Act}(e:S w)
    (h:Ax P md ops Q S ds fuel (l.setIfInBounds i true) a' w)(hi:ops[i]?=some b:=by exact rfl)(hN:b.dst=some n:=by exact rfl)(j:E1 md ops ds l (l.setIfInBounds i true) i=true:=by first|exact DJ HT_.o HW_.o (by kernel_rfl)|kernel_rfl)
    (d:∀c a w,Q (.panic c) (a.put b.dst v) w->Q (.panic c) a w:=by exact λ_ _ _ h=>h)(k:YieldsIf P ops S b v a:=by exact Or.inl ⟨by rfl,by rintro w' ⟨s0,s1,s2,s3,s4,s5,s6,s7,s8,s9,s10,s11,s12,s13,s14,s15⟩;go_simp;with_reducible rfl⟩)
    (g:a.put (some n) v=a':=by simp only[Act.put,List.setIfInBounds_toArray,List.set_cons_zero,List.set_cons_succ,Cp,Cv];rfl):Ax P md ops Q S ds (fuel+1) l a w:=Fk _ hi hN j d k e g h
theorem FC{P:Program}{md:Region.Mode}{ops:Array Oper}{Q:Exit->Act->World->Prop}{S:World->Prop}{ds:List Nat}(i:Nat)(n:Tmp){b:Oper}{v:Value}{fuel:Nat}{l:Array Bool}{a:Act}{w:World}{a':Act}(e:S w)
    (h:Ax P md ops Q S ds fuel (l.setIfInBounds i true) a' w)(hi:ops[i]?=some b:=by exact rfl)(hN:b.dst=some n:=by exact rfl)(j:E1 md ops ds l (l.setIfInBounds i true) i=true:=by first|exact DJ HT_.o HW_.o (by kernel_rfl)|kernel_rfl)
    (d:∀c a w,Q (.panic c) (a.put b.dst v) w->Q (.panic c) a w:=by exact λ_ _ _ h=>h)(k:YieldsIf P ops S b v a:=by exact Or.inl ⟨by rfl,by rintro w' ⟨s0,s1,s2,s3,s4,s5,s6,s7,s8,s9,s10,s11,s12,s13,s14,s15,s16,s17,s18,s19⟩;go_simp;with_reducible rfl⟩)
    (g:a.put (some n) v=a':=by simp only[Act.put,List.setIfInBounds_toArray,List.set_cons_zero,List.set_cons_succ,Cp,Cv];rfl):Ax P md ops Q S ds (fuel+1) l a w:=Fk _ hi hN j d k e g h
theorem Jc{P:Program}{md:Region.Mode}{ops:Array Oper}{Q:Exit->Act->World->Prop}{S:World->Prop}{ds:List Nat}(i:Nat)(n:Tmp){b:Oper}{v:Value}{fuel:Nat}{l:Array Bool}{a:Act}{w:World}{a':Act}(e:S w)
    (h:Ax P md ops Q S ds fuel (l.setIfInBounds i true) a' w)(hi:ops[i]?=some b:=by exact rfl)(hN:b.dst=some n:=by exact rfl)(j:E1 md ops ds l (l.setIfInBounds i true) i=true:=by first|exact DJ HT_.o HW_.o (by kernel_rfl)|kernel_rfl)
    (d:∀c a w,Q (.panic c) (a.put b.dst v) w->Q (.panic c) a w:=by exact λ_ _ _ h=>h)(k:YieldsIf P ops S b v a:=by exact Or.inl ⟨by rfl,by rintro w' ⟨s0,s1,s2,s3,s4,s5,s6,s7,s8,s9,s10,s11,s12,s13,s14,s15,s16,s17,s18,s19,s20⟩;go_simp;with_reducible rfl⟩)
    (g:a.put (some n) v=a':=by simp only[Act.put,List.setIfInBounds_toArray,List.set_cons_zero,List.set_cons_succ,Cp,Cv];rfl):Ax P md ops Q S ds (fuel+1) l a w:=Fk _ hi hN j d k e g h
theorem DK{W:World}{g:Nat}{t:TypeId}{v0 v1 v2:Value}(h:W.heap[g]?=some (.cells #[v0,v1,v2] t (0,0))):W.cell? ⟨g,0,none⟩=some v0∧W.cell? ⟨g,1,none⟩=some v1∧W.cell? ⟨g,2,none⟩=some v2∧W.frozen? ⟨g,0,none⟩=false∧W.frozen? ⟨g,1,none⟩=false∧W.frozen? ⟨g,2,none⟩=false:=⟨(AO h 0).trans rfl,(AO h 1).trans rfl,(AO h 2).trans rfl,DT h 0,DT h 1,DT h 2⟩
theorem Cy{W:World}{g:Nat}{t:TypeId}{v0 v1 v2 v3 v4:Value}(h:W.heap[g]?=some (.cells #[v0,v1,v2,v3,v4] t (0,0))):W.cell? ⟨g,0,none⟩=some v0∧W.cell? ⟨g,1,none⟩=some v1∧W.cell? ⟨g,2,none⟩=some v2∧W.cell? ⟨g,3,none⟩=some v3∧W.cell? ⟨g,4,none⟩=some v4∧W.frozen? ⟨g,0,none⟩=false∧W.frozen? ⟨g,1,none⟩=false∧W.frozen? ⟨g,2,none⟩=false∧W.frozen? ⟨g,3,none⟩=false∧W.frozen? ⟨g,4,none⟩=false:=⟨(AO h 0).trans rfl,(AO h 1).trans rfl,(AO h 2).trans rfl,(AO h 3).trans rfl,(AO h 4).trans rfl,DT h 0,DT h 1,DT h 2,DT h 3,DT h 4⟩
theorem Cs{W:World}{g:Nat}{t:TypeId}{v0 v1 v2 v3 v4 a:Value}(h:W.heap[g]?=some (.cells #[v0,v1,v2,v3,v4,a] t (0,0))):W.cell? ⟨g,0,none⟩=some v0∧W.cell? ⟨g,1,none⟩=some v1∧W.cell? ⟨g,2,none⟩=some v2∧W.cell? ⟨g,3,none⟩=some v3∧W.cell? ⟨g,4,none⟩=some v4∧W.cell? ⟨g,5,none⟩=some a∧W.frozen? ⟨g,0,none⟩=false∧W.frozen? ⟨g,1,none⟩=false∧W.frozen? ⟨g,2,none⟩=false∧W.frozen? ⟨g,3,none⟩=false∧W.frozen? ⟨g,4,none⟩=false∧W.frozen? ⟨g,5,none⟩=false:=⟨(AO h 0).trans rfl,(AO h 1).trans rfl,(AO h 2).trans rfl,(AO h 3).trans rfl,(AO h 4).trans rfl,(AO h 5).trans rfl,DT h 0,DT h 1,DT h 2,DT h 3,DT h 4,DT h 5⟩
theorem Dz{W:World}{g:Nat}{t:TypeId}{v0 v1 v2 v3 v4 a v6:Value}(h:W.heap[g]?=some (.cells #[v0,v1,v2,v3,v4,a,v6] t (0,0))):W.cell? ⟨g,0,none⟩=some v0∧W.cell? ⟨g,1,none⟩=some v1∧W.cell? ⟨g,2,none⟩=some v2∧W.cell? ⟨g,3,none⟩=some v3∧W.cell? ⟨g,4,none⟩=some v4∧W.cell? ⟨g,5,none⟩=some a∧W.cell? ⟨g,6,none⟩=some v6∧W.frozen? ⟨g,0,none⟩=false∧W.frozen? ⟨g,1,none⟩=false∧W.frozen? ⟨g,2,none⟩=false∧W.frozen? ⟨g,3,none⟩=false∧W.frozen? ⟨g,4,none⟩=false∧W.frozen? ⟨g,5,none⟩=false∧W.frozen? ⟨g,6,none⟩=false:=⟨(AO h 0).trans rfl,(AO h 1).trans rfl,(AO h 2).trans rfl,(AO h 3).trans rfl,(AO h 4).trans rfl,(AO h 5).trans rfl,(AO h 6).trans rfl,DT h 0,DT h 1,DT h 2,DT h 3,DT h 4,DT h 5,DT h 6⟩
theorem PY{W:World}{g:Nat}{t:TypeId}{a b c b0 b1 b2:Value}(h:W.heap[g]?=some (.cells #[b0,b1,b2] t (0,0))):(((W.setCell ⟨g,0,none⟩ a).setCell ⟨g,1,none⟩ b).setCell ⟨g,2,none⟩ c).heap[g]?=some (.cells #[a,b,c] t (0,0)):=Bw (cs:=#[a,b,b2]) (Bw (cs:=#[a,b1,b2]) (Bw (cs:=#[b0,b1,b2]) h 0 _ rfl) 1 _ rfl) 2 _ rfl
theorem PZ{W:World}{g:Nat}{t:TypeId}{a b c d e b0 b1 b2 b3 b4:Value}(h:W.heap[g]?=some (.cells #[b0,b1,b2,b3,b4] t (0,0))):(((((W.setCell ⟨g,0,none⟩ a).setCell ⟨g,1,none⟩ b).setCell ⟨g,2,none⟩ c).setCell ⟨g,3,none⟩ d).setCell ⟨g,4,none⟩ e).heap[g]?=some (.cells #[a,b,c,d,e] t (0,0)):=Bw (cs:=#[a,b,c,d,b4]) (Bw (cs:=#[a,b,c,b3,b4]) (Bw (cs:=#[a,b,b2,b3,b4]) (Bw (cs:=#[a,b1,b2,b3,b4]) (Bw (cs:=#[b0,b1,b2,b3,b4]) h 0 _ rfl) 1 _ rfl) 2 _ rfl) 3 _ rfl) 4 _ rfl
theorem P0{W:World}{g:Nat}{t:TypeId}{a b c d e i b0 b1 b2 b3 b4 b5:Value}(h:W.heap[g]?=some (.cells #[b0,b1,b2,b3,b4,b5] t (0,0))):((((((W.setCell ⟨g,0,none⟩ a).setCell ⟨g,1,none⟩ b).setCell ⟨g,2,none⟩ c).setCell ⟨g,3,none⟩ d).setCell ⟨g,4,none⟩ e).setCell ⟨g,5,none⟩ i).heap[g]?=some (.cells #[a,b,c,d,e,i] t (0,0)):=Bw (cs:=#[a,b,c,d,e,b5]) (Bw (cs:=#[a,b,c,d,b4,b5]) (Bw (cs:=#[a,b,c,b3,b4,b5]) (Bw (cs:=#[a,b,b2,b3,b4,b5]) (Bw (cs:=#[a,b1,b2,b3,b4,b5]) (Bw (cs:=#[b0,b1,b2,b3,b4,b5]) h 0 _ rfl) 1 _ rfl) 2 _ rfl) 3 _ rfl) 4 _ rfl) 5 _ rfl
theorem Qw{W:World}{g:Nat}{t:TypeId}{a c d e i j k b0 b1 b2 b3 b4 b5 b:Value}(h:W.heap[g]?=some (.cells #[b0,b1,b2,b3,b4,b5,b] t (0,0))):(((((((W.setCell ⟨g,0,none⟩ a).setCell ⟨g,1,none⟩ c).setCell ⟨g,2,none⟩ d).setCell ⟨g,3,none⟩ e).setCell ⟨g,4,none⟩ i).setCell ⟨g,5,none⟩ j).setCell ⟨g,6,none⟩ k).heap[g]?=some (.cells #[a,c,d,e,i,j,k] t (0,0)):=Bw (cs:=#[a,c,d,e,i,j,b]) (Bw (cs:=#[a,c,d,e,i,b5,b]) (Bw (cs:=#[a,c,d,e,b4,b5,b]) (Bw (cs:=#[a,c,d,b3,b4,b5,b]) (Bw (cs:=#[a,c,b2,b3,b4,b5,b]) (Bw (cs:=#[a,b1,b2,b3,b4,b5,b]) (Bw (cs:=#[b0,b1,b2,b3,b4,b5,b]) h 0 _ rfl) 1 _ rfl) 2 _ rfl) 3 _ rfl) 4 _ rfl) 5 _ rfl) 6 _ rfl
theorem Dv{p q a:Prop}(b:a)(h:p)(f:p->a->q:=by intro h_ n0_;(with_reducible repeat(first|refine E6 ?_ _|refine DA ?_|refine Eb ?_ _|refine Fm ?_ n0_ _));exact h_):q:=f h b
theorem NP{p q:Prop}(h:p)(f:p->q:=by intro h_;(with_reducible repeat(first|refine E6 ?_ _|refine DA ?_|refine Eb ?_ _));apply PY;(with_reducible repeat(first|refine E6 ?_ _|refine DA ?_|refine Eb ?_ _));exact h_):q:=f h
theorem MT{p q a:Prop}(b:a)(h:p)(f:p->a->q:=by intro h_ n0_;(with_reducible repeat(first|refine E6 ?_ _|refine DA ?_|refine Eb ?_ _|refine Fm ?_ n0_ _));apply PY;(with_reducible repeat(first|refine E6 ?_ _|refine DA ?_|refine Eb ?_ _|refine Fm ?_ n0_ _));exact h_):q:=f h b
theorem Gu{p q:Prop}(h:p)(f:p->q:=by intro h_;(with_reducible repeat(first|refine E6 ?_ _|refine DA ?_|refine Eb ?_ _));apply PZ;(with_reducible repeat(first|refine E6 ?_ _|refine DA ?_|refine Eb ?_ _));exact h_):q:=f h
theorem Ll{p q a:Prop}(b:a)(h:p)(f:p->a->q:=by intro h_ n0_;(with_reducible repeat(first|refine E6 ?_ _|refine DA ?_|refine Eb ?_ _|refine Fm ?_ n0_ _));apply PZ;(with_reducible repeat(first|refine E6 ?_ _|refine DA ?_|refine Eb ?_ _|refine Fm ?_ n0_ _));exact h_):q:=f h b
theorem GM{p q:Prop}(h:p)(f:p->q:=by intro h_;(with_reducible repeat(first|refine E6 ?_ _|refine DA ?_|refine Eb ?_ _));apply P0;(with_reducible repeat(first|refine E6 ?_ _|refine DA ?_|refine Eb ?_ _));exact h_):q:=f h
theorem On{p q a:Prop}(b:a)(h:p)(f:p->a->q:=by intro h_ n0_;(with_reducible repeat(first|refine E6 ?_ _|refine DA ?_|refine Eb ?_ _|refine Fm ?_ n0_ _));apply P0;(with_reducible repeat(first|refine E6 ?_ _|refine DA ?_|refine Eb ?_ _|refine Fm ?_ n0_ _));exact h_):q:=f h b
theorem JC{p q:Prop}(h:p)(f:p->q:=by intro h_;(with_reducible repeat(first|refine E6 ?_ _|refine DA ?_|refine Eb ?_ _));apply Qw;(with_reducible repeat(first|refine E6 ?_ _|refine DA ?_|refine Eb ?_ _));exact h_):q:=f h
theorem L6{α:Type}{d:Kd α}{e:Nat}{w:World}{base:Nat}{ok:Nat -> Prop}{v:Value}{xs:List α}{g:Nat}(h:d.R e w base ok v xs)(a:∀k,ok k -> k≠g)(u0 u1 u2:Value):d.R e (((w.setCell ⟨g,0,none⟩ u0).setCell ⟨g,1,none⟩ u1).setCell ⟨g,2,none⟩ u2) base ok v xs:=Kd.CQ (p:=⟨g,2,none⟩) (Kd.CQ (p:=⟨g,1,none⟩) (Kd.CQ (p:=⟨g,0,none⟩) h a u0) a u1) a u2
theorem IU{α:Type}{d:Kd α}{e:Nat}{w:World}{base:Nat}{ok:Nat -> Prop}{v:Value}{xs:List α}{g:Nat}(h:d.R e w base ok v xs)(a:∀k,ok k -> k≠g)(u0 u1 u2 u3 u4:Value):d.R e (((((w.setCell ⟨g,0,none⟩ u0).setCell ⟨g,1,none⟩ u1).setCell ⟨g,2,none⟩ u2).setCell ⟨g,3,none⟩ u3).setCell ⟨g,4,none⟩ u4) base ok v xs:=Kd.CQ (p:=⟨g,4,none⟩) (Kd.CQ (p:=⟨g,3,none⟩) (Kd.CQ (p:=⟨g,2,none⟩) (Kd.CQ (p:=⟨g,1,none⟩) (Kd.CQ (p:=⟨g,0,none⟩) h a u0) a u1) a u2) a u3) a u4
theorem EZ{α:Type}{d:Kd α}{e:Nat}{w:World}{base:Nat}{ok:Nat -> Prop}{v:Value}{xs:List α}{g:Nat}(h:d.R e w base ok v xs)(a:∀k,ok k -> k≠g)(u0 u1 u2 u3 u4 u5:Value):d.R e ((((((w.setCell ⟨g,0,none⟩ u0).setCell ⟨g,1,none⟩ u1).setCell ⟨g,2,none⟩ u2).setCell ⟨g,3,none⟩ u3).setCell ⟨g,4,none⟩ u4).setCell ⟨g,5,none⟩ u5) base ok v xs:=Kd.CQ (p:=⟨g,5,none⟩) (Kd.CQ (p:=⟨g,4,none⟩) (Kd.CQ (p:=⟨g,3,none⟩) (Kd.CQ (p:=⟨g,2,none⟩) (Kd.CQ (p:=⟨g,1,none⟩) (Kd.CQ (p:=⟨g,0,none⟩) h a u0) a u1) a u2) a u3) a u4) a u5
end Go.Proofs.YtlhlpfnljglhoaaDoor.P
namespace Go.Proofs.YtlhlpfnljglhoaaDoor.P
open Go.RowKit Go.Proofs.YtlhlpfnljglhoaaDoorW.PrintWords Go.Proofs.YtlhlpfnljglhoaaDoorW.Bc
def P6:Option Int->Value
 | none=>.nilIface
 | some c=>.iface 0 (.int .i64 c)
theorem BK:P6 none=.nilIface:=rfl
theorem BM(c:Int):P6 (some c)=.iface 0 (.int .i64 c):=rfl
theorem MO:(Tryd.prog.info? 3).map (λi=>(i.zero,i.size,i.bytes))=some (some (.int .i64 0),1,8):=by kernel_rfl
theorem P_:(Tryd.prog.info? 5).map (λi=>(i.zero,i.size,i.bytes))=some (some (.int .u8 0),1,1):=by kernel_rfl
theorem KB:(Tryd.prog.info? 26).map (λi=>(i.zero,i.size,i.bytes))=some (some (.agg #[(.int .i64 0),(.int .i64 0),(.slice none 0 0),(.slice none 0 0),(.int .i64 0),(.int .i64 0)]),6,80):=by kernel_rfl
theorem C7:(Tryd.prog.info? 32).map (λi=>(i.zero,i.size,i.bytes))=some (some (.agg #[(.int .i64 0),(.int .i64 0),(.int .i64 0),(.int .i64 0),(.int .i64 0),(.int .i64 0),(.string ⟨#[]⟩)]),7,64):=by kernel_rfl
theorem EC:(Tryd.prog.info? 68).map (λi=>(i.zero,i.size,i.bytes))=some (some (.agg #[(.int .i64 0),(.int .i64 0),(.string ⟨#[]⟩)]),3,32):=by kernel_rfl
theorem G7:(Tryd.prog.info? 114).map (λi=>(i.zero,i.size,i.bytes))=some (some (.agg #[(.int .i64 0),(.int .i64 0),(.slice none 0 0)]),3,40):=by kernel_rfl
structure Et where
 f0:Int
 f1:Int
 f2:Int
 f3:Int
 f4:ByteArray
def QQ:Et:=⟨(0:Int),(0:Int),(0:Int),(0:Int),(⟨#[]⟩:ByteArray)⟩
def Qp:Kd Et:=Kd.Qa (Kd.pair (Kd.int .i64) (Kd.pair (Kd.int .i64) (Kd.pair (Kd.int .i64) (Kd.pair (Kd.int .i64) Kd.string)))) (λx:Et=>(x.f0,x.f1,x.f2,x.f3,x.f4))
theorem MR{w:World}{x:Et}{cs:List Value}(h:Qp.K w x cs):cs=[.int .i64 x.f0,.int .i64 x.f1,.int .i64 x.f2,.int .i64 x.f3,.string x.f4]:=by obtain⟨_,_,rfl,rfl,⟨_,_,rfl,rfl,⟨_,_,rfl,rfl,⟨_,_,rfl,rfl,rfl⟩⟩⟩⟩:=h;exact rfl
theorem LR{w:World}{base:Nat}{ok:Nat->Prop}{x:Et}{cs:List Value}(h:Qp.M w base ok x cs):cs=[.int .i64 x.f0,.int .i64 x.f1,.int .i64 x.f2,.int .i64 x.f3,.string x.f4]:=by obtain⟨_,_,rfl,rfl,⟨_,_,rfl,rfl,⟨_,_,rfl,rfl,⟨_,_,rfl,rfl,rfl⟩⟩⟩⟩:=h;exact rfl
theorem NO(w:World)(base:Nat)(ok:Nat->Prop)(x:Et)  : Qp.M w base ok x [.int .i64 x.f0,.int .i64 x.f1,.int .i64 x.f2,.int .i64 x.f3,.string x.f4]:=⟨[.int .i64 x.f0],[.int .i64 x.f1,.int .i64 x.f2,.int .i64 x.f3,.string x.f4],rfl,rfl,⟨[.int .i64 x.f1],[.int .i64 x.f2,.int .i64 x.f3,.string x.f4],rfl,rfl,⟨[.int .i64 x.f2],[.int .i64 x.f3,.string x.f4],rfl,rfl,⟨[.int .i64 x.f3],[.string x.f4],rfl,rfl,rfl⟩⟩⟩⟩
structure AM where
 f0:Int
 f1:Int
 f2:Et
def Qr:AM:=⟨(0:Int),(0:Int),QQ⟩
def BT:Kd AM:=Kd.Qa (Kd.pair (Kd.int .i64) (Kd.pair (Kd.int .i64) Qp)) (λx:AM=>(x.f0,x.f1,x.f2))
theorem MS{w:World}{x:AM}{cs:List Value}(h:BT.K w x cs):cs=[.int .i64 x.f0,.int .i64 x.f1,.int .i64 x.f2.f0,.int .i64 x.f2.f1,.int .i64 x.f2.f2,.int .i64 x.f2.f3,.string x.f2.f4]:=by obtain⟨_,_,rfl,rfl,⟨_,_,rfl,rfl,s2⟩⟩:=h;obtain rfl:=MR s2;exact rfl
theorem I4{w:World}{base:Nat}{ok:Nat->Prop}{x:AM}{cs:List Value}(h:BT.M w base ok x cs):cs=[.int .i64 x.f0,.int .i64 x.f1,.int .i64 x.f2.f0,.int .i64 x.f2.f1,.int .i64 x.f2.f2,.int .i64 x.f2.f3,.string x.f2.f4]:=by obtain⟨_,_,rfl,rfl,⟨_,_,rfl,rfl,s2⟩⟩:=h;obtain rfl:=LR s2;exact rfl
theorem Ex(w:World)(base:Nat)(ok:Nat->Prop)(x:AM)  : BT.M w base ok x [.int .i64 x.f0,.int .i64 x.f1,.int .i64 x.f2.f0,.int .i64 x.f2.f1,.int .i64 x.f2.f2,.int .i64 x.f2.f3,.string x.f2.f4]:=⟨[.int .i64 x.f0],[.int .i64 x.f1,.int .i64 x.f2.f0,.int .i64 x.f2.f1,.int .i64 x.f2.f2,.int .i64 x.f2.f3,.string x.f2.f4],rfl,rfl,⟨[.int .i64 x.f1],[.int .i64 x.f2.f0,.int .i64 x.f2.f1,.int .i64 x.f2.f2,.int .i64 x.f2.f3,.string x.f2.f4],rfl,rfl,(NO w base ok x.f2 )⟩⟩
def Aa(xs:List AM)(i:Int):AM:=xs.getD i.toNat Qr
theorem CD{w:World}{A:Option Addr}{n:Nat}{xs:List AM}(h:Kd.C BT w A n xs)(i:Int)(h0:0≤i)(h1:i<n):∃ad ,A=some ad∧w.cell? (ad.add (i.toNat*7))=some (.int .i64 (Aa xs i).f0)∧w.cell? ⟨(ad.add (i.toNat*7)).block,(ad.add (i.toNat*7)).off+1,none⟩=some (.int .i64 (Aa xs i).f1)∧w.cell? ⟨(ad.add (i.toNat*7)).block,(ad.add (i.toNat*7)).off+2,none⟩=some (.int .i64 (Aa xs i).f2.f0)∧w.cell? ⟨(ad.add (i.toNat*7)).block,(ad.add (i.toNat*7)).off+3,none⟩=some (.int .i64 (Aa xs i).f2.f1)∧w.cell? ⟨(ad.add (i.toNat*7)).block,(ad.add (i.toNat*7)).off+4,none⟩=some (.int .i64 (Aa xs i).f2.f2)∧w.cell? ⟨(ad.add (i.toNat*7)).block,(ad.add (i.toNat*7)).off+5,none⟩=some (.int .i64 (Aa xs i).f2.f3)∧w.cell? ⟨(ad.add (i.toNat*7)).block,(ad.add (i.toNat*7)).off+6,none⟩=some (.string (Aa xs i).f2.f4):=by obtain⟨ad,c,e,_,hK,b⟩:=Kd.Ii h Qr i h0 h1;have a:∀j u,c[j]?=some u->w.cell? (ad.add (i.toNat*7+j))=some u:=b;obtain rfl:=MS hK;exact⟨ad,e,a 0 _ rfl,by rw[<-Cq _ _ 1 (by omega)];exact a 1 _ rfl,by rw[<-Cq _ _ 2 (by omega)];exact a 2 _ rfl,by rw[<-Cq _ _ 3 (by omega)];exact a 3 _ rfl,by rw[<-Cq _ _ 4 (by omega)];exact a 4 _ rfl,by rw[<-Cq _ _ 5 (by omega)];exact a 5 _ rfl,by rw[<-Cq _ _ 6 (by omega)];exact a 6 _ rfl⟩
structure Ba where
 f0:Int
 f1:Int
 f2:ByteArray
def PE:Ba:=⟨(0:Int),(0:Int),(⟨#[]⟩:ByteArray)⟩
def Dj:Kd Ba:=Kd.Qa (Kd.pair (Kd.int .i64) (Kd.pair (Kd.int .i64) Kd.string)) (λx:Ba=>(x.f0,x.f1,x.f2))
theorem MU{w:World}{x:Ba}{cs:List Value}(h:Dj.K w x cs):cs=[.int .i64 x.f0,.int .i64 x.f1,.string x.f2]:=by obtain⟨_,_,rfl,rfl,⟨_,_,rfl,rfl,rfl⟩⟩:=h;exact rfl
theorem I5{w:World}{base:Nat}{ok:Nat->Prop}{x:Ba}{cs:List Value}(h:Dj.M w base ok x cs):cs=[.int .i64 x.f0,.int .i64 x.f1,.string x.f2]:=by obtain⟨_,_,rfl,rfl,⟨_,_,rfl,rfl,rfl⟩⟩:=h;exact rfl
theorem Gl(w:World)(base:Nat)(ok:Nat->Prop)(x:Ba)  : Dj.M w base ok x [.int .i64 x.f0,.int .i64 x.f1,.string x.f2]:=⟨[.int .i64 x.f0],[.int .i64 x.f1,.string x.f2],rfl,rfl,⟨[.int .i64 x.f1],[.string x.f2],rfl,rfl,rfl⟩⟩
def Ag(xs:List Ba)(i:Int):Ba:=xs.getD i.toNat PE
theorem BV{w:World}{A:Option Addr}{n:Nat}{xs:List Ba}(h:Kd.C Dj w A n xs)(i:Int)(h0:0≤i)(h1:i<n):∃ad ,A=some ad∧w.cell? (ad.add (i.toNat*3))=some (.int .i64 (Ag xs i).f0)∧w.cell? ⟨(ad.add (i.toNat*3)).block,(ad.add (i.toNat*3)).off+1,none⟩=some (.int .i64 (Ag xs i).f1)∧w.cell? ⟨(ad.add (i.toNat*3)).block,(ad.add (i.toNat*3)).off+2,none⟩=some (.string (Ag xs i).f2):=by obtain⟨ad,c,e,_,hK,b⟩:=Kd.Ii h PE i h0 h1;have a:∀j u,c[j]?=some u->w.cell? (ad.add (i.toNat*3+j))=some u:=b;obtain rfl:=MU hK;exact⟨ad,e,a 0 _ rfl,by rw[<-Cq _ _ 1 (by omega)];exact a 1 _ rfl,by rw[<-Cq _ _ 2 (by omega)];exact a 2 _ rfl⟩
structure EI where
 f0:Int
 f1:Int
 f2:(List Ba)
 f3:(List AM)
 f4:Int
 f5:Int
def Py:EI:=⟨(0:Int),(0:Int),([]:List Ba),([]:List AM),(0:Int),(0:Int)⟩
def GW:Kd EI:=Kd.Qa (Kd.pair (Kd.int .i64) (Kd.pair (Kd.int .i64) (Kd.pair (Kd.slice 68 Dj) (Kd.pair (Kd.slice 32 BT) (Kd.pair (Kd.int .i64) (Kd.int .i64)))))) (λx:EI=>(x.f0,x.f1,x.f2,x.f3,x.f4,x.f5))
theorem G_{w:World}{x:EI}{cs:List Value}(h:GW.K w x cs):∃a c2 b c3,cs=[.int .i64 x.f0,.int .i64 x.f1,.slice a x.f2.length c2,.slice b x.f3.length c3,.int .i64 x.f4,.int .i64 x.f5]∧x.f2.length≤c2∧Dj.C w a x.f2.length x.f2∧x.f3.length≤c3∧BT.C w b x.f3.length x.f3:=by obtain⟨_,_,rfl,rfl,⟨_,_,rfl,rfl,⟨_,_,rfl,⟨a,c2,rfl,e,c⟩,⟨_,_,rfl,⟨b,c3,rfl,l3,d⟩,⟨_,_,rfl,rfl,rfl⟩⟩⟩⟩⟩:=h;exact⟨a,c2,b,c3,rfl,e,c,l3,d⟩
theorem Hz{w:World}{base:Nat}{ok:Nat->Prop}{x:EI}{cs:List Value}(h:GW.M w base ok x cs):∃v2 v3,cs=[.int .i64 x.f0,.int .i64 x.f1,v2,v3,.int .i64 x.f4,.int .i64 x.f5]∧Dj.R 68 w base ok v2 x.f2∧BT.R 32 w base ok v3 x.f3:=by obtain⟨_,_,rfl,rfl,⟨_,_,rfl,rfl,⟨_,_,rfl,⟨v2,rfl,a⟩,⟨_,_,rfl,⟨v3,rfl,b⟩,⟨_,_,rfl,rfl,rfl⟩⟩⟩⟩⟩:=h;exact⟨v2,v3,rfl,a,b⟩
theorem Pg(w:World)(x:EI){b:Option Addr}{c2:Nat}(e:x.f2.length≤c2)(c:Dj.C w b x.f2.length x.f2){a:Option Addr}{c3:Nat}(l3:x.f3.length≤c3)(d:BT.C w a x.f3.length x.f3):GW.K w x [.int .i64 x.f0,.int .i64 x.f1,.slice b x.f2.length c2,.slice a x.f3.length c3,.int .i64 x.f4,.int .i64 x.f5]:=⟨[.int .i64 x.f0],[.int .i64 x.f1,.slice b x.f2.length c2,.slice a x.f3.length c3,.int .i64 x.f4,.int .i64 x.f5],rfl,rfl,⟨[.int .i64 x.f1],[.slice b x.f2.length c2,.slice a x.f3.length c3,.int .i64 x.f4,.int .i64 x.f5],rfl,rfl,⟨[.slice b x.f2.length c2],[.slice a x.f3.length c3,.int .i64 x.f4,.int .i64 x.f5],rfl,⟨b,c2,rfl,e,c⟩,⟨[.slice a x.f3.length c3],[.int .i64 x.f4,.int .i64 x.f5],rfl,⟨a,c3,rfl,l3,d⟩,⟨[.int .i64 x.f4],[.int .i64 x.f5],rfl,rfl,rfl⟩⟩⟩⟩⟩
theorem Ig(w:World)(base:Nat)(ok:Nat->Prop)(x:EI){v2:Value}(a:Dj.R 68 w base ok v2 x.f2){v3:Value}(b:BT.R 32 w base ok v3 x.f3):GW.M w base ok x [.int .i64 x.f0,.int .i64 x.f1,v2,v3,.int .i64 x.f4,.int .i64 x.f5]:=⟨[.int .i64 x.f0],[.int .i64 x.f1,v2,v3,.int .i64 x.f4,.int .i64 x.f5],rfl,rfl,⟨[.int .i64 x.f1],[v2,v3,.int .i64 x.f4,.int .i64 x.f5],rfl,rfl,⟨[v2],[v3,.int .i64 x.f4,.int .i64 x.f5],rfl,⟨v2,rfl,a⟩,⟨[v3],[.int .i64 x.f4,.int .i64 x.f5],rfl,⟨v3,rfl,b⟩,⟨[.int .i64 x.f4],[.int .i64 x.f5],rfl,rfl,rfl⟩⟩⟩⟩⟩
theorem LQ{W:World}{ok:Nat->Prop}{x:EI}{cs:List Value}(h:Kd.FK GW W ok x cs):∃b c2 d c3,cs=[.int .i64 x.f0,.int .i64 x.f1,.slice b x.f2.length c2,.slice d x.f3.length c3,.int .i64 x.f4,.int .i64 x.f5]∧x.f2.length≤c2∧Kd.F Dj W ok b x.f2.length x.f2∧x.f3.length≤c3∧Kd.F BT W ok d x.f3.length x.f3:=by obtain⟨b,c2,d,c3,rfl,q,_,l3,_⟩:=G_ (Kd.Fp h);exact⟨b,c2,d,c3,rfl,q,(λm n=>by obtain⟨c,g,e,i,he,o,j,p,k⟩:=G_ (h m n);injection (C5 (show some (Value.slice b x.f2.length c2)=some (Value.slice c x.f2.length g)from congrArg (λl=>l[2]?) he))with a _ _;rw[a];exact j),l3,(λm n=>by obtain⟨c,g,e,i,he,o,j,p,k⟩:=G_ (h m n);injection (C5 (show some (Value.slice d x.f3.length c3)=some (Value.slice e x.f3.length i)from congrArg (λl=>l[3]?) he))with a _ _;rw[a];exact k)⟩
theorem NN(W:World)(ok:Nat->Prop)(x:EI){a:Option Addr}{c2:Nat}(g:x.f2.length≤c2)(d:Kd.F Dj W ok a x.f2.length x.f2){b:Option Addr}{c3:Nat}(l3:x.f3.length≤c3)(e:Kd.F BT W ok b x.f3.length x.f3):Kd.FK GW W ok x [.int .i64 x.f0,.int .i64 x.f1,.slice a x.f2.length c2,.slice b x.f3.length c3,.int .i64 x.f4,.int .i64 x.f5]:=λW2 c=>Pg W2 x g (d W2 c) l3 (e W2 c)
def Aw(xs:List EI)(i:Int):EI:=xs.getD i.toNat Py
theorem O9{w:World}{A:Option Addr}{n:Nat}{xs:List EI}(h:Kd.C GW w A n xs)(i:Int)(h0:0≤i)(h1:i<n):∃ad b c2 d c3,A=some ad∧w.cell? (ad.add (i.toNat*6))=some (.int .i64 (Aw xs i).f0)∧w.cell? ⟨(ad.add (i.toNat*6)).block,(ad.add (i.toNat*6)).off+1,none⟩=some (.int .i64 (Aw xs i).f1)∧w.cell? ⟨(ad.add (i.toNat*6)).block,(ad.add (i.toNat*6)).off+2,none⟩=some (.slice b (Aw xs i).f2.length c2)∧w.cell? ⟨(ad.add (i.toNat*6)).block,(ad.add (i.toNat*6)).off+3,none⟩=some (.slice d (Aw xs i).f3.length c3)∧w.cell? ⟨(ad.add (i.toNat*6)).block,(ad.add (i.toNat*6)).off+4,none⟩=some (.int .i64 (Aw xs i).f4)∧w.cell? ⟨(ad.add (i.toNat*6)).block,(ad.add (i.toNat*6)).off+5,none⟩=some (.int .i64 (Aw xs i).f5)∧(Aw xs i).f2.length≤c2∧Dj.C w b (Aw xs i).f2.length (Aw xs i).f2∧(Aw xs i).f3.length≤c3∧BT.C w d (Aw xs i).f3.length (Aw xs i).f3:=by obtain⟨ad,c,e,_,hK,g⟩:=Kd.Ii h Py i h0 h1;have a:∀j u,c[j]?=some u->w.cell? (ad.add (i.toNat*6+j))=some u:=g;obtain⟨b,c2,d,c3,rfl,m,k,l3,l⟩:=G_ hK;exact⟨ad,b,c2,d,c3,e,a 0 _ rfl,by rw[<-Cq _ _ 1 (by omega)];exact a 1 _ rfl,by rw[<-Cq _ _ 2 (by omega)];exact a 2 _ rfl,by rw[<-Cq _ _ 3 (by omega)];exact a 3 _ rfl,by rw[<-Cq _ _ 4 (by omega)];exact a 4 _ rfl,by rw[<-Cq _ _ 5 (by omega)];exact a 5 _ rfl,m,k,l3,l⟩
structure Dm where
 f0:Int
 f1:Int
 f2:(List AM)
def Px:Dm:=⟨(0:Int),(0:Int),([]:List AM)⟩
def E2:Kd Dm:=Kd.Qa (Kd.pair (Kd.int .i64) (Kd.pair (Kd.int .i64) (Kd.slice 32 BT))) (λx:Dm=>(x.f0,x.f1,x.f2))
theorem Hy{w:World}{x:Dm}{cs:List Value}(h:E2.K w x cs):∃a c2,cs=[.int .i64 x.f0,.int .i64 x.f1,.slice a x.f2.length c2]∧x.f2.length≤c2∧BT.C w a x.f2.length x.f2:=by obtain⟨_,_,rfl,rfl,⟨_,_,rfl,rfl,⟨a,c2,rfl,c,b⟩⟩⟩:=h;exact⟨a,c2,rfl,c,b⟩
theorem NM(w:World)(x:Dm){a:Option Addr}{c2:Nat}(c:x.f2.length≤c2)(b:BT.C w a x.f2.length x.f2):E2.K w x [.int .i64 x.f0,.int .i64 x.f1,.slice a x.f2.length c2]:=⟨[.int .i64 x.f0],[.int .i64 x.f1,.slice a x.f2.length c2],rfl,rfl,⟨[.int .i64 x.f1],[.slice a x.f2.length c2],rfl,rfl,⟨a,c2,rfl,c,b⟩⟩⟩
theorem MQ(w:World)(base:Nat)(ok:Nat->Prop)(x:Dm){v2:Value}(a:BT.R 32 w base ok v2 x.f2):E2.M w base ok x [.int .i64 x.f0,.int .i64 x.f1,v2]:=⟨[.int .i64 x.f0],[.int .i64 x.f1,v2],rfl,rfl,⟨[.int .i64 x.f1],[v2],rfl,rfl,⟨v2,rfl,a⟩⟩⟩
theorem KD{W:World}{ok:Nat->Prop}{x:Dm}{cs:List Value}(h:Kd.FK E2 W ok x cs):∃a c2,cs=[.int .i64 x.f0,.int .i64 x.f1,.slice a x.f2.length c2]∧x.f2.length≤c2∧Kd.F BT W ok a x.f2.length x.f2:=by obtain⟨a,c2,rfl,j,_⟩:=Hy (Kd.Fp h);exact⟨a,c2,rfl,j,(λg i=>by obtain⟨b,c,he,k,d⟩:=Hy (h g i);injection (C5 (show some (Value.slice a x.f2.length c2)=some (Value.slice b x.f2.length c)from congrArg (λl=>l[2]?) he))with e _ _;rw[e];exact d)⟩
theorem MP(W:World)(ok:Nat->Prop)(x:Dm){a:Option Addr}{c2:Nat}(d:x.f2.length≤c2)(b:Kd.F BT W ok a x.f2.length x.f2):Kd.FK E2 W ok x [.int .i64 x.f0,.int .i64 x.f1,.slice a x.f2.length c2]:=λW2 c=>NM W2 x d (b W2 c)
def AB(xs:List Dm)(i:Int):Dm:=xs.getD i.toNat Px
theorem Nz{w:World}{A:Option Addr}{n:Nat}{xs:List Dm}(h:Kd.C E2 w A n xs)(i:Int)(h0:0≤i)(h1:i<n):∃ad a c2,A=some ad∧w.cell? (ad.add (i.toNat*3))=some (.int .i64 (AB xs i).f0)∧w.cell? ⟨(ad.add (i.toNat*3)).block,(ad.add (i.toNat*3)).off+1,none⟩=some (.int .i64 (AB xs i).f1)∧w.cell? ⟨(ad.add (i.toNat*3)).block,(ad.add (i.toNat*3)).off+2,none⟩=some (.slice a (AB xs i).f2.length c2)∧(AB xs i).f2.length≤c2∧BT.C w a (AB xs i).f2.length (AB xs i).f2:=by obtain⟨ad,c,e,_,hK,d⟩:=Kd.Ii h Px i h0 h1;have b:∀j u,c[j]?=some u->w.cell? (ad.add (i.toNat*3+j))=some u:=d;obtain⟨a,c2,rfl,k,g⟩:=Hy hK;exact⟨ad,a,c2,e,b 0 _ rfl,by rw[<-Cq _ _ 1 (by omega)];exact b 1 _ rfl,by rw[<-Cq _ _ 2 (by omega)];exact b 2 _ rfl,k,g⟩
def Af(w0 W:World)(g:Nat)(f0:List Int)(f1:Int):Prop:=∃a b,W.heap[g]?=some (.cells #[.slice a f0.length b,.int .i64 f1] 58 (0,0))∧w0.heap.size≤g∧Kd.C (Kd.int .u8) w0 a f0.length f0
theorem Af.grown{w0 W:World}{g:Nat}{f0:List Int}{f1:Int}{W1:World}{row:Option Nat}(h:Af w0 W g f0 f1)(hw:W.grownBy W1 row)(a:some g≠row):Af w0 W1 g f0 f1:=by obtain⟨c,d,e,hg,b⟩:=h;exact⟨c,d,AJ e hw a,hg,b⟩
theorem Af.kept{w0 W:World}{g:Nat}{f0:List Int}{f1:Int}{W1:World}{S:Nat->Prop}(h:Af w0 W g f0 f1)(i:Kept W W1 S)(a:¬ S g):Af w0 W1 g f0 f1:=by obtain⟨c,d,e,hg,b⟩:=h;exact⟨c,d,J1 e i a,hg,b⟩
theorem Af.below{w0 W:World}{g:Nat}{f0:List Int}{f1:Int}{W1:World}(h:Af w0 W g f0 f1)(hw:Below W.heap.size W W1):Af w0 W1 g f0 f1:=h.grown (Ir hw none) (by simp)
theorem Af.drewN{w0 W:World}{g:Nat}{f0:List Int}{f1:Int}(h:Af w0 W g f0 f1)(m:Nat):Af w0 (W.drewN m) g f0 f1:=h
theorem Af.drew{w0 W:World}{g:Nat}{f0:List Int}{f1:Int}(h:Af w0 W g f0 f1):Af w0 W.drew g f0 f1:=h
theorem Af.apart{w0 W:World}{g:Nat}{f0:List Int}{f1:Int}{α:Type}{d:Kd α}{e:Nat}{base:Nat}{ok:Nat->Prop}{v:Value}{xs:List α}(h:Af w0 W g f0 f1)(b:d.R e W base ok v xs)(i:∀q,q∈e::d.E->q≠58):d.R e W base (λk=>ok k∧k≠g) v xs:=by obtain⟨j,l,a,hg,c⟩:=h;exact Kd.AF b a i
theorem Af.FX{w0 W:World}{g:Nat}{f0:List Int}{f1:Int}{α:Type}{d:Kd α}{e:Nat}{base:Nat}{ok:Nat->Prop}{v:Value}{xs:List α}(h:Af w0 W g f0 f1)(b:d.R e W base ok v xs)(i:e≠58):some g≠v.ownBlock:=by obtain⟨j,k,a,hg,c⟩:=h;exact Kd.Ez b a i
theorem Af.lt{w0 W:World}{g:Nat}{f0:List Int}{f1:Int}(h:Af w0 W g f0 f1):g<W.heap.size:=by obtain⟨c,d,a,hg,b⟩:=h;exact AU a
theorem Af.ge{w0 W:World}{g:Nat}{f0:List Int}{f1:Int}(h:Af w0 W g f0 f1):w0.heap.size≤g:=by obtain⟨b,c,d,hg,a⟩:=h;exact hg
theorem Af.JG{w0 W:World}{g:Nat}{f0:List Int}{f1:Int}{a:Nat}{cs:Array Value}{t:TypeId}{fr:Nat×Nat}(h:Af w0 W g f0 f1)(b:W.heap[a]?=some (.cells cs t fr))(i:t≠58):g≠a:=by obtain⟨j,k,d,hg,e⟩:=h;rintro rfl;rw[d]at b;injection b with b;injection b with _ c;exact i c.symm
theorem Af.GV{w0 W:World}{g:Nat}{f0:List Int}{f1:Int}{p:Addr}(h:Af w0 W g f0 f1)(a:g≠p.block)(u:Value):Af w0 (W.setCell p u) g f0 f1:=by obtain⟨c,d,e,hg,b⟩:=h;exact⟨c,d,Fm e a u,hg,b⟩
theorem Gi{W:World}{g:Nat}{a:Option Addr}{b:Nat}{f0:List Int}{f1:Int}(h:W.heap[g]?=some (.cells #[.slice a f0.length b,.int .i64 f1] 58 (0,0))):W.cell? ⟨g,0,none⟩=some (.slice a f0.length b):=(AO h 0).trans rfl
theorem Gj{W:World}{g:Nat}{a:Option Addr}{b:Nat}{f0:List Int}{f1:Int}(h:W.heap[g]?=some (.cells #[.slice a f0.length b,.int .i64 f1] 58 (0,0))):W.cell? ⟨g,1,none⟩=some (.int .i64 f1):=(AO h 1).trans rfl
theorem Af.E3{w0 W:World}{g:Nat}{f0:List Int}{f1:Int}(h:Af w0 W g f0 f1)(x:Int):Af w0 (W.setCell ⟨g,1,none⟩ (.int .i64 x)) g f0 x:=by obtain⟨b,c,d,hg,a⟩:=h;exact⟨b,c,by simpa using E8 d 1 (.int .i64 x),hg,a⟩
theorem Al{p:Prop}(h:p:=by repeat(first|(with_reducible first|exact HI0.o|apply Af.alloc|apply Af.drewN|apply Af.drew|apply Af.E3|refine Af.GV ?_ (Ae.o (by assumption)) _)|exact HI0.o)):p:=h
theorem QH{w0 W:World}{g:Nat}{f0:List Int}{f1:Int}{α:Type}{d:Kd α}{e:Nat}{base:Nat}{ok:Nat->Prop}{v:Value}{xs:List α}(h:Af w0 W g f0 f1)(b:d.R e W base ok v xs){W1:World}(a:Ai W W1 g none)(c:∀q,q∈e::d.E->q≠58:=by decide):Ae (d.R e W1 base ok v xs):=a_ (Kd.Aj (Kd.Bq (Af.apart h b c) a (λ_ h=>h.2)) (λ_ h=>h.1))
def DI.f(l0:List Int):Option (List Int×Int):=if(l0.length:Int)>2000 then(if 2000≤(l0.length:Int)then(some (l0.take 2000,0))else(none))else(some (l0,0))
theorem DI.calls(r:Option Addr)(v:Nat)(l0:List Int)(M:List Int)(O:Int)(w0 w:World)(hB:Below w0.heap.size w0 w)(B:Kd.C (Kd.int .u8) w0 r l0.length l0)(A:l0.length≤v)(h:DI.f l0=some (M,O)) :
  Calls Tryd.prog 14 #[.slice r l0.length v] w λe w'=>∃K:Nat,e=.returned (.pointer (some ⟨K,0,none⟩))∧Af w0 w' K M O∧Below w0.heap.size w0 w'∧Below w.heap.size w w':=by
 have L:=Tryd.underlying58;have t:=a_ B;have D:=a_ A;clear B A;have a:=a_ (Below.refl w.heap.size w);have u:=a_ hB.size;have HB:=a_ hB;clear hB;unfold DI.f at h;have H:=h;clear h;by_cases c2:(l0.length:Int)>2000
 ·rw[if_pos c2]at H;have x:decide (2000<(l0.length:Int))=true:=BJ c2;have y:decide (2000<l0.length)=true:=BJ (by omega);clear c2;by_cases c3:2000≤(l0.length:Int)
  ·rw[if_pos c3]at H;have I:=eq_true c3;have J:decide (2000≤(l0.length:Int))=true:=BJ c3;clear c3;simp only[Option.some.injEq,Prod.mk.injEq]at H;obtain⟨rfl,rfl⟩:=H;obtain⟨T,g,_,i,_⟩:=info_parts P_;obtain⟨G,hA4,z⟩:=IQ (P:=Tryd.prog) (Value.int .u8) 0 22 5 .i64 Tryd.underlying22 g i r v l0 2000 (by omega) (Bu) D.o;have p:=a_ (Kd.GA (h1:=λ_=>rfl) (hA4 _ (Kd.GQ t.o)));have E:=a_ z;clear hA4 z g i;go_enter Tryd.func14,Tryd.ntmps14;go_wp2_with(first|((with_reducible refine Cd (N:=10) rfl ?_);refine CE 10 (#[.slice r (l0.take 2000).length v,.int .i64 0]) 58 ?_;intro b hg U d q;have j:=a_ (d);have n:=a_ ((by rw[hg];exact(Ab (by repeat(first|(with_reducible first|exact a.o|apply FL|apply At|apply Ay)|exact a.o))):w.heap.size≤b));have l:=a_ ((Nat.le_trans u.o (by rw[hg];exact(Ab (by repeat(first|(with_reducible first|exact a.o|apply FL|apply At|apply Ay)|exact a.o))):w.heap.size≤b):w0.heap.size≤b));replace a:=a_ (BA a.o q);replace HB:=a_ (BA (Ad) q);clear q d hg));go_ret;exact⟨_,rfl,(show Af w0 _ b (l0.take 2000) 0 from⟨_,_,Bp j.o,l.o,p.o⟩),Ad,by repeat(first|(with_reducible first|exact a.o|apply FL|apply At|apply Ay|refine EK ?_ n.o)|exact a.o)⟩
  rw[if_neg c3]at H;exact absurd H (by simp)
 rw[if_neg c2]at H;have x:decide (2000<(l0.length:Int))=false:=C1 c2;have y:decide (2000<l0.length)=false:=C1 (by omega);clear c2;simp only[Option.some.injEq,Prod.mk.injEq]at H;obtain⟨rfl,rfl⟩:=H;go_enter Tryd.func14,Tryd.ntmps14;go_wp2_with(first|((with_reducible refine Cd (N:=10) rfl ?_);refine CE 10 (#[.slice r l0.length v,.int .i64 0]) 58 ?_;intro c hg W d q;have k:=a_ (d);have o:=a_ ((by rw[hg];exact(Ab (by repeat(first|(with_reducible first|exact a.o|apply FL|apply At|apply Ay)|exact a.o))):w.heap.size≤c));have m:=a_ ((Nat.le_trans u.o (by rw[hg];exact(Ab (by repeat(first|(with_reducible first|exact a.o|apply FL|apply At|apply Ay)|exact a.o))):w.heap.size≤c):w0.heap.size≤c));replace a:=a_ (BA a.o q);replace HB:=a_ (BA (Ad) q);clear q d hg));go_ret;exact⟨_,rfl,(show Af w0 _ c l0 0 from⟨_,_,Bp k.o,m.o,t.o⟩),Ad,by repeat(first|(with_reducible first|exact a.o|apply FL|apply At|apply Ay|refine EK ?_ o.o)|exact a.o)⟩
def Ac.j0:Nat->Int->Bool->List Int->Int->Option (Int×Int)
 | 0,_,_,_,_=>none
 | k+1,c,d,a,b=>if d=true then(some (0,b))else(if(wrap64 (b-1))<(a.length:Int)then(if 0≤(wrap64 (b-1))then(if c=0 then(none)else(some (Int.tmod (wrap64 (rd a (wrap64 (b-1)))) c,b)))else(none))else(if(a.length:Int)=0 then(none)else(if 0≤(Int.tmod (wrap64 (b-1)) (a.length:Int))then(if(Int.tmod (wrap64 (b-1)) (a.length:Int))<(a.length:Int)then(if 0≤(Int.tmod (wrap64 ((wrap64 ((wrap64 (b-1))*7))+3)) (a.length:Int))then(if(Int.tmod (wrap64 ((wrap64 ((wrap64 (b-1))*7))+3)) (a.length:Int))<(a.length:Int)then(if c=0 then(none)else(some (Int.tmod (Go.bits .xor .i64 (wrap64 ((wrap64 ((wrap64 ((wrap64 ((wrap64 (rd a (Int.tmod (wrap64 (b-1)) (a.length:Int))))*131))+(wrap64 ((wrap64 (rd a (Int.tmod (wrap64 ((wrap64 ((wrap64 (b-1))*7))+3)) (a.length:Int))))*1117))))+(wrap64 ((wrap64 (b-1))*29))))+(wrap64 ((wrap64 (Int.tdiv (wrap64 (b-1)) (a.length:Int)))*53)))) (wrap64 (Int.tdiv (wrap64 ((wrap64 ((wrap64 ((wrap64 ((wrap64 (rd a (Int.tmod (wrap64 (b-1)) (a.length:Int))))*131))+(wrap64 ((wrap64 (rd a (Int.tmod (wrap64 ((wrap64 ((wrap64 (b-1))*7))+3)) (a.length:Int))))*1117))))+(wrap64 ((wrap64 (b-1))*29))))+(wrap64 ((wrap64 (Int.tdiv (wrap64 (b-1)) (a.length:Int)))*53)))) 64))) c,b)))else(none))else(none))else(none))else(none))))
def Ac.f(k:Nat)(a:List Int)(b:Int)(c:Int):Option (Int×Int):=if c<1 then(Ac.j0 k c true a (wrap64 (b+1)))else(Ac.j0 k c ((a.length:Int)==0) a (wrap64 (b+1)))
theorem Ac.calls(k:Nat)(g:Nat)(a:List Int)(b:Int)(i:Int)(X:Int)(Y:Int)(w0 w:World)(hI:Af w0 w g a b)(hB:Below w0.heap.size w0 w)(h:Ac.f k a b i=some (X,Y)) :
  Calls Tryd.prog 16 #[.pointer (some ⟨g,0,none⟩),.int .i64 i] w λe w'=>e=.returned (.int .i64 X)∧Af w0 w' g a Y∧Below w0.heap.size w0 w'∧Ai w w' g none:=by
 have HI0:=a_ hI;have HK:=a_ (Ai.refl w g none);have HL:=a_ hB.size;clear hI;have a2:=a_ hB.size;have HB:=a_ hB;clear hB;unfold Ac.f at h;have H:=h;clear h;have Z:=a_ H;clear H;obtain⟨az,aD,y,ax,aB⟩:=HI0.o;have ak:=Gi y;have al:=Gj y;have ai:=DT y 1;clear y ax;go_enter Tryd.func16,Tryd.ntmps16;go_upto_region 2 with(fail)
 repeat(go_quiet(fail);go_upto_region 2 with(fail))
 go_cut [24] (λaZ wc=>∃(kq:Nat) (n:Bool),aZ=.bool n∧Ae (Ac.j0 kq i n a (wrap64 (b+1))=some (X,Y))∧Ae (kq≤k)∧Ae (Af w0 wc g a (wrap64 (b+1)))∧Ae (Ai w wc g none)∧Ae (Below w0.heap.size w0 wc))
 case first =>
  have H:=Z.o;clear Z;by_cases c5:i<1
  ·rw[if_pos c5]at H;have j:decide (i<1)=true:=BJ c5;clear c5;(first|rw[j]|(simp only[Cp,Cv];rw[j])|skip);have H':=a_ H;clear H;go_wp2;repeat(go_quiet(fail);try go_wp2)
   go_meet
   exact⟨_,(true),(Cr),H',⟨by first|omega|exact Nat.le_refl _⟩,⟨Al⟩,⟨EP⟩,⟨Ad⟩⟩
  rw[if_neg c5]at H;have j:decide (i<1)=false:=C1 c5;clear c5;(first|rw[j]|(simp only[Cp,Cv];rw[j])|skip);have H':=a_ H;clear H;obtain⟨aA,aE,z,ay,aC⟩:=HI0.o;have an:=Gi z;have ao:=Gj z;have aj:=DT z 1;clear z ay;go_wp2;repeat(go_quiet(fail);try go_wp2)
  go_meet
  exact⟨_,(((a.length:Int)==0)),(Cr),H',⟨by first|omega|exact Nat.le_refl _⟩,⟨Al⟩,⟨EP⟩,⟨Ad⟩⟩
 clear Z;try clear c1
 try clear c5
 try clear j
 try clear ak al ai
 try clear an ao aj
 obtain⟨kq,n,rfl,HA,a0,HI0,HK,HB⟩:=hcut;cases kq with
 | zero=>exact absurd HA.o (by simp[Ac.j0])
 | succ a3 =>
  have H:=HA.o
  clear HA
  simp only[Ac.j0]at H
  by_cases c7:n=true
  ·subst c7
   have H1:(some (0,(wrap64 (b+1))))=some (X,Y):=by rw[if_pos rfl]at H;exact H
   clear H
   have H:=H1
   clear H1
   simp only[Option.some.injEq,Prod.mk.injEq]at H
   obtain⟨rfl,rfl⟩:=H
   go_wp2
   repeat(go_quiet(fail);try go_wp2)
   go_ret
   exact⟨C_,Al,Ad,EP⟩
  ·replace c7:=Bool.eq_false_iff.mpr c7
   subst c7
   have H1:(if(wrap64 ((wrap64 (b+1))-1))<(a.length:Int)then(if 0≤(wrap64 ((wrap64 (b+1))-1))then(if i=0 then(none)else(some (Int.tmod (wrap64 (rd a (wrap64 ((wrap64 (b+1))-1)))) i,(wrap64 (b+1)))))else(none))else(if(a.length:Int)=0 then(none)else(if 0≤(Int.tmod (wrap64 ((wrap64 (b+1))-1)) (a.length:Int))then(if(Int.tmod (wrap64 ((wrap64 (b+1))-1)) (a.length:Int))<(a.length:Int)then(if 0≤(Int.tmod (wrap64 ((wrap64 ((wrap64 ((wrap64 (b+1))-1))*7))+3)) (a.length:Int))then(if(Int.tmod (wrap64 ((wrap64 ((wrap64 ((wrap64 (b+1))-1))*7))+3)) (a.length:Int))<(a.length:Int)then(if i=0 then(none)else(some (Int.tmod (Go.bits .xor .i64 (wrap64 ((wrap64 ((wrap64 ((wrap64 ((wrap64 (rd a (Int.tmod (wrap64 ((wrap64 (b+1))-1)) (a.length:Int))))*131))+(wrap64 ((wrap64 (rd a (Int.tmod (wrap64 ((wrap64 ((wrap64 ((wrap64 (b+1))-1))*7))+3)) (a.length:Int))))*1117))))+(wrap64 ((wrap64 ((wrap64 (b+1))-1))*29))))+(wrap64 ((wrap64 (Int.tdiv (wrap64 ((wrap64 (b+1))-1)) (a.length:Int)))*53)))) (wrap64 (Int.tdiv (wrap64 ((wrap64 ((wrap64 ((wrap64 ((wrap64 (rd a (Int.tmod (wrap64 ((wrap64 (b+1))-1)) (a.length:Int))))*131))+(wrap64 ((wrap64 (rd a (Int.tmod (wrap64 ((wrap64 ((wrap64 ((wrap64 (b+1))-1))*7))+3)) (a.length:Int))))*1117))))+(wrap64 ((wrap64 ((wrap64 (b+1))-1))*29))))+(wrap64 ((wrap64 (Int.tdiv (wrap64 ((wrap64 (b+1))-1)) (a.length:Int)))*53)))) 64))) i,(wrap64 (b+1)))))else(none))else(none))else(none))else(none))))=some (X,Y):=by rw[if_neg (show¬ (false=true) by decide)]at H;exact H
   clear H
   have H:=H1
   clear H1
   by_cases c8:(wrap64 ((wrap64 (b+1))-1))<(a.length:Int)
   ·rw[if_pos c8]at H
    have W:decide ((wrap64 ((wrap64 (b+1))-1))<(a.length:Int))=true:=BJ c8
    clear c8
    obtain⟨u,p⟩:∃j_:Int,(wrap64 ((wrap64 (b+1))-1))=j_:=⟨_,rfl⟩
    replace H:(if 0≤(u)then(if i=0 then(none)else(some (Int.tmod (wrap64 (rd a (u))) i,(wrap64 (b+1)))))else(none))=some (X,Y):=by first|(rw[p]at H;exact H)|(simp only[p]at H⊢;exact H)
    (try rw[p]at W)
    have aY:(IntKind.i64.wrap ((wrap64 (b+1))-1))=u:=(Cp _).trans p
    by_cases Dr:0≤(u)
    ·rw[if_pos Dr]at H
     have aM:decide (0≤(u))=true:=BJ Dr
     clear Dr
     by_cases L:i=0
     ·rw[if_pos L]at H
      exact absurd H (by simp)
     ·rw[if_neg L]at H
      have aN:(i==0)=false:=Dq L
      have aO:(i != 0)=true:=bne_iff_ne.mpr L
      simp only[Option.some.injEq,Prod.mk.injEq]at H
      obtain⟨rfl,rfl⟩:=H
      obtain⟨ag,aq,l,ae,A⟩:=HI0.o
      have aH:=Gi l
      have aI:=Gj l
      have aF:=DT l 1
      clear l ae
      have D:0≤((u):Int):=Bu
      have I:(u)<(a.length:Int):=Bu
      obtain⟨aL,au,q⟩:=Kd.Fe A (u) D I
      cases au
      replace q:=Ee HB.o q
      replace D:=eq_true D
      replace I:=eq_true I
      go_wp2
      repeat(go_quiet(fail);try go_wp2)
      go_ret
      exact⟨by first|rfl|(simp[BK,BM] <;> rfl)|(simp only[<-p];first|rfl|(simp[BK,BM] <;> rfl))|(simp[*,BK,BM] <;> rfl),Al,Ad,EP⟩
    ·rw[if_neg Dr]at H
     exact absurd H (by simp)
   ·rw[if_neg c8]at H
    have W:decide ((wrap64 ((wrap64 (b+1))-1))<(a.length:Int))=false:=C1 c8
    clear c8
    by_cases B:(a.length:Int)=0
    ·rw[if_pos B]at H
     exact absurd H (by simp)
    ·rw[if_neg B]at H
     have aP:((a.length:Int)==0)=false:=Dq B
     have aQ:((a.length:Int) != 0)=true:=bne_iff_ne.mpr B
     have aR:¬ (a=[]):=λh_=>B (by rw[h_];rfl)
     obtain⟨c,v⟩:∃j_:Int,(Int.tmod (wrap64 ((wrap64 (b+1))-1)) (a.length:Int))=j_:=⟨_,rfl⟩
     replace H:(if 0≤(c)then(if(c)<(a.length:Int)then(if 0≤(Int.tmod (wrap64 ((wrap64 ((wrap64 ((wrap64 (b+1))-1))*7))+3)) (a.length:Int))then(if(Int.tmod (wrap64 ((wrap64 ((wrap64 ((wrap64 (b+1))-1))*7))+3)) (a.length:Int))<(a.length:Int)then(if i=0 then(none)else(some (Int.tmod (Go.bits .xor .i64 (wrap64 ((wrap64 ((wrap64 ((wrap64 ((wrap64 (rd a (c)))*131))+(wrap64 ((wrap64 (rd a (Int.tmod (wrap64 ((wrap64 ((wrap64 ((wrap64 (b+1))-1))*7))+3)) (a.length:Int))))*1117))))+(wrap64 ((wrap64 ((wrap64 (b+1))-1))*29))))+(wrap64 ((wrap64 (Int.tdiv (wrap64 ((wrap64 (b+1))-1)) (a.length:Int)))*53)))) (wrap64 (Int.tdiv (wrap64 ((wrap64 ((wrap64 ((wrap64 ((wrap64 (rd a (c)))*131))+(wrap64 ((wrap64 (rd a (Int.tmod (wrap64 ((wrap64 ((wrap64 ((wrap64 (b+1))-1))*7))+3)) (a.length:Int))))*1117))))+(wrap64 ((wrap64 ((wrap64 (b+1))-1))*29))))+(wrap64 ((wrap64 (Int.tdiv (wrap64 ((wrap64 (b+1))-1)) (a.length:Int)))*53)))) 64))) i,(wrap64 (b+1)))))else(none))else(none))else(none))else(none))=some (X,Y):=by first|(rw[v]at H;exact H)|(simp only[v]at H⊢;exact H)
     by_cases M:0≤(c)
     ·rw[if_pos M]at H
      have aS:decide (0≤(c))=true:=BJ M
      clear M
      by_cases O:(c)<(a.length:Int)
      ·rw[if_pos O]at H
       have aT:decide ((c)<(a.length:Int))=true:=BJ O
       clear O
       obtain⟨d,x⟩:∃j_:Int,(Int.tmod (wrap64 ((wrap64 ((wrap64 ((wrap64 (b+1))-1))*7))+3)) (a.length:Int))=j_:=⟨_,rfl⟩
       replace H:(if 0≤(d)then(if(d)<(a.length:Int)then(if i=0 then(none)else(some (Int.tmod (Go.bits .xor .i64 (wrap64 ((wrap64 ((wrap64 ((wrap64 ((wrap64 (rd a (c)))*131))+(wrap64 ((wrap64 (rd a (d)))*1117))))+(wrap64 ((wrap64 ((wrap64 (b+1))-1))*29))))+(wrap64 ((wrap64 (Int.tdiv (wrap64 ((wrap64 (b+1))-1)) (a.length:Int)))*53)))) (wrap64 (Int.tdiv (wrap64 ((wrap64 ((wrap64 ((wrap64 ((wrap64 (rd a (c)))*131))+(wrap64 ((wrap64 (rd a (d)))*1117))))+(wrap64 ((wrap64 ((wrap64 (b+1))-1))*29))))+(wrap64 ((wrap64 (Int.tdiv (wrap64 ((wrap64 (b+1))-1)) (a.length:Int)))*53)))) 64))) i,(wrap64 (b+1)))))else(none))else(none))=some (X,Y):=by first|(rw[x]at H;exact H)|(simp only[x]at H⊢;exact H)
       by_cases P:0≤(d)
       ·rw[if_pos P]at H
        have aU:decide (0≤(d))=true:=BJ P
        clear P
        by_cases T:(d)<(a.length:Int)
        ·rw[if_pos T]at H
         have aV:decide ((d)<(a.length:Int))=true:=BJ T
         clear T
         by_cases U:i=0
         ·rw[if_pos U]at H
          exact absurd H (by simp)
         ·rw[if_neg U]at H
          have aW:(i==0)=false:=Dq U
          have aX:(i != 0)=true:=bne_iff_ne.mpr U
          simp only[Option.some.injEq,Prod.mk.injEq]at H
          obtain⟨rfl,rfl⟩:=H
          obtain⟨ah,ar,m,af,o⟩:=HI0.o
          have aJ:=Gi m
          have aK:=Gj m
          have aG:=DT m 1
          clear m af
          have E:0≤((c):Int):=Bu
          have J:(c)<(a.length:Int):=Bu
          obtain⟨aa,av,r⟩:=Kd.Fe o (c) E J
          cases av
          replace r:=Ee HB.o r
          replace E:=eq_true E
          replace J:=eq_true J
          have G:0≤((d):Int):=Bu
          have K:(d)<(a.length:Int):=Bu
          obtain⟨ab,aw,t⟩:=Kd.Fe o (d) G K
          obtain rfl:aa=ab:=(by injection aw)
          replace t:=Ee HB.o t
          replace G:=eq_true G
          replace K:=eq_true K
          go_wp2
          repeat(go_quiet(fail);try go_wp2)
          go_ret
          exact⟨by first|rfl|(simp[BK,BM] <;> rfl)|(simp only[<-v,<-x];first|rfl|(simp[BK,BM] <;> rfl))|(simp[*,BK,BM] <;> rfl),Al,Ad,EP⟩
        ·rw[if_neg T]at H
         exact absurd H (by simp)
       ·rw[if_neg P]at H
        exact absurd H (by simp)
      ·rw[if_neg O]at H
       exact absurd H (by simp)
     ·rw[if_neg M]at H
      exact absurd H (by simp)
def Cn.f(k:Nat)(c:List Int)(d:Int):Option (Int×Int):=(Ac.f k c d 3).bind λa=>((Ac.f k c a.2 4).bind λb=>(some (wrap64 ((wrap64 ((wrap64 (10*(wrap64 (1+a.1))))+1))+b.1),b.2)))
theorem Cn.calls(k:Nat)(g:Nat)(a:List Int)(b:Int)(l:Int)(m:Int)(w0 w:World)(hI:Af w0 w g a b)(hB:Below w0.heap.size w0 w)(h:Cn.f k a b=some (l,m)) :
  Calls Tryd.prog 41 #[.pointer (some ⟨g,0,none⟩)] w λe w'=>e=.returned (.int .i64 l)∧Af w0 w' g a m∧Below w0.heap.size w0 w'∧Ai w w' g none:=by
 have HI0:=a_ hI;have HK:=a_ (Ai.refl w g none);have q:=a_ hB.size;clear hI;have p:=a_ hB.size;have HB:=a_ hB;clear hB;unfold Cn.f at h;have H:=h;clear h;replace H:=BU H;obtain⟨⟨t107,t108⟩,c,H⟩:=H;try dsimp only at H
 have n:=a_ c;clear c;replace H:=BU H;obtain⟨⟨t109,t110⟩,d,H⟩:=H;try dsimp only at H
 have o:=a_ d;clear d;simp only[Option.some.injEq,Prod.mk.injEq]at H;obtain⟨rfl,rfl⟩:=H;go_enter Tryd.func41,Tryd.ntmps41;go_wp2_with(first|((with_reducible refine BN (f:=16) rfl ?_);refine BR 4 Tryd.func16 #[.pointer (some ⟨g,0,none⟩),.int .i64 3] ?_;(with_reducible refine(Ac.calls k g a b 3 t107 t108 w0 _ ?q' ?z' n.o).mono ?_);(case q'=>exact Al);(case z'=>exact Ad);rintro e r ⟨rfl,hi,i,j⟩;refine⟨_,rfl,?_⟩;replace HK:=a_ (Ai.trans (EP) j (.inl rfl));replace HB:=a_ (i);replace HI0:=a_ (hi);(try clear i j hi))|((with_reducible refine BN (f:=16) rfl ?_);refine BR 9 Tryd.func16 #[.pointer (some ⟨g,0,none⟩),.int .i64 4] ?_;(with_reducible refine(Ac.calls k g a t108 4 t109 t110 w0 _ ?q' ?z' o.o).mono ?_);(case q'=>exact Al);(case z'=>exact Ad);rintro e t ⟨rfl,hi,i,j⟩;refine⟨_,rfl,?_⟩;replace HK:=a_ (Ai.trans (EP) j (.inl rfl));replace HB:=a_ (i);replace HI0:=a_ (hi);(try clear i j hi)));go_ret;exact⟨C_,Al,Ad,EP⟩
def CZ.f(k:Nat)(b:List Int)(c:Int)(l1:List ByteArray):Option (ByteArray×Int):=(Ac.f k b c (l1.length:Int)).bind λa=>(if 0≤a.1 then(if a.1<(l1.length:Int)then(some (Kb ByteArray.empty l1 a.1,a.2))else(none))else(none))
theorem CZ.calls(k:Nat)(g:Nat)(b:List Int)(i:Int)(q:Option Addr)(t:Nat)(l1:List ByteArray)(z:ByteArray)(A:Int)(w0 w:World)(hI:Af w0 w g b i)(hB:Below w0.heap.size w0 w)(p:Kd.C Kd.string w q l1.length l1)(o:l1.length≤t)(l:∀ad,q=some ad->0<l1.length->ad.block≠g)(h:CZ.f k b i l1=some (z,A)) :
  Calls Tryd.prog 53 #[.pointer (some ⟨g,0,none⟩),.slice q l1.length t] w λe w'=>e=.returned (.string z)∧Af w0 w' g b A∧Below w0.heap.size w0 w'∧Ai w w' g none:=by
 have r:=a_ p;have D:=a_ o;clear p o;have HI0:=a_ hI;have HK:=a_ (Ai.refl w g none);have G:=a_ hB.size;clear hI;have E:=a_ hB.size;have HB:=a_ hB;clear hB;unfold CZ.f at h;have H:=h;clear h;replace H:=BU H;obtain⟨⟨t111,t112⟩,m,H⟩:=H;try dsimp only at H
 have B:=a_ m;clear m;by_cases c4:0≤t111
 ·rw[if_pos c4]at H;have u:decide (0≤t111)=true:=BJ c4;clear c4;by_cases c5:t111<(l1.length:Int)
  ·rw[if_pos c5]at H;have v:decide (t111<(l1.length:Int))=true:=BJ c5;clear c5;simp only[Option.some.injEq,Prod.mk.injEq]at H;obtain⟨rfl,rfl⟩:=H;go_enter Tryd.func53,Tryd.ntmps53;go_wp2_with(first|((with_reducible refine BN (f:=16) rfl ?_);refine BR 9 Tryd.func16 #[.pointer (some ⟨g,0,none⟩),.int .i64 (l1.length:Int)] ?_;(with_reducible refine(Ac.calls k g b i (l1.length:Int) t111 t112 w0 _ ?q' ?z' B.o).mono ?_);(case q'=>exact Al);(case z'=>exact Ad);rintro e I ⟨rfl,hi,x,y⟩;refine⟨_,rfl,?_⟩;replace HK:=a_ (Ai.trans (EP) y (.inl rfl));replace HB:=a_ (x);replace HI0:=a_ (hi);(try clear x y hi);have c:0≤(t111:Int):=Bu;have d:t111<(l1.length:Int):=Bu;obtain⟨j,n,a⟩:=Kd.LD r.o t111 c d;cases n;replace a:=LS HK.o a (by first|(rw[Fo];exact l _ rfl (by omega))|exact l _ rfl (by omega)|exact l j rfl (by omega));replace c:=eq_true c;replace d:=eq_true d));go_ret;exact⟨C_,Al,Ad,EP⟩
  rw[if_neg c5]at H;exact absurd H (by simp)
 rw[if_neg c4]at H;exact absurd H (by simp)
def BH.l0:Nat->ByteArray->Int->List Int->Int->Option (ByteArray×Int)
 | 0,_,_,_,_=>none
 | k+1,g,i,a,e=>if i>0 then((CZ.f k a e (([(⟨#[97]⟩:ByteArray),(⟨#[98]⟩:ByteArray),(⟨#[99]⟩:ByteArray),(⟨#[100]⟩:ByteArray)]:List ByteArray))).bind λb=>(if g.size+b.1.size≤9223372036854775807 then(BH.l0 k (g++b.1) (wrap64 (i-1)) a b.2)else(none)))else((Ac.f k a e 40).bind λc=>(if c.1=0 then((CZ.f k a c.2 (([(⟨#[101]⟩:ByteArray),(⟨#[32]⟩:ByteArray),(⟨#[97,97,97,97]⟩:ByteArray),(⟨#[39]⟩:ByteArray)]:List ByteArray))).bind λd=>(if g.size+d.1.size≤9223372036854775807 then(some (g++d.1,d.2))else(none)))else(some (g,c.2))))
def BH.f(k:Nat)(b:List Int)(c:Int):Option (ByteArray×Int):=(Ac.f k b c 4).bind λa=>(BH.l0 k (⟨#[]⟩:ByteArray) a.1 b a.2)
theorem BH.calls(k:Nat)(g:Nat)(b:List Int)(B:Int)(Z:ByteArray)(r2:Int)(w0 w:World)(hI:Af w0 w g b B)(hB:Below w0.heap.size w0 w)(h:BH.f k b B=some (Z,r2)) :
  Calls Tryd.prog 42 #[.pointer (some ⟨g,0,none⟩)] w λe w'=>e=.returned (.string Z)∧Af w0 w' g b r2∧Below w0.heap.size w0 w'∧Ai w w' g none:=by
 have HI0:=a_ hI;have HK:=a_ (Ai.refl w g none);have HL:=a_ hB.size;clear hI;have aq:=a_ hB.size;have HB:=a_ hB;clear hB;unfold BH.f at h;have H:=h;clear h;replace H:=BU H;obtain⟨⟨t114,t115⟩,O,H⟩:=H;try dsimp only at H
 have A2:=a_ O;clear O;have H':=a_ H;clear H;go_enter Tryd.func42,Tryd.ntmps42;go_wp2_with(first|((with_reducible refine BN (f:=16) rfl ?_);refine BR 6 Tryd.func16 #[.pointer (some ⟨g,0,none⟩),.int .i64 4] ?_;(with_reducible refine(Ac.calls k g b B 4 t114 t115 w0 _ ?q' ?z' A2.o).mono ?_);(case q'=>exact Al);(case z'=>exact Ad);rintro e w3 ⟨rfl,hi,l,o⟩;refine⟨_,rfl,?_⟩;replace HK:=a_ (Ai.trans (EP) o (.inl rfl));replace HB:=a_ (l);replace HI0:=a_ (hi);(try clear l o hi)));go_loopg [3,4] k (λkq v3 v4 w'=>∃(c:ByteArray) (j:Int) (a:Int),v3=.string c∧v4=.int .i64 j∧Ae (BH.l0 kq c j b a=some (Z,r2))∧Ae (kq≤k)∧Ae (Af w0 w' g b a)∧Ae (Ai w w' g none)∧Ae (Below w0.heap.size w0 w'))
 case atStart=>exact⟨((⟨#[]⟩:ByteArray)),(t114),(t115),(Cr),(Cr),H',⟨Nat.le_refl _⟩,⟨Al⟩,⟨EP⟩,⟨Ad⟩⟩
 clear H';try clear c1
 obtain⟨c,j,a,rfl,rfl,HA,U,HI0,HK,HB⟩:=hrel;cases gk with
 | zero=>exact absurd HA.o (by simp[BH.l0])
 | succ J =>
  have H:=HA.o
  clear HA
  simp only[BH.l0]at H
  by_cases c4:j>0
  ·rw[if_pos c4]at H
   have W:decide (0<j)=true:=BJ c4
   clear c4
   obtain⟨D,m⟩:∃y_:List ByteArray,y_=(([(⟨#[97]⟩:ByteArray),(⟨#[98]⟩:ByteArray),(⟨#[99]⟩:ByteArray),(⟨#[100]⟩:ByteArray)]:List ByteArray)):=⟨_,rfl⟩
   replace H:((CZ.f J b a D).bind λr=>(if c.size+r.1.size≤9223372036854775807 then(BH.l0 J (c++r.1) (wrap64 (j-1)) b r.2)else(none)))=some (Z,r2):=by first|(rw[m];with_reducible exact H)|(have q:=(Option.bind_some _ _).symm.trans H;rw[m];with_reducible exact q)|(have q:=(Option.bind_some _ _).symm.trans H;with_reducible exact q)|with_reducible exact H|(rw[m];exact H)|exact H
   have x:=a_ m
   clear m
   replace H:=BU H
   obtain⟨⟨t119,t120⟩,P,H⟩:=H
   try dsimp only at H
   have A5:=a_ P
   clear P
   by_cases c6:c.size+t119.size≤9223372036854775807
   ·rw[if_pos c6]at H
    have aj:=eq_true c6
    have ak:decide (c.size+t119.size≤9223372036854775807)=true:=BJ c6
    try have al:(9223372036854775807<c.size+t119.size)=False:=eq_false (Nat.not_lt.2 c6)
    have H':=a_ H
    clear H
    go_wp2_with(first|((with_reducible refine Cd (N:=13) rfl ?_);refine Kd.DD Kd.string _ 9 ?hg (N:=13) ?hd (xs:=([(⟨#[97]⟩:ByteArray),(⟨#[98]⟩:ByteArray),(⟨#[99]⟩:ByteArray),(⟨#[100]⟩:ByteArray)]:List ByteArray)) (inner:=[.string (⟨#[97]⟩:ByteArray),.string (⟨#[98]⟩:ByteArray),.string (⟨#[99]⟩:ByteArray),.string (⟨#[100]⟩:ByteArray)]) (ok:=λ_=>True) (okp:=λ_=>True) ?hr ?hp (λ_ o=>o) trivial (Below.refl _ _) (Nat.le_refl _) (by simp) ?_;(case hd=>rfl);(case hg=>rfl);(case hr=>first|(go_simp;done)|(go_simp;rfl));(case hp=>exact(Bi.one (show Kd.M Kd.string _ _ _ (⟨#[97]⟩:ByteArray) [.string (⟨#[97]⟩:ByteArray)]from rfl) (Bi.one (show Kd.M Kd.string _ _ _ (⟨#[98]⟩:ByteArray) [.string (⟨#[98]⟩:ByteArray)]from rfl) (Bi.one (show Kd.M Kd.string _ _ _ (⟨#[99]⟩:ByteArray) [.string (⟨#[99]⟩:ByteArray)]from rfl) (Bi.one (show Kd.M Kd.string _ _ _ (⟨#[100]⟩:ByteArray) [.string (⟨#[100]⟩:ByteArray)]from rfl) (Bi.none _ _))))));intro an w7 A l Du v;clear Du v;(first|rw[<-x.o]at A|(simp only[Int.reduceToNat]at A;rw[<-x.o]at A));have d:=a_ (Kd.AN A (Cf (w:=w) (g:=g) (row:=none) (EP)));replace HK:=a_ (Ai.trans (EP) (Ai.C4 l g none) (.inl rfl));replace HB:=a_ (BA (Ad) l);replace HI0:=a_ (Af.below (Al) l);clear l A;obtain⟨ab,ah,ai⟩:=Kd.Bg d.o;subst ai)|((with_reducible refine BN (f:=53) rfl ?_);refine BR 14 Tryd.func53 #[.pointer (some ⟨g,0,none⟩),.slice ab D.length ah] ?_;(with_reducible refine(CZ.calls J g b a _ _ D t119 t120 w0 _ ?q' ?z' ?y' ?v' ?m' A5.o).mono ?_);(case q'=>exact Al);(case z'=>exact Ad);(case y'=>exact Ft (Kd.AD d.o).2.2);(case v'=>exact(Kd.AD d.o).2.1);(case m'=>exact I3 (Af.FX HI0.o d.o (by decide)));rintro e ar ⟨rfl,hi,l,o⟩;refine⟨_,rfl,?_⟩;replace d:=a_ (Kd.Aj (Kd.Bq (Af.apart (show Af w0 _ g b a from Al) (BC d.o) (by decide)) o (λ_ h=>h.2)) (λ_ h=>h.1));replace HK:=a_ (Ai.trans (EP) o (.inl rfl));replace HB:=a_ (l);replace HI0:=a_ (hi);(try clear l o hi)))
    go_roundg J
    case measure=>have:=U.o;omega
    case rel=>exact⟨(c++t119),(wrap64 (j-1)),(t120),(Cr),(Cr),H',⟨by have:=U.o;omega⟩,⟨Al⟩,⟨EP⟩,⟨Ad⟩⟩
   ·rw[if_neg c6]at H
    exact absurd H (by simp)
  ·rw[if_neg c4]at H
   have W:decide (0<j)=false:=C1 c4
   clear c4
   replace H:=BU H
   obtain⟨⟨t121,t122⟩,G,H⟩:=H
   try dsimp only at H
   have M:=a_ G
   clear G
   by_cases u:t121=0
   ·rw[if_pos u]at H
    have K:(t121==0)=true:=beq_iff_eq.mpr u
    have L:(t121 != 0)=false:=Ff u
    clear u
    obtain⟨E,n⟩:∃y_:List ByteArray,y_=(([(⟨#[101]⟩:ByteArray),(⟨#[32]⟩:ByteArray),(⟨#[97,97,97,97]⟩:ByteArray),(⟨#[39]⟩:ByteArray)]:List ByteArray)):=⟨_,rfl⟩
    replace H:((CZ.f J b t122 E).bind λt=>(if c.size+t.1.size≤9223372036854775807 then(some (c++t.1,t.2))else(none)))=some (Z,r2):=by first|(rw[n];with_reducible exact H)|(have q:=(Option.bind_some _ _).symm.trans H;rw[n];with_reducible exact q)|(have q:=(Option.bind_some _ _).symm.trans H;with_reducible exact q)|with_reducible exact H|(rw[n];exact H)|exact H
    have y:=a_ n
    clear n
    replace H:=BU H
    obtain⟨⟨t126,t127⟩,I,H⟩:=H
    try dsimp only at H
    have aa:=a_ I
    clear I
    by_cases z:c.size+t126.size≤9223372036854775807
    ·rw[if_pos z]at H
     have ae:=eq_true z
     have af:decide (c.size+t126.size≤9223372036854775807)=true:=BJ z
     try have ag:(9223372036854775807<c.size+t126.size)=False:=eq_false (Nat.not_lt.2 z)
     simp only[Option.some.injEq,Prod.mk.injEq]at H
     obtain⟨rfl,rfl⟩:=H
     go_wp2_with(first|((with_reducible refine BN (f:=16) rfl ?_);refine BR 17 Tryd.func16 #[.pointer (some ⟨g,0,none⟩),.int .i64 40] ?_;(with_reducible refine(Ac.calls J g b a 40 t121 t122 w0 _ ?q' ?z' M.o).mono ?_);(case q'=>exact Al);(case z'=>exact Ad);rintro e au ⟨rfl,hi,l,o⟩;refine⟨_,rfl,?_⟩;replace HK:=a_ (Ai.trans (EP) o (.inl rfl));replace HB:=a_ (l);replace HI0:=a_ (hi);(try clear l o hi))|((with_reducible refine Cd (N:=21) rfl ?_);refine Kd.DD Kd.string _ 9 ?hg (N:=21) ?hd (xs:=([(⟨#[101]⟩:ByteArray),(⟨#[32]⟩:ByteArray),(⟨#[97,97,97,97]⟩:ByteArray),(⟨#[39]⟩:ByteArray)]:List ByteArray)) (inner:=[.string (⟨#[101]⟩:ByteArray),.string (⟨#[32]⟩:ByteArray),.string (⟨#[97,97,97,97]⟩:ByteArray),.string (⟨#[39]⟩:ByteArray)]) (ok:=λ_=>True) (okp:=λ_=>True) ?hr ?hp (λ_ o=>o) trivial (Below.refl _ _) (Nat.le_refl _) (by simp) ?_;(case hd=>rfl);(case hg=>rfl);(case hr=>first|(go_simp;done)|(go_simp;rfl));(case hp=>exact(Bi.one (show Kd.M Kd.string _ _ _ (⟨#[101]⟩:ByteArray) [.string (⟨#[101]⟩:ByteArray)]from rfl) (Bi.one (show Kd.M Kd.string _ _ _ (⟨#[32]⟩:ByteArray) [.string (⟨#[32]⟩:ByteArray)]from rfl) (Bi.one (show Kd.M Kd.string _ _ _ (⟨#[97,97,97,97]⟩:ByteArray) [.string (⟨#[97,97,97,97]⟩:ByteArray)]from rfl) (Bi.one (show Kd.M Kd.string _ _ _ (⟨#[39]⟩:ByteArray) [.string (⟨#[39]⟩:ByteArray)]from rfl) (Bi.none _ _))))));intro ao av p l Du v;clear Du v;(first|rw[<-y.o]at p|(simp only[Int.reduceToNat]at p;rw[<-y.o]at p));have i:=a_ (Kd.AN p (Cf (w:=w) (g:=g) (row:=none) (EP)));replace HK:=a_ (Ai.trans (EP) (Ai.C4 l g none) (.inl rfl));replace HB:=a_ (BA (Ad) l);replace HI0:=a_ (Af.below (Al) l);clear l p;obtain⟨T,X,Y⟩:=Kd.Bg i.o;subst Y)|((with_reducible refine BN (f:=53) rfl ?_);refine BR 22 Tryd.func53 #[.pointer (some ⟨g,0,none⟩),.slice T E.length X] ?_;(with_reducible refine(CZ.calls J g b t122 _ _ E t126 t127 w0 _ ?q' ?z' ?y' ?v' ?m' aa.o).mono ?_);(case q'=>exact Al);(case z'=>exact Ad);(case y'=>exact Ft (Kd.AD i.o).2.2);(case v'=>exact(Kd.AD i.o).2.1);(case m'=>exact I3 (Af.FX HI0.o i.o (by decide)));rintro e aw ⟨rfl,hi,l,o⟩;refine⟨_,rfl,?_⟩;replace i:=a_ (Kd.Aj (Kd.Bq (Af.apart (show Af w0 _ g b t122 from Al) (BC i.o) (by decide)) o (λ_ h=>h.2)) (λ_ h=>h.1));replace HK:=a_ (Ai.trans (EP) o (.inl rfl));replace HB:=a_ (l);replace HI0:=a_ (hi);(try clear l o hi)))
     go_ret
     exact⟨C_,Al,Ad,EP⟩
    ·rw[if_neg z]at H
     exact absurd H (by simp)
   ·rw[if_neg u]at H
    have K:(t121==0)=false:=Dq u
    have L:(t121 != 0)=true:=bne_iff_ne.mpr u
    simp only[Option.some.injEq,Prod.mk.injEq]at H
    obtain⟨rfl,rfl⟩:=H
    go_wp2_with(first|((with_reducible refine BN (f:=16) rfl ?_);refine BR 17 Tryd.func16 #[.pointer (some ⟨g,0,none⟩),.int .i64 40] ?_;(with_reducible refine(Ac.calls J g b a 40 t121 t122 w0 _ ?q' ?z' M.o).mono ?_);(case q'=>exact Al);(case z'=>exact Ad);rintro e ax ⟨rfl,hi,l,o⟩;refine⟨_,rfl,?_⟩;replace HK:=a_ (Ai.trans (EP) o (.inl rfl));replace HB:=a_ (l);replace HI0:=a_ (hi);(try clear l o hi)))
    go_ret
    exact⟨C_,Al,Ad,EP⟩
end Go.Proofs.YtlhlpfnljglhoaaDoor.P
namespace Go.Proofs.YtlhlpfnljglhoaaDoor.P
open Go.RowKit Go.Proofs.YtlhlpfnljglhoaaDoorW.PrintWords Go.Proofs.YtlhlpfnljglhoaaDoorW.Bc Go.Proofs.YtlhlpfnljglhoaaDoorW.C6
abbrev Dk:=List AM
abbrev Ef:=List EI
abbrev Dl:=List Dm
def Dt(zs:List Nat)(v3 v4:Value)(k:Nat):Prop:=k∉zs∧some k≠v3.ownBlock∧some k≠v4.ownBlock
structure WM (w0 W:World) (zs:List Nat) (v0 v3 v4:Value) (l0:Dk) (l3:Ef) (l4:Dl):Prop where
 hB:Below w0.heap.size w0 W
 hz:∀k,k∈zs->k<W.heap.size
 h0:Kd.V BT 32 W w0.heap.size (Dt zs v3 v4) v0 l0
 h3:Kd.N GW 26 W w0.heap.size (λk=>k∉zs∧some k≠v4.ownBlock) v3 l3
 h4:Kd.N E2 114 W w0.heap.size (λk=>k∉zs∧some k≠v3.ownBlock) v4 l4
structure Bx where
 g:Nat
 cs:List Value
 t:Nat
structure BX (w W:World) (zs:List Nat) (S:Nat->Prop) (bs:List Bx):Prop where
 at_:∀b∈bs,W.heap[b.g]?=some (.cells b.cs.toArray b.t (0,0))
 nd:(bs.map Bx.g).Nodup
 ge:∀b∈bs,w.heap.size≤b.g
 mem:∀b∈bs,b.g∈zs
 hK:Kept w W S
structure St (w0 w W:World) (zs:List Nat) (S:Nat->Prop) (bs:List Bx) (v0 v3 v4:Value) (l0:Dk) (l3:Ef) (l4:Dl):Prop where
 M:WM w0 W zs v0 v3 v4 l0 l3 l4
 B:BX w W zs S bs
 hw:w0.heap.size≤w.heap.size
section
variable {w0 w W W1:World} {zs zs':List Nat} {S S':Nat->Prop} {bs:List Bx} {v0 v3 v4 u:Value} {l0:Dk} {l3:Ef} {l4:Dl}
theorem WM.step(h:WM w0 W zs v0 v3 v4 l0 l3 l4)(hB:Below w0.heap.size w0 W1)(hs:W.heap.size≤W1.heap.size)(hm:∀k,k∉zs->k<W.heap.size->W1.heap[k]?=W.heap[k]?):WM w0 W1 zs v0 v3 v4 l0 l3 l4 :=
 ⟨hB,λk b=>Nat.lt_of_lt_of_le (h.hz k b) hs,Kd.O7 h.h0 (λk b a=>hm k b.1 a),Kd.Ho h.h3 (λk b a=>hm k b.1 a),Kd.Ho h.h4 (λk b a=>hm k b.1 a)⟩
theorem WM.below(h:WM w0 W zs v0 v3 v4 l0 l3 l4)(a:Below W.heap.size W W1):WM w0 W1 zs v0 v3 v4 l0 l3 l4 :=
 h.step (BA h.hB a) a.size (λk _ b=>a.block k b)
theorem WM.mono(h:WM w0 W zs v0 v3 v4 l0 l3 l4)(hz:∀k,k∈zs'->k∈zs):WM w0 W zs' v0 v3 v4 l0 l3 l4 :=
 ⟨h.hB,λk a=>h.hz k (hz k a),Kd.AH h.h0 (λk a=>⟨λe=>a.1 (hz k e),a.2⟩),Kd.F7 h.h3 (λk a=>⟨λe=>a.1 (hz k e),a.2⟩),Kd.F7 h.h4 (λk a=>⟨λe=>a.1 (hz k e),a.2⟩)⟩
theorem not_cons{k g:Nat}(h:k∉zs)(hg:k≠g):k∉g::zs:=λe=>(List.mem_cons.1 e).elim hg h
theorem WM.new(h:WM w0 W zs v0 v3 v4 l0 l3 l4){g:Nat}(hg:g=W.heap.size)(b:Below W.heap.size W W1)(c:g<W1.heap.size):WM w0 W1 (g::zs) v0 v3 v4 l0 l3 l4 :=
  ⟨BA h.hB b,λk a=>(List.mem_cons.1 a).elim (λe=>e ▸ c) (λa=>Nat.lt_of_lt_of_le (h.hz k a) b.size),
   Kd.AH (Kd.BE (Kd.Fz h.h0) b) (λk a=>⟨not_cons a.1.1 (by have:=a.2;omega),a.1.2⟩),Kd.F7 (Kd.Jl (Kd.GY h.h3) b) (λk a=>⟨not_cons a.1.1 (by have:=a.2;omega),a.1.2⟩),Kd.F7 (Kd.Jl (Kd.GY h.h4) b) (λk a=>⟨not_cons a.1.1 (by have:=a.2;omega),a.1.2⟩)⟩
theorem WM.set(h:WM w0 W zs v0 v3 v4 l0 l3 l4){g:Nat}(hg:g∈zs)(hB:w0.heap.size≤g)(j:Nat)(x:Value):WM w0 (W.setCell ⟨g,j,none⟩ x) zs v0 v3 v4 l0 l3 l4 :=
 h.step (EK h.hB hB) (by simp[World.setCell]) (λk a _=>Below.heap_setCell W ⟨g,j,none⟩ x k (λe=>a (e ▸ hg)))
theorem WM.J8(h:WM w0 W zs v0 v3 v4 l0 l3 l4){g:Nat}(hg:g∈zs)(hB:Below w0.heap.size w0 W1)(b:Ai W W1 g none):WM w0 W1 zs v0 v3 v4 l0 l3 l4 :=
 h.step hB b.1 (λk c a=>b.2 k a (λe=>c (e ▸ hg)) (by simp))
theorem WM.Hc(h:WM w0 W zs v0 v3 v4 l0 l3 l4){k:Nat}(a:v3.ownBlock=some k):k∉zs∧some k≠v4.ownBlock:=h.h3.1 k a
theorem WM.Iv(h:WM w0 W zs v0 v3 v4 l0 l3 l4){k:Nat}(a:v4.ownBlock=some k):k∉zs∧some k≠v3.ownBlock:=h.h4.1 k a
theorem BX.cell(h:BX w W zs S bs)(i j:Nat){b:Bx}{x:Value}(a:bs[i]?=some b)(c:b.cs[j]?=some x):W.cell? ⟨b.g,j,none⟩=some x:=by rw[AO (h.at_ b (List.mem_of_getElem? a)) j];simpa using c
theorem BX.fr(h:BX w W zs S bs)(i j:Nat){b:Bx}(a:bs[i]?=some b):W.frozen? ⟨b.g,j,none⟩=false:=DT (h.at_ b (List.mem_of_getElem? a)) j
theorem BX.EJ(h:BX w W zs S bs)(i:Nat){g t:Nat}{cs:List Value}(a:bs[i]?=some ⟨g,cs,t⟩):W.heap[g]?=some (.cells cs.toArray t (0,0)):=h.at_ _ (List.mem_of_getElem? a)
theorem BX.start(w:World)(zs:List Nat)(S:Nat->Prop):BX w w zs S []:=⟨λ_ hm=>(List.not_mem_nil hm).elim,List.nodup_nil,λ_ hm=>(List.not_mem_nil hm).elim,λ_ hm=>(List.not_mem_nil hm).elim,Kept.refl _ _⟩
theorem BX.below(h:BX w W zs S bs)(a:Below W.heap.size W W1):BX w W1 zs S bs:=⟨λb hm=>Az (h.at_ b hm) a,h.nd,h.ge,h.mem,h.hK.below a⟩
theorem BX.lt(h:BX w W zs S bs){b:Bx}(a:b∈bs):b.g<W.heap.size:=AU (h.at_ b a)
theorem BX.new(h:BX w W zs S bs){g:Nat}{cs:List Value}{t:Nat}(hg:g=W.heap.size)(d:Below W.heap.size W W1)(a:W1.heap[g]?=some (.cells cs.toArray t (0,0))):BX w W1 (g::zs) S (⟨g,cs,t⟩::bs):=by
 refine⟨λb hm=>?_,?_,λb hm=>?_,λb hm=>?_,h.hK.below d⟩
 ·rcases List.mem_cons.1 hm with rfl|hm
  ·exact a
  exact Az (h.at_ b hm) d
 ·rw[List.map_cons,List.nodup_cons];refine⟨λhm=>?_,h.nd⟩;obtain⟨b,c,he⟩:=List.mem_map.1 hm;have:=h.lt c;rw[he]at this;exact Nat.lt_irrefl _ (hg ▸ this)
 ·rcases List.mem_cons.1 hm with rfl|hm
  ·show w.heap.size≤g;have:=h.hK.1;omega
  exact h.ge b hm
 rcases List.mem_cons.1 hm with rfl|hm
 ·exact List.mem_cons_self
 exact List.mem_cons_of_mem _ (h.mem b hm)
theorem BX.ne(h:BX w W zs S bs){i i':Nat}{b b':Bx}(g:bs[i]?=some b)(a:bs[i']?=some b')(hi:i≠i'):b.g≠b'.g:=by intro he;have nd:=h.nd;obtain⟨h1,c⟩:=List.getElem?_eq_some_iff.1 g;obtain⟨e,d⟩:=List.getElem?_eq_some_iff.1 a;exact hi ((List.getElem_inj (h₀:=by simpa using h1) (h₁:=by simpa using e) nd).1 (by simp[c,d,he]))
theorem BX.set(h:BX w W zs S bs)(i j:Nat){b:Bx}(x:Value)(k:bs[i]?=some b):BX w (W.setCell ⟨b.g,j,none⟩ x) zs S (bs.set i ⟨b.g,b.cs.set j x,b.t⟩):=by
 have hl:i<bs.length:=(List.getElem?_eq_some_iff.1 k).1
 have l:(bs.set i ⟨b.g,b.cs.set j x,b.t⟩).map Bx.g=bs.map Bx.g:=by
  rw[List.map_set];refine List.ext_getElem? λq=>?_
  rw[List.getElem?_set];split
  ·rename_i e;subst e;rw[if_pos (by simpa using hl),List.getElem?_map,k];rfl
  rfl
 have n:∀c∈bs.set i ⟨b.g,b.cs.set j x,b.t⟩,c.g∈bs.map Bx.g:=λc a=>by rw[<-l];exact List.mem_map_of_mem a
 refine⟨λc a=>?_,by rw[l];exact h.nd,λc a=>?_,λc a=>?_,h.hK.setCell (p:=⟨b.g,j,none⟩) (.inr (h.ge b (List.mem_of_getElem? k))) x⟩
 ·obtain⟨q,g⟩:=List.getElem?_of_mem a;rw[List.getElem?_set]at g;split at g
  ·rename_i e;injection g with g;subst g;have:=E8 (h.at_ b (List.mem_of_getElem? k)) j x;simpa using this
  rename_i e;exact Fm (h.at_ c (List.mem_of_getElem? g)) (p:=⟨b.g,j,none⟩) (h.ne g k (λe'=>e e'.symm)) x
 ·obtain⟨m,d,e⟩:=List.mem_map.1 (n c a);rw[<-e];exact h.ge m d
 obtain⟨m,d,e⟩:=List.mem_map.1 (n c a);rw[<-e];exact h.mem m d
theorem BX.kept{S2:Nat->Prop}(h:BX w W zs S bs)(c:Kept W W1 S2)(d:∀k,S2 k->S k∨w.heap.size≤k)(hz:∀k,S2 k->k∉zs):BX w W1 zs S bs :=
 ⟨λb a=>J1 (h.at_ b a) c (λe=>hz _ e (h.mem b a)),h.nd,h.ge,h.mem,h.hK.Km c d⟩
theorem BX.J8{g:Nat}(h:BX w W zs S bs)(c:Ai W W1 g none)(hg:g<w.heap.size)(d:S g):BX w W1 zs S bs :=
 ⟨λb a=>(c.2 _ (AU (h.at_ b a)) (λe=>by have:=h.ge b a;omega) (by simp)).trans (h.at_ b a),h.nd,h.ge,h.mem,h.hK.NV c (.inl d)⟩
theorem St.start(h:WM w0 w zs v0 v3 v4 l0 l3 l4)(S:Nat->Prop):St w0 w w zs S [] v0 v3 v4 l0 l3 l4:=⟨h,BX.start _ _ _,h.hB.size⟩
theorem St.box(h:St w0 w W zs S bs v0 v3 v4 l0 l3 l4){g:Nat}{cs:List Value}{t:Nat}(hg:g=W.heap.size)(b:Below W.heap.size W W1)(a:W1.heap[g]?=some (.cells cs.toArray t (0,0))):St w0 w W1 (g::zs) S (⟨g,cs,t⟩::bs) v0 v3 v4 l0 l3 l4 :=
 ⟨h.M.new hg b (AU a),h.B.new hg b a,h.hw⟩
theorem St.set(h:St w0 w W zs S bs v0 v3 v4 l0 l3 l4)(i j:Nat){b:Bx}(x:Value)(a:bs[i]?=some b):St w0 w (W.setCell ⟨b.g,j,none⟩ x) zs S (bs.set i ⟨b.g,b.cs.set j x,b.t⟩) v0 v3 v4 l0 l3 l4 :=
 ⟨h.M.set (h.B.mem b (List.mem_of_getElem? a)) (Nat.le_trans h.hw (h.B.ge b (List.mem_of_getElem? a))) j x,h.B.set i j x a,h.hw⟩
theorem St.below(h:St w0 w W zs S bs v0 v3 v4 l0 l3 l4)(a:Below W.heap.size W W1):St w0 w W1 zs S bs v0 v3 v4 l0 l3 l4:=⟨h.M.below a,h.B.below a,h.hw⟩
theorem St.J8{g:Nat}(h:St w0 w W zs S bs v0 v3 v4 l0 l3 l4)(hB:Below w0.heap.size w0 W1)(a:Ai W W1 g none)(hz:g∈zs)(hg:g<w.heap.size)(b:S g):St w0 w W1 zs S bs v0 v3 v4 l0 l3 l4:=⟨h.M.J8 hz hB a,h.B.J8 a hg b,h.hw⟩
theorem St.app{base:Nat}{v1:Value}{g:Dl}(h:St w0 w W zs S bs v0 v3 v4 l0 l3 l4)(l:Kd.N E2 114 W1 base (λk=>k∉zs∧some k≠v3.ownBlock) v1 g)(c:base=w0.heap.size)(hB:Below w0.heap.size w0 W1)(hg:W.grownBy W1 v4.ownBlock)(d:v1.ownBlock=v4.ownBlock∨∃b,v1.ownBlock=some b∧W.heap.size≤b)(j:∀k,some k=v4.ownBlock->S k∨w.heap.size≤k):St w0 w W1 zs S bs v0 v3 v1 l0 l3 g:=by
 subst c;refine⟨⟨hB,λk a=>Nat.lt_of_lt_of_le (h.M.hz k a) hg.size,?_,?_,l⟩,⟨λb i=>AJ (h.B.at_ b i) hg (λe=>(h.M.Iv e.symm).1 (h.B.mem b i)),h.B.nd,h.B.ge,h.B.mem,h.B.hK.Dy hg (λk a=>j k a.symm)⟩,h.hw⟩
 ·exact Kd.AH (Kd.K5 (Kd.AH h.M.h0 (λk a=>(⟨⟨a.1,a.2.1⟩,a.2.2⟩:(k∉zs∧some k≠v3.ownBlock)∧some k≠v4.ownBlock))) hg d) (λk a=>⟨a.1.1,a.1.2,a.2⟩)
 exact Kd.Nw h.M.h3 hg d
theorem WM.fresh(h:WM w0 W zs v0 v3 v4 l0 l3 l4):∀k,W.heap.size≤k->k∉zs∧some k≠v3.ownBlock:=λk a=>⟨λe=>by have:=h.hz k e;omega,λe=>by have:=Kd.JS h.h3 k e.symm;omega⟩
theorem BX.c3(h:BX w W zs S bs)(i:Nat){g t:Nat}{a b c:Value}(d:bs[i]?=some ⟨g,[a,b,c],t⟩):W.cell? ⟨g,0,none⟩=some a∧W.cell? ⟨g,1,none⟩=some b∧W.cell? ⟨g,2,none⟩=some c∧∀j,W.frozen? ⟨g,j,none⟩=false :=
 ⟨h.cell i 0 d rfl,h.cell i 1 d rfl,h.cell i 2 d rfl,λj=>h.fr i j d⟩
theorem BX.c5(h:BX w W zs S bs)(i:Nat){g t:Nat}{a b c d e:Value}(k:bs[i]?=some ⟨g,[a,b,c,d,e],t⟩):W.cell? ⟨g,0,none⟩=some a∧W.cell? ⟨g,1,none⟩=some b∧W.cell? ⟨g,2,none⟩=some c∧W.cell? ⟨g,3,none⟩=some d∧W.cell? ⟨g,4,none⟩=some e∧∀j,W.frozen? ⟨g,j,none⟩=false :=
 ⟨h.cell i 0 k rfl,h.cell i 1 k rfl,h.cell i 2 k rfl,h.cell i 3 k rfl,h.cell i 4 k rfl,λj=>h.fr i j k⟩
theorem BX.c6(h:BX w W zs S bs)(i:Nat){g t:Nat}{a b c d e f:Value}(k:bs[i]?=some ⟨g,[a,b,c,d,e,f],t⟩):W.cell? ⟨g,0,none⟩=some a∧W.cell? ⟨g,1,none⟩=some b∧W.cell? ⟨g,2,none⟩=some c∧W.cell? ⟨g,3,none⟩=some d∧W.cell? ⟨g,4,none⟩=some e∧W.cell? ⟨g,5,none⟩=some f∧∀j,W.frozen? ⟨g,j,none⟩=false :=
 ⟨h.cell i 0 k rfl,h.cell i 1 k rfl,h.cell i 2 k rfl,h.cell i 3 k rfl,h.cell i 4 k rfl,h.cell i 5 k rfl,λj=>h.fr i j k⟩
theorem BX.c8(h:BX w W zs S bs)(i:Nat){g t:Nat}{a b c d e f x y:Value}(k:bs[i]?=some ⟨g,[a,b,c,d,e,f,x,y],t⟩):W.cell? ⟨g,0,none⟩=some a∧W.cell? ⟨g,1,none⟩=some b∧W.cell? ⟨g,2,none⟩=some c∧W.cell? ⟨g,3,none⟩=some d∧W.cell? ⟨g,4,none⟩=some e∧W.cell? ⟨g,5,none⟩=some f∧W.cell? ⟨g,6,none⟩=some x∧W.cell? ⟨g,7,none⟩=some y∧∀j,W.frozen? ⟨g,j,none⟩=false :=
 ⟨h.cell i 0 k rfl,h.cell i 1 k rfl,h.cell i 2 k rfl,h.cell i 3 k rfl,h.cell i 4 k rfl,h.cell i 5 k rfl,h.cell i 6 k rfl,h.cell i 7 k rfl,λj=>h.fr i j k⟩
theorem St.put(h:St w0 w W zs S bs v0 v3 v4 l0 l3 l4)(i j:Nat){g t:Nat}{cs:List Value}(x:Value)(a:bs[i]?=some ⟨g,cs,t⟩):St w0 w (W.setCell ⟨g,j,none⟩ x) zs S (bs.set i ⟨g,cs.set j x,t⟩) v0 v3 v4 l0 l3 l4:=h.set i j x a
theorem St.DL(h:St w0 w W zs S bs v0 v3 v4 l0 l3 l4)(i:Nat){g t:Nat}{a b c d e a' b' j d' e':Value}(m:bs[i]?=some ⟨g,[a,b,c,d,e],t⟩):St w0 w (((((W.setCell ⟨g,0,none⟩ a').setCell ⟨g,1,none⟩ b').setCell ⟨g,2,none⟩ j).setCell ⟨g,3,none⟩ d').setCell ⟨g,4,none⟩ e') zs S (bs.set i ⟨g,[a',b',j,d',e'],t⟩) v0 v3 v4 l0 l3 l4:=by have hl:i<bs.length:=(List.getElem?_eq_some_iff.1 m).1;have h1:=h.set i 0 a' m;have k:=h1.set i 1 b' (b:=⟨g,[a',b,c,d,e],t⟩) (by rw[List.getElem?_set_self hl];rfl);rw[List.set_set]at k;have h3:=k.set i 2 j (b:=⟨g,[a',b',c,d,e],t⟩) (by rw[List.getElem?_set_self hl];rfl);rw[List.set_set]at h3;have h4:=h3.set i 3 d' (b:=⟨g,[a',b',j,d,e],t⟩) (by rw[List.getElem?_set_self hl];rfl);rw[List.set_set]at h4;have l:=h4.set i 4 e' (b:=⟨g,[a',b',j,d',e],t⟩) (by rw[List.getElem?_set_self hl];rfl);rw[List.set_set]at l;exact l
structure Out (w0 w W:World) (zs:List Nat) (v3 v4 Gd:Value):Prop where
 hK:Kept w W (λk=>some k=v3.ownBlock∨some k=v4.ownBlock)
 o4:Gd.ownBlock=v4.ownBlock∨∃b,Gd.ownBlock=some b∧w.heap.size≤b
end
end Go.Proofs.YtlhlpfnljglhoaaDoor.P
namespace Go.Proofs.YtlhlpfnljglhoaaDoor.P
open Go.RowKit Go.Proofs.YtlhlpfnljglhoaaDoorW.PrintWords Go.Proofs.YtlhlpfnljglhoaaDoorW.Bc Go.Proofs.YtlhlpfnljglhoaaDoorW.C6
def BI.f(l4:Dl)(m:Dm):Dl:=if(l4.length:Int)<12 then l4++[m]else l4
theorem BI.calls(zs:List Nat)(v0 v3 v4 vl:Value)(l0:Dk)(s:Int)(u:Bool)(l3:Ef)(l4:Dl)(t fr:Int)(r:Dk)(w0 w:World)(h:WM w0 w zs v0 v3 v4 l0 l3 l4)(hl:Kd.V BT 32 w w0.heap.size (Dt zs v3 v4) vl r) :
  Calls Tryd.prog 72 #[.agg #[v0,.int .i64 s,.bool u,v3,v4],.agg #[.int .i64 t,.int .i64 fr,vl]] w λe w'=>∃Gd,e=.returned (.agg #[v0,.int .i64 s,.bool u,v3,Gd])∧WM w0 w' zs v0 v3 Gd l0 l3 (BI.f l4 ⟨t,fr,r⟩)∧Out w0 w w' zs v3 v4 Gd:=by
 have aa:=Tryd.underlying64;have P:=Tryd.underlying114;obtain⟨v,z,rfl⟩:=Kd.Ca h.h0;obtain⟨l,c3,rfl⟩:=Kd.CM h.h3;obtain⟨m,c4,rfl⟩:=Kd.CM h.h4;obtain⟨B,E,rfl⟩:=Kd.Ca hl;have M:=a_ (St.start h (λk=>some k=(Value.slice l l3.length c3).ownBlock∨some k=(Value.slice m l4.length c4).ownBlock));have p:=a_ hl;clear h hl;unfold BI.f;by_cases c:(l4.length:Int)<12
 ·obtain⟨K,O⟩:∃x:Dl,x=l4++[(⟨t,fr,r⟩:Dm)]:=⟨_,rfl⟩
  rw[if_pos c,<-O];have HQ:=a_ O;clear O;have cb:decide ((l4.length:Int)<12)=true:=BJ c;have CC:=a_ c;clear c;go_enter Tryd.func72,Tryd.ntmps72
  go_wp2_with(first
   | ((with_reducible refine Cd (N:=2) rfl ?_);refine CE 2 (#[.slice v l0.length z,.int .i64 s,.bool u,.slice l l3.length c3,.slice m l4.length c4]) 64 ?_;intro o hg w1 a d;have D:=M.o.box (cs:=[.slice v l0.length z,.int .i64 s,.bool u,.slice l l3.length c3,.slice m l4.length c4]) hg d a;have j:=a_ (Kd.AH (Kd.BE (Kd.Fz p.o) d) (Fc:=Dt (o::zs) (.slice l l3.length c3) (.slice m l4.length c4)) (λk g=>⟨not_cons g.1.1 (by have:=g.2;omega),g.1.2⟩));clear M p a d hg;have M:=a_ D;have p:=j;clear D j)
   | ((with_reducible refine Cd (N:=3) rfl ?_);refine CE 3 (#[.int .i64 t,.int .i64 fr,.slice B r.length E]) 114 ?_;intro A hg w2 a d;have D:=M.o.box (cs:=[.int .i64 t,.int .i64 fr,.slice B r.length E]) hg d a;have j:=a_ (Kd.AH (Kd.BE (Kd.Fz p.o) d) (Fc:=Dt (A::o::zs) (.slice l l3.length c3) (.slice m l4.length c4)) (λk g=>⟨not_cons g.1.1 (by have:=g.2;omega),g.1.2⟩));clear M p a d hg;have M:=a_ D;have p:=j;clear D j)
   | ((with_reducible refine Cd (N:=4) rfl ?_);refine CE 4 (#[.slice none 0 0,.int .i64 0,.bool false,.slice none 0 0,.slice none 0 0]) 64 ?_;intro n hg w3 a d;have D:=M.o.box (cs:=[.slice none 0 0,.int .i64 0,.bool false,.slice none 0 0,.slice none 0 0]) hg d a;have j:=a_ (Kd.AH (Kd.BE (Kd.Fz p.o) d) (Fc:=Dt (n::A::o::zs) (.slice l l3.length c3) (.slice m l4.length c4)) (λk g=>⟨not_cons g.1.1 (by have:=g.2;omega),g.1.2⟩));clear M p a d hg;have M:=a_ D;have p:=j;clear D j;obtain⟨U,W,X,Y,Z,y⟩:=M.o.B.c5 2 rfl;obtain⟨x0,x1,x2,-⟩:=M.o.B.c3 1 rfl)
   | ((with_reducible refine Bt (b:=.append) (xs:=#[.tmp 10,.tmp 12]) rfl ?_);at_builtin;refine Kd.Mg E2 (w0:=w0) w0.heap.size rfl (.tmp 10) (.tmp 12) 62 114 (.agg #[(.int .i64 0),(.int .i64 0),(.slice none 0 0)]) 40 rfl Tryd.underlying62 G7 rfl (by decide) (by omega) (.slice m l4.length c4) l4 (⟨t,fr,r⟩:Dm) [.int .i64 t,.int .i64 fr,.slice B r.length E] (λk=>k∉n::A::o::zs∧some k≠(Value.slice l l3.length c3).ownBlock) (Dt (n::A::o::zs) (.slice l l3.length c3) (.slice m l4.length c4)) rfl rfl ?aP (λk g=>⟨⟨g.1,g.2.1⟩,g.2.2⟩) ?aF ?aO ?aB ?aS ?aL ?_;(case aP=>exact MP _ _ _ (Kd.JZ p.o).2.1 (Kd.Qv p.o));(case aF=>exact M.o.M.fresh);(case aO=>exact M.o.M.h4);(case aB=>exact M.o.M.hB);(case aS=>exact M.o.M.hB.size);(case aL=>have:=CC.o;omega);intro v5 w4 J d hg G;rw[<-HQ.o]at J;have OA:=a_ G;have KG:=a_ (show w.heap.size≤w3.heap.size from M.o.B.hK.1);have D:=M.o.app J rfl d hg G (λk g=>.inl (.inr g));obtain⟨I,c5,e5⟩:=Kd.CM J;subst e5;clear M J d hg G U W X Y Z x0 x1 x2 y;have M:=a_ D;clear D;obtain⟨U,W,X,Y,Z,y⟩:=M.o.B.c5 2 rfl;obtain⟨q0,q1,q2,q3,q4,q⟩:=M.o.B.c5 0 rfl;have NE:=a_ (M.o.B.ne (i:=0) (i':=2) rfl rfl (by decide));have T:n≠o:=NE.o;have ab:o≠n:=λe=>T e.symm))
  have D:St w0 w _ (n::A::o::zs) _ [⟨n,[.slice v l0.length z,.int .i64 s,.bool u,.slice l l3.length c3,.slice I K.length c5],64⟩,⟨A,[.int .i64 t,.int .i64 fr,.slice B r.length E],114⟩,⟨o,[.slice v l0.length z,.int .i64 s,.bool u,.slice l l3.length c3,.slice I K.length c5],64⟩] _ _ _ _ _ _:=(M.o.put 2 4 (.slice I K.length c5) rfl).DL 0 rfl;have L:=D.B.EJ 0 rfl;refine bodyPost_ret (results_cell_row rfl _ _ n 64 #[.slice v l0.length z,.int .i64 s,.bool u,.slice l l3.length c3,.slice I K.length c5] (0,0) _ rfl L Tryd.underlying64 rfl (by kernel_rfl)) rfl ?_;exact⟨_,rfl,D.M.mono (λk g=>by simp[g]),D.B.hK,OA.o.imp_right (λ⟨b,h1,h2⟩=>⟨b,h1,Nat.le_trans KG.o h2⟩)⟩
 rw[if_neg c];have cb:decide ((l4.length:Int)<12)=false:=C1 c;clear c;go_enter Tryd.func72,Tryd.ntmps72
 go_wp2_with(first
  | ((with_reducible refine Cd (N:=2) rfl ?_);refine CE 2 (#[.slice v l0.length z,.int .i64 s,.bool u,.slice l l3.length c3,.slice m l4.length c4]) 64 ?_;intro o hg w1 a d;have D:=M.o.box (cs:=[.slice v l0.length z,.int .i64 s,.bool u,.slice l l3.length c3,.slice m l4.length c4]) hg d a;clear M a d hg;have M:=a_ D;clear D)
  | ((with_reducible refine Cd (N:=3) rfl ?_);refine CE 3 (#[.int .i64 t,.int .i64 fr,.slice B r.length E]) 114 ?_;intro A hg w2 a d;have D:=M.o.box (cs:=[.int .i64 t,.int .i64 fr,.slice B r.length E]) hg d a;clear M a d hg;have M:=a_ D;clear D)
  | ((with_reducible refine Cd (N:=4) rfl ?_);refine CE 4 (#[.slice none 0 0,.int .i64 0,.bool false,.slice none 0 0,.slice none 0 0]) 64 ?_;intro n hg w3 a d;have D:=M.o.box (cs:=[.slice none 0 0,.int .i64 0,.bool false,.slice none 0 0,.slice none 0 0]) hg d a;clear M a d hg;have M:=a_ D;clear D;obtain⟨U,W,X,Y,Z,y⟩:=M.o.B.c5 2 rfl;obtain⟨q0,q1,q2,q3,q4,q⟩:=M.o.B.c5 0 rfl))
 have D:St w0 w _ (n::A::o::zs) _ [⟨n,[.slice v l0.length z,.int .i64 s,.bool u,.slice l l3.length c3,.slice m l4.length c4],64⟩,⟨A,[.int .i64 t,.int .i64 fr,.slice B r.length E],114⟩,⟨o,[.slice v l0.length z,.int .i64 s,.bool u,.slice l l3.length c3,.slice m l4.length c4],64⟩] _ _ _ _ _ _:=M.o.DL 0 rfl;have L:=D.B.EJ 0 rfl;refine bodyPost_ret (results_cell_row rfl _ _ n 64 #[.slice v l0.length z,.int .i64 s,.bool u,.slice l l3.length c3,.slice m l4.length c4] (0,0) _ rfl L Tryd.underlying64 rfl (by kernel_rfl)) rfl ?_;exact⟨_,rfl,D.M.mono (λk g=>by simp[g]),D.B.hK,.inl rfl⟩
end Go.Proofs.YtlhlpfnljglhoaaDoor.P
namespace Go.Proofs.YtlhlpfnljglhoaaDoor.P
open Go.RowKit Go.Proofs.YtlhlpfnljglhoaaDoorW.PrintWords Go.Proofs.YtlhlpfnljglhoaaDoorW.Bc
theorem P5(d:Nat)(w:World)(a i:Int)(b j:Int)(c k:Int)(e l:Int)(g m:ByteArray) :
  (Op.equalIn (d+2) 30 (.agg #[.int .i64 a,.int .i64 b,.int .i64 c,.int .i64 e,.string g]) (.agg #[.int .i64 i,.int .i64 j,.int .i64 k,.int .i64 l,.string m])).run Tryd.prog w=.ok (a==i&&(b==j&&(c==k&&(e==l&&(g.toList==m.toList))))) w:=by refine MI Tryd.underlying30 (by kernel_rfl) ?_;refine FP (by rfl) (by go_simp;rfl) (by go_simp;rfl) (by go_simp) ?_;refine FP (by rfl) (by go_simp;rfl) (by go_simp;rfl) (by go_simp) ?_;refine FP (by rfl) (by go_simp;rfl) (by go_simp;rfl) (by go_simp) ?_;refine FP (by rfl) (by go_simp;rfl) (by go_simp;rfl) (by go_simp) ?_;exact J3 (by rfl) (by go_simp;rfl) (by go_simp;rfl) (by go_simp)
theorem MH(d:Nat)(w:World)(a k:Int)(b l:Int)(c m:Int)(e n:Int)(g o:Int)(i p:Int)(j q:ByteArray) :
  (Op.equalIn (d+3) 32 (.agg #[.int .i64 a,.int .i64 b,.int .i64 c,.int .i64 e,.int .i64 g,.int .i64 i,.string j]) (.agg #[.int .i64 k,.int .i64 l,.int .i64 m,.int .i64 n,.int .i64 o,.int .i64 p,.string q])).run Tryd.prog w=.ok (a==k&&(b==l&&((c==m&&(e==n&&(g==o&&(i==p&&(j.toList==q.toList)))))))) w:=by refine MI Tryd.underlying32 (by kernel_rfl) ?_;refine FP (by rfl) (by go_simp;rfl) (by go_simp;rfl) (by go_simp) ?_;refine FP (by rfl) (by go_simp;rfl) (by go_simp;rfl) (by go_simp) ?_;exact J3 (by rfl) (by go_simp) (by go_simp) (P5 (d+0) w _ _ _ _ _ _ _ _ _ _)
mutual
def AY.j1:Nat->List Int->Int->Int->Int->Int->Int->ByteArray->Option (Int×Int×Int×Int×ByteArray×Int)
 | 0,_,_,_,_,_,_,_=>none
 | k+1,i,o,c,d,e,g,b=>(Ac.f k i o 30).bind λa=>(if a.1=0 then((Ac.f k i a.2 5).bind λj=>(some (j.1,d,e,g,b,j.2)))else(if a.1=1 then((Ac.f k i a.2 50).bind λl=>(some (c,l.1,e,g,b,l.2)))else(if a.1=2 then((Ac.f k i a.2 50).bind λm=>(some (c,d,m.1,g,b,m.2)))else(if a.1=3 then((Ac.f k i a.2 50).bind λn=>(some (c,d,e,n.1,b,n.2)))else(some (c,d,e,g,b,a.2))))))
def AY.j0:Nat->Int->Int->Int->Bool->List Int->Int->Int->Int->Int->Int->ByteArray->Option (Int×Int×Int×Int×ByteArray×Int)
 | 0,_,_,_,_,_,_,_,_,_,_,_=>none
 | k+1,m,n,j,l,b,c,e,a,g,i,d=>if l=true then(AY.j1 k b c 1 a m n d)else(if j=2 then(AY.j1 k b c 3 a m n (⟨#[]⟩:ByteArray))else(if j=3 then(AY.j1 k b c 3 a m n (⟨#[]⟩:ByteArray))else(AY.j1 k b c e a g i d)))
end
def AY.f(k:Nat)(b:List Int)(n:Int):Option (Int×Int×Int×Int×ByteArray×Int):=(Cn.f k b n).bind λe=>((BH.f k b e.2).bind λg=>((Cn.f k b g.2).bind λi=>((some (([1,1,i.1,2,3]:List Int):List Int)).bind λl=>((Ac.f k b i.2 5).bind λc=>(if 0≤c.1 then(if c.1<(l.length:Int)then((Cn.f k b c.2).bind λj=>((some (([0,j.1]:List Int):List Int)).bind λm=>((Ac.f k b j.2 2).bind λd=>(if 0≤d.1 then(if d.1<(m.length:Int)then((Ac.f k b d.2 5).bind λa=>(if a.1=0 then(AY.j0 k (rd l c.1) (rd m d.1) a.1 (a.1==0) b a.2 2 e.1 0 0 g.1)else(AY.j0 k (rd l c.1) (rd m d.1) a.1 (a.1==1) b a.2 2 e.1 0 0 g.1)))else(none))else(none)))))else(none))else(none))))))
theorem AY.calls(k:Nat)(g:Nat)(i:List Int)(ar:Int)(r1:Int)(r2:Int)(r3:Int)(r4:Int)(r5:ByteArray)(r6:Int)(w0 w:World)(hI:Af w0 w g i ar)(hB:Below w0.heap.size w0 w)(h:AY.f k i ar=some (r1,r2,r3,r4,r5,r6)) :
  Calls Tryd.prog 23 #[.pointer (some ⟨g,0,none⟩)] w λe w'=>e=.returned (.agg #[.int .i64 r1,.int .i64 r2,.int .i64 r3,.int .i64 r4,.string r5])∧Af w0 w' g i r6∧Below w0.heap.size w0 w'∧Ai w w' g none:=by
 have fu:=Tryd.underlying30;have HI0:=a_ hI;have HK:=a_ (Ai.refl w g none);have HL:=a_ hB.size;clear hI;have b8:=a_ hB.size;have HB:=a_ hB;clear hB;unfold AY.f at h;have H:=h;clear h;replace H:=BU H;obtain⟨⟨t129,t130⟩,bW,H⟩:=H;try dsimp only at H
 have A2:=a_ bW;clear bW;replace H:=BU H;obtain⟨⟨t131,t132⟩,bX,H⟩:=H;try dsimp only at H
 have A3:=a_ bX;clear bX;replace H:=BU H;obtain⟨⟨t134,t135⟩,bY,H⟩:=H;try dsimp only at H
 have A4:=a_ bY;clear bY;obtain⟨I,Y⟩:∃y_:List Int,y_=(([1,1,t134,2,3]:List Int)):=⟨_,rfl⟩
 replace H:((Ac.f k i t135 5).bind λX=>(if 0≤X.1 then(if X.1<(I.length:Int)then((Cn.f k i X.2).bind λaV=>((some (([0,aV.1]:List Int):List Int)).bind λD=>((Ac.f k i aV.2 2).bind λE=>(if 0≤E.1 then(if E.1<(D.length:Int)then((Ac.f k i E.2 5).bind λz=>(if z.1=0 then(AY.j0 k (rd I X.1) (rd D E.1) z.1 (z.1==0) i z.2 2 t129 0 0 t131)else(AY.j0 k (rd I X.1) (rd D E.1) z.1 (z.1==1) i z.2 2 t129 0 0 t131)))else(none))else(none)))))else(none))else(none)))=some (r1,r2,r3,r4,r5,r6):=by first|(rw[Y];with_reducible exact H)|(have av:=(Option.bind_some _ _).symm.trans H;rw[Y];with_reducible exact av)|(have av:=(Option.bind_some _ _).symm.trans H;with_reducible exact av)|with_reducible exact H|(rw[Y];exact H)|exact H
 have aJ:=a_ Y;clear Y;replace H:=BU H;obtain⟨⟨t139,t140⟩,bZ,H⟩:=H;try dsimp only at H
 have A5:=a_ bZ;clear bZ;by_cases c6:0≤t139
 ·rw[if_pos c6]at H;have a9:decide (0≤t139)=true:=BJ c6;clear c6;by_cases c7:t139<(I.length:Int)
  ·rw[if_pos c7]at H;have ba:decide (t139<(I.length:Int))=true:=BJ c7;clear c7;replace H:=BU H;obtain⟨⟨ab,au⟩,b6,H⟩:=H;try dsimp only at H
   have A8:=a_ b6;clear b6;obtain⟨D,Z⟩:∃y_:List Int,y_=(([0,ab]:List Int)):=⟨_,rfl⟩
   replace H:((Ac.f k i au 2).bind λE=>(if 0≤E.1 then(if E.1<(D.length:Int)then((Ac.f k i E.2 5).bind λz=>(if z.1=0 then(AY.j0 k (rd I t139) (rd D E.1) z.1 (z.1==0) i z.2 2 t129 0 0 t131)else(AY.j0 k (rd I t139) (rd D E.1) z.1 (z.1==1) i z.2 2 t129 0 0 t131)))else(none))else(none)))=some (r1,r2,r3,r4,r5,r6):=by first|(rw[Z];with_reducible exact H)|(have av:=(Option.bind_some _ _).symm.trans H;rw[Z];with_reducible exact av)|(have av:=(Option.bind_some _ _).symm.trans H;with_reducible exact av)|with_reducible exact H|(rw[Z];exact H)|exact H
   have aK:=a_ Z;clear Z;replace H:=BU H;obtain⟨⟨G,aE⟩,b7,H⟩:=H;try dsimp only at H
   have A9:=a_ b7;clear b7;by_cases Dr:0≤G
   ·rw[if_pos Dr]at H;have aW:decide (0≤G)=true:=BJ Dr;clear Dr;by_cases aF:G<(D.length:Int)
    ·rw[if_pos aF]at H;have aX:decide (G<(D.length:Int))=true:=BJ aF;clear aF;replace H:=BU H;obtain⟨⟨y,J⟩,a3,H⟩:=H;try dsimp only at H
     have ck:=a_ a3;clear a3;have aH:=a_ H;clear H;go_enter Tryd.func23,Tryd.ntmps23;go_upto_block 0 with(first|((with_reducible refine Cd (N:=2) rfl ?_);refine CE 2 (#[.int .i64 0,.int .i64 0,.int .i64 0,.int .i64 0,.string (⟨#[]⟩:ByteArray)]) 30 ?_;intro r hg fx ah q;have a:=a_ (ah);have ct:=a_ ((by rw[hg];exact(Cf (w:=w) (g:=g) (row:=none) (EP)):w.heap.size≤r));have cq:=a_ ((Nat.le_trans b8.o (by rw[hg];exact(Cf (w:=w) (g:=g) (row:=none) (EP)):w.heap.size≤r):w0.heap.size≤r));have L:=a_ ((by rw[hg];exact Nat.ne_of_lt (Af.lt (show Af w0 _ g i ar from Al)):g≠r));have j:=a_ ((by rw[hg];exact Nat.ne_of_gt (Af.lt (show Af w0 _ g i ar from Al)):r≠g));replace HI0:=a_ (Af.below (Al) q);replace HK:=a_ (Ai.trans (EP) (Ai.C4 q g none) (.inl rfl));replace HB:=a_ (BA (Ad) q);clear q ah hg)|((with_reducible refine BN (f:=41) rfl ?_);refine BR 7 Tryd.func41 #[.pointer (some ⟨g,0,none⟩)] ?_;(with_reducible refine(Cn.calls k g i ar t129 t130 w0 _ ?q' ?z' A2.o).mono ?_);(case q'=>exact Al);(case z'=>exact Ad);rintro e fy ⟨rfl,hi,q,l⟩;refine⟨_,rfl,?_⟩;replace a:=a_ (FI l a.o j.o);replace HK:=a_ (Ai.trans (DP HK.o) l (.inl rfl));replace HB:=a_ (q);replace HI0:=a_ (hi);(try clear q l hi))|((with_reducible refine BN (f:=42) rfl ?_);refine BR 9 Tryd.func42 #[.pointer (some ⟨g,0,none⟩)] ?_;(with_reducible refine(BH.calls k g i t130 t131 t132 w0 _ ?q' ?z' A3.o).mono ?_);(case q'=>exact Al);(case z'=>exact Ad);rintro e fz ⟨rfl,hi,q,l⟩;refine⟨_,rfl,?_⟩;replace a:=a_ (FI l a.o j.o);replace HK:=a_ (Ai.trans (DP HK.o) l (.inl rfl));replace HB:=a_ (q);replace HI0:=a_ (hi);(try clear q l hi))|((with_reducible refine Cd (N:=3) rfl ?_);refine CE 3 (#[.int .i64 0,.int .i64 0,.int .i64 0,.int .i64 0,.string (⟨#[]⟩:ByteArray)]) 30 ?_;intro K hg fA ah q;have b:=a_ (ah);have cu:=a_ ((by rw[hg];exact(Cf (w:=w) (g:=g) (row:=none) (DP HK.o)):w.heap.size≤K));have cr:=a_ ((Nat.le_trans b8.o (by rw[hg];exact(Cf (w:=w) (g:=g) (row:=none) (DP HK.o)):w.heap.size≤K):w0.heap.size≤K));have c:=a_ ((by rw[hg];exact Nat.ne_of_lt (AU (g:=r) (o:=.cells #[.int .i64 0,.int .i64 0,.int .i64 0,.int .i64 0,.string (⟨#[]⟩:ByteArray)] 30 (0,0)) (Bp a.o)):r≠K));have n:=a_ ((by rw[hg];exact Nat.ne_of_gt (AU (g:=r) (o:=.cells #[.int .i64 0,.int .i64 0,.int .i64 0,.int .i64 0,.string (⟨#[]⟩:ByteArray)] 30 (0,0)) (Bp a.o)):K≠r));have A:=a_ ((by rw[hg];exact Nat.ne_of_lt (Af.lt (show Af w0 _ g i t132 from Al)):g≠K));have d:=a_ ((by rw[hg];exact Nat.ne_of_gt (Af.lt (show Af w0 _ g i t132 from Al)):K≠g));replace HI0:=a_ (Af.below (Al) q);replace a:=a_ (C3 a.o q);replace HK:=a_ (Ai.trans (DP HK.o) (Ai.C4 q g none) (.inl rfl));replace HB:=a_ (BA (Ad) q);clear q ah hg;have eA:=n.o;have eX:=c.o;have eB:=d.o;have eY:=A.o;obtain⟨aQ,aR,aS,aT,aU,aL,aM,aN,aO,aP⟩:=Cy b.o)|((with_reducible refine BN (f:=41) rfl ?_);refine BR 12 Tryd.func41 #[.pointer (some ⟨g,0,none⟩)] ?_;(with_reducible refine(Cn.calls k g i t132 t134 t135 w0 _ ?q' ?z' A4.o).mono ?_);(case q'=>exact Al);(case z'=>exact Ad);rintro e fB ⟨rfl,hi,q,l⟩;refine⟨_,rfl,?_⟩;replace a:=a_ (Ai.EJ l (g':=r) (o:=.cells #[.int .i64 0,.int .i64 0,.int .i64 0,.int .i64 0,.string (⟨#[]⟩:ByteArray)] 30 (0,0)) (Dv c.o a.o) j.o (by simp));replace b:=a_ (Ai.EJ l (g':=K) (o:=.cells #[.int .i64 2,.int .i64 t129,.int .i64 0,.int .i64 0,.string t131] 30 (0,0)) (Gu b.o) d.o (by simp));replace HK:=a_ (Ai.trans (DP HK.o) l (.inl rfl));replace HB:=a_ (q);replace HI0:=a_ (hi);(try clear q l hi))|((with_reducible refine Cd (N:=13) rfl ?_);refine Kd.DD (Kd.int .i64) _ 3 ?hg (N:=13) ?hd (xs:=([1,1,t134,2,3]:List Int)) (inner:=[.int .i64 1,.int .i64 1,.int .i64 t134,.int .i64 2,.int .i64 3]) (ok:=λ_=>True) (okp:=λ_=>True) ?hr ?hp (λ_ l=>l) trivial (Below.refl _ _) (Nat.le_refl _) (by simp) ?_;(case hd=>rfl);(case hg=>rfl);(case hr=>first|(go_simp;done)|(go_simp;rfl));(case hp=>exact(Bi.one (show Kd.M (Kd.int .i64) _ _ _ 1 [.int .i64 1]from rfl) (Bi.one (show Kd.M (Kd.int .i64) _ _ _ 1 [.int .i64 1]from rfl) (Bi.one (show Kd.M (Kd.int .i64) _ _ _ t134 [.int .i64 t134]from rfl) (Bi.one (show Kd.M (Kd.int .i64) _ _ _ 2 [.int .i64 2]from rfl) (Bi.one (show Kd.M (Kd.int .i64) _ _ _ 3 [.int .i64 3]from rfl) (Bi.none _ _)))))));intro fv fC ai q Du aB;clear Du aB;(first|rw[<-aJ.o]at ai|(simp only[Int.reduceToNat]at ai;rw[<-aJ.o]at ai));have B:=a_ (Kd.AN ai (Cf (w:=w) (g:=g) (row:=none) (DP HK.o)));replace HK:=a_ (Ai.trans (DP HK.o) (Ai.C4 q g none) (.inl rfl));replace HB:=a_ (BA (Ad) q);replace HI0:=a_ (Af.below (Al) q);replace a:=a_ (C3 a.o q);replace b:=a_ (C3 b.o q);clear q ai)|((with_reducible refine BN (f:=16) rfl ?_);refine BR 15 Tryd.func16 #[.pointer (some ⟨g,0,none⟩),.int .i64 5] ?_;(with_reducible refine(Ac.calls k g i t135 5 t139 t140 w0 _ ?q' ?z' A5.o).mono ?_);(case q'=>exact Al);(case z'=>exact Ad);rintro e fD ⟨rfl,hi,q,l⟩;refine⟨_,rfl,?_⟩;replace a:=a_ (FI l a.o j.o);replace b:=a_ (FI l b.o d.o);replace B:=a_ (Kd.Aj (Kd.Bq (Af.apart (show Af w0 _ g i t135 from Al) (BC B.o) (by decide)) l (λ_ h=>h.2)) (λ_ h=>h.1));replace HK:=a_ (Ai.trans (DP HK.o) l (.inl rfl));replace HB:=a_ (q);replace HI0:=a_ (hi);(try clear q l hi);obtain⟨fm,fq,ca⟩:=Kd.Bg B.o;subst ca;have al:0≤(t139:Int):=Bu;have ao:t139<(I.length:Int):=Bu;obtain⟨ey,b9,aj⟩:=Kd.Fe (Kd.AD B.o).2.2 t139 al ao;cases b9;replace al:=eq_true al;replace ao:=eq_true ao)|((with_reducible refine BN (f:=41) rfl ?_);refine BR 19 Tryd.func41 #[.pointer (some ⟨g,0,none⟩)] ?_;(with_reducible refine(Cn.calls k g i t140 ab au w0 _ ?q' ?z' A8.o).mono ?_);(case q'=>exact Al);(case z'=>exact Ad);rintro e fE ⟨rfl,hi,q,l⟩;refine⟨_,rfl,?_⟩;replace a:=a_ (FI l a.o j.o);replace b:=a_ (FI l b.o d.o);replace B:=a_ (Kd.Aj (Kd.Bq (Af.apart (show Af w0 _ g i t140 from Al) (BC B.o) (by decide)) l (λ_ h=>h.2)) (λ_ h=>h.1));replace HK:=a_ (Ai.trans (DP HK.o) l (.inl rfl));replace HB:=a_ (q);replace HI0:=a_ (hi);(try clear q l hi))|((with_reducible refine Cd (N:=20) rfl ?_);refine Kd.DD (Kd.int .i64) _ 3 ?hg (N:=20) ?hd (xs:=([0,ab]:List Int)) (inner:=[.int .i64 0,.int .i64 ab]) (ok:=λ_=>True) (okp:=λ_=>True) ?hr ?hp (λ_ l=>l) trivial (Below.refl _ _) (Nat.le_refl _) (by simp) ?_;(case hd=>rfl);(case hg=>rfl);(case hr=>first|(go_simp;done)|(go_simp;rfl));(case hp=>exact(Bi.one (show Kd.M (Kd.int .i64) _ _ _ 0 [.int .i64 0]from rfl) (Bi.one (show Kd.M (Kd.int .i64) _ _ _ ab [.int .i64 ab]from rfl) (Bi.none _ _))));intro fw fF aa q Du aB;clear Du aB;(first|rw[<-aK.o]at aa|(simp only[Int.reduceToNat]at aa;rw[<-aK.o]at aa));have T:=a_ (Kd.AN (Kd.DC aa (Kd.DQ (BC B.o))) (Cf (w:=w) (g:=g) (row:=none) (DP HK.o)));replace B:=a_ (Kd.CB (BC B.o) (Kd.BO aa) q);replace HK:=a_ (Ai.trans (DP HK.o) (Ai.C4 q g none) (.inl rfl));replace HB:=a_ (BA (Ad) q);replace HI0:=a_ (Af.below (Al) q);replace a:=a_ (C3 a.o q);replace b:=a_ (C3 b.o q);clear q aa)|((with_reducible refine BN (f:=16) rfl ?_);refine BR 22 Tryd.func16 #[.pointer (some ⟨g,0,none⟩),.int .i64 2] ?_;(with_reducible refine(Ac.calls k g i au 2 G aE w0 _ ?q' ?z' A9.o).mono ?_);(case q'=>exact Al);(case z'=>exact Ad);rintro e fG ⟨rfl,hi,q,l⟩;refine⟨_,rfl,?_⟩;replace a:=a_ (FI l a.o j.o);replace b:=a_ (FI l b.o d.o);replace B:=a_ (Kd.Aj (Kd.Bq (Af.apart (show Af w0 _ g i au from Al) (BC B.o) (by decide)) l (λ_ h=>h.2)) (λ_ h=>h.1));replace T:=a_ (Kd.Aj (Kd.Bq (Af.apart (show Af w0 _ g i au from Al) (BC T.o) (by decide)) l (λ_ h=>h.2)) (λ_ h=>h.1));replace HK:=a_ (Ai.trans (DP HK.o) l (.inl rfl));replace HB:=a_ (q);replace HI0:=a_ (hi);(try clear q l hi);obtain⟨fo,ft,cb⟩:=Kd.Bg T.o;subst cb;have an:0≤(G:Int):=Bu;have aq:G<(D.length:Int):=Bu;obtain⟨ez,b_,ak⟩:=Kd.Fe (Kd.AD T.o).2.2 G an aq;cases b_;replace an:=eq_true an;replace aq:=eq_true aq)|((with_reducible refine BN (f:=16) rfl ?_);refine BR 26 Tryd.func16 #[.pointer (some ⟨g,0,none⟩),.int .i64 5] ?_;(with_reducible refine(Ac.calls k g i aE 5 y J w0 _ ?q' ?z' ck.o).mono ?_);(case q'=>exact Al);(case z'=>exact Ad);rintro e fH ⟨rfl,hi,q,l⟩;refine⟨_,rfl,?_⟩;replace a:=a_ (FI l a.o j.o);replace b:=a_ (FI l b.o d.o);replace B:=a_ (Kd.Aj (Kd.Bq (Af.apart (show Af w0 _ g i aE from Al) (BC B.o) (by decide)) l (λ_ h=>h.2)) (λ_ h=>h.1));replace T:=a_ (Kd.Aj (Kd.Bq (Af.apart (show Af w0 _ g i aE from Al) (BC T.o) (by decide)) l (λ_ h=>h.2)) (λ_ h=>h.1));replace HK:=a_ (Ai.trans (DP HK.o) l (.inl rfl));replace HB:=a_ (q);replace HI0:=a_ (hi);(try clear q l hi)))
     (try simp only[Act.put,List.setIfInBounds_toArray,List.set_cons_zero,List.set_cons_succ]);go_cut [] (λwc=>∃(kq:Nat) (t:Int) (u:Int) (v:Int) (x:Int) (m:ByteArray),Ae (AY.j1 kq i J t u v x m=some (r1,r2,r3,r4,r5,r6))∧Ae (kq≤k)∧Ae (wc.heap[r]?=some (.cells #[.int .i64 0,.int .i64 0,.int .i64 0,.int .i64 0,.string (⟨#[]⟩:ByteArray)] 30 (0,0)))∧Ae (wc.heap[K]?=some (.cells #[.int .i64 t,.int .i64 u,.int .i64 v,.int .i64 x,.string m] 30 (0,0)))∧Ae (Af w0 wc g i J)∧Ae (Ai w wc g none)∧Ae (Below w0.heap.size w0 wc))
     case first =>
      have H:=aH.o;clear aH;have aI:=a_ H;clear H;go_upto_if 27 with(fail)
      go_cut [27] (λfl wc=>∃(kq:Nat) (U:Bool),fl=.bool U∧Ae (AY.j0 kq (rd I t139) (rd D G) y U i J 2 t129 0 0 t131=some (r1,r2,r3,r4,r5,r6))∧Ae (kq≤k)∧Ae (wc.heap[r]?=some (.cells #[.int .i64 0,.int .i64 0,.int .i64 0,.int .i64 0,.string (⟨#[]⟩:ByteArray)] 30 (0,0)))∧Ae (wc.heap[K]?=some (.cells #[.int .i64 2,.int .i64 t129,.int .i64 0,.int .i64 0,.string t131] 30 (0,0)))∧Ae (Af w0 wc g i J)∧Ae (Ai w wc g none)∧Ae (Below w0.heap.size w0 wc))
      case first =>
       have H:=aI.o;clear aI;by_cases ae:y=0
       ·rw[if_pos ae]at H;have M:(y==0)=true:=beq_iff_eq.mpr ae;have aw:(y != 0)=false:=Ff ae;clear ae;(first|rw[M]|(simp only[Cp,Cv];rw[M])|skip);have H':=a_ H;clear H;go_wp2;go_meet
        exact⟨_,((y==0)),(Cr),H',⟨by first|omega|exact Nat.le_refl _⟩,⟨Bp a.o⟩,⟨Bp b.o⟩,⟨Al⟩,⟨DP HK.o⟩,⟨Ad⟩⟩
       rw[if_neg ae]at H;have M:(y==0)=false:=Dq ae;have aw:(y != 0)=true:=bne_iff_ne.mpr ae;(first|rw[M]|(simp only[Cp,Cv];rw[M])|skip);have H':=a_ H;clear H;go_wp2;go_meet
       exact⟨_,((y==1)),(Cr),H',⟨by first|omega|exact Nat.le_refl _⟩,⟨Bp a.o⟩,⟨Bp b.o⟩,⟨Al⟩,⟨DP HK.o⟩,⟨Ad⟩⟩
      clear aI;try clear c1
      try clear c6
      try clear a9
      try clear c7
      try clear ba
      try clear Dr
      try clear aW
      try clear aF
      try clear aX
      try clear ae
      try clear M
      try clear aw
      try clear aj
      try clear ak
      try clear al
      try clear an
      try clear ao
      try clear aq
      try clear aQ aR aS aT aU aL aM aN aO aP
      obtain⟨kq,U,rfl,HA,aC,a,b,HI0,HK,HB⟩:=hcut;cases kq with
      | zero=>exact absurd HA.o (by simp[AY.j0])
      | succ aD =>
       have H:=HA.o
       clear HA
       simp only[AY.j0]at H
       by_cases aY:U=true
       ·subst aY
        have H1:(AY.j1 aD i J 1 t129 (rd I t139) (rd D G) t131)=some (r1,r2,r3,r4,r5,r6):=by rw[if_pos rfl]at H;exact H
        clear H
        have H:=H1
        clear H1
        have H':=a_ H
        clear H
        have eC:=n.o
        have eZ:=c.o
        have eD:=d.o
        have e0:=A.o
        obtain⟨bz,bA,bB,bC,bD,bf,bg,bh,bj,bk⟩:=Cy (W:=wc) b.o
        go_wp2
        go_meet
        case rel=>exact⟨_,(1),(t129),((rd I t139)),((rd D G)),(t131),H',⟨by have:=aC.o;first|omega|exact Nat.le_refl _⟩,⟨Dv c.o a.o⟩,⟨Gu b.o⟩,⟨Al⟩,⟨DP HK.o⟩,⟨Ad⟩⟩
       ·replace aY:=Bool.eq_false_iff.mpr aY
        subst aY
        have H1:(if y=2 then(AY.j1 aD i J 3 t129 (rd I t139) (rd D G) (⟨#[]⟩:ByteArray))else(if y=3 then(AY.j1 aD i J 3 t129 (rd I t139) (rd D G) (⟨#[]⟩:ByteArray))else(AY.j1 aD i J 2 t129 0 0 t131)))=some (r1,r2,r3,r4,r5,r6):=by rw[if_neg (show¬ (false=true) by decide)]at H;exact H
        clear H
        have H:=H1
        clear H1
        by_cases af:y=2
        ·rw[if_pos af]at H
         have aZ:(y==2)=true:=beq_iff_eq.mpr af
         have a0:(y != 2)=false:=Ff af
         clear af
         have H':=a_ H
         clear H
         have eE:=n.o
         have e1:=c.o
         have eF:=d.o
         have e2:=A.o
         obtain⟨bE,bF,bG,bH,bI,bl,bm,bn,bo,bp⟩:=Cy (W:=wc) b.o
         go_wp2
         go_meet
         case rel=>exact⟨_,(3),(t129),((rd I t139)),((rd D G)),((⟨#[]⟩:ByteArray)),H',⟨by have:=aC.o;first|omega|exact Nat.le_refl _⟩,⟨Dv c.o a.o⟩,⟨Gu b.o⟩,⟨Al⟩,⟨DP HK.o⟩,⟨Ad⟩⟩
        ·rw[if_neg af]at H
         have aZ:(y==2)=false:=Dq af
         have a0:(y != 2)=true:=bne_iff_ne.mpr af
         by_cases ag:y=3
         ·rw[if_pos ag]at H
          have a1:(y==3)=true:=beq_iff_eq.mpr ag
          have a2:(y != 3)=false:=Ff ag
          clear ag
          have H':=a_ H
          clear H
          have eG:=n.o
          have e3:=c.o
          have eH:=d.o
          have e4:=A.o
          obtain⟨bJ,bK,bL,bM,bN,bq,br,bu,bw,bx⟩:=Cy (W:=wc) b.o
          go_wp2
          go_meet
          case rel=>exact⟨_,(3),(t129),((rd I t139)),((rd D G)),((⟨#[]⟩:ByteArray)),H',⟨by have:=aC.o;first|omega|exact Nat.le_refl _⟩,⟨Dv c.o a.o⟩,⟨Gu b.o⟩,⟨Al⟩,⟨DP HK.o⟩,⟨Ad⟩⟩
         ·rw[if_neg ag]at H
          have a1:(y==3)=false:=Dq ag
          have a2:(y != 3)=true:=bne_iff_ne.mpr ag
          have H':=a_ H
          clear H
          go_wp2
          go_meet
          case rel=>exact⟨_,(2),(t129),(0),(0),(t131),H',⟨by have:=aC.o;first|omega|exact Nat.le_refl _⟩,⟨Bp a.o⟩,⟨Bp b.o⟩,⟨Al⟩,⟨DP HK.o⟩,⟨Ad⟩⟩
     clear aH;try clear c1
     try clear c6
     try clear a9
     try clear c7
     try clear ba
     try clear Dr
     try clear aW
     try clear aF
     try clear aX
     try clear ae
     try clear M
     try clear aw
     try clear aY
     try clear af
     try clear aZ
     try clear a0
     try clear ag
     try clear a1
     try clear a2
     try clear aj
     try clear ak
     try clear al
     try clear an
     try clear ao
     try clear aq
     try clear aQ aR aS aT aU aL aM aN aO aP
     try clear bz bA bB bC bD bf bg bh bj bk
     try clear bE bF bG bH bI bl bm bn bo bp
     try clear bJ bK bL bM bN bq br bu bw bx
     obtain⟨kq,t,u,v,x,m,HA,fp,a,b,HI0,HK,HB⟩:=hcut;cases kq with
     | zero=>exact absurd HA.o (by simp[AY.j1])
     | succ O =>
      have H:=HA.o
      clear HA
      simp only[AY.j1]at H
      replace H:=BU H
      obtain⟨⟨p,P⟩,a4,H⟩:=H
      try dsimp only at H
      have aG:=a_ a4
      clear a4
      by_cases ax:p=0
      ·rw[if_pos ax]at H
       have bO:(p==0)=true:=beq_iff_eq.mpr ax
       have bP:(p != 0)=false:=Ff ax
       clear ax
       replace H:=BU H
       obtain⟨⟨bb,cd⟩,a5,H⟩:=H
       try dsimp only at H
       have cl:=a_ a5
       clear a5
       simp only[Option.some.injEq,Prod.mk.injEq]at H
       obtain⟨rfl,rfl,rfl,rfl,rfl,rfl⟩:=H
       go_wp2_with(first|((with_reducible refine BN (f:=16) rfl ?_);refine BR 46 Tryd.func16 #[.pointer (some ⟨g,0,none⟩),.int .i64 30] ?_;(with_reducible refine(Ac.calls O g i J 30 p P w0 _ ?q' ?z' aG.o).mono ?_);(case q'=>exact Al);(case z'=>exact Ad);rintro e fI ⟨rfl,hi,q,l⟩;refine⟨_,rfl,?_⟩;replace a:=a_ (FI l a.o j.o);replace b:=a_ (FI l b.o d.o);replace HK:=a_ (Ai.trans (DP HK.o) l (.inl rfl));replace HB:=a_ (q);replace HI0:=a_ (hi);(try clear q l hi))|((with_reducible refine BN (f:=16) rfl ?_);refine BR 50 Tryd.func16 #[.pointer (some ⟨g,0,none⟩),.int .i64 5] ?_;(with_reducible refine(Ac.calls O g i P 5 bb cd w0 _ ?q' ?z' cl.o).mono ?_);(case q'=>exact Al);(case z'=>exact Ad);rintro e fJ ⟨rfl,hi,q,l⟩;refine⟨_,rfl,?_⟩;replace a:=a_ (FI l a.o j.o);replace b:=a_ (FI l b.o d.o);replace HK:=a_ (Ai.trans (DP HK.o) l (.inl rfl));replace HB:=a_ (q);replace HI0:=a_ (hi);(try clear q l hi);have eI:=n.o;have e5:=c.o;have eJ:=d.o;have e6:=A.o;obtain⟨dv,dw,dx,dy,dz,cv,cw,cx,cy,cz⟩:=Cy b.o;have eK:=j.o;have e7:=L.o;obtain⟨dA,dB,dC,dD,dE,cA,cB,cC,cD,cE⟩:=Cy a.o))
       refine bodyPost_ret (results_cell_row rfl _ _ r 30 #[.int .i64 bb,.int .i64 u,.int .i64 v,.int .i64 x,.string m] (0,0) _ rfl (Ll c.o a.o) Tryd.underlying30 rfl (by kernel_rfl)) rfl ?_
       exact⟨C_,Al,Ad,DP HK.o⟩
      ·rw[if_neg ax]at H
       have bO:(p==0)=false:=Dq ax
       have bP:(p != 0)=true:=bne_iff_ne.mpr ax
       by_cases ay:p=1
       ·rw[if_pos ay]at H
        have bQ:(p==1)=true:=beq_iff_eq.mpr ay
        have bR:(p != 1)=false:=Ff ay
        clear ay
        replace H:=BU H
        obtain⟨⟨bc,cf⟩,a6,H⟩:=H
        try dsimp only at H
        have cm:=a_ a6
        clear a6
        simp only[Option.some.injEq,Prod.mk.injEq]at H
        obtain⟨rfl,rfl,rfl,rfl,rfl,rfl⟩:=H
        go_wp2_with(first|((with_reducible refine BN (f:=16) rfl ?_);refine BR 46 Tryd.func16 #[.pointer (some ⟨g,0,none⟩),.int .i64 30] ?_;(with_reducible refine(Ac.calls O g i J 30 p P w0 _ ?q' ?z' aG.o).mono ?_);(case q'=>exact Al);(case z'=>exact Ad);rintro e fK ⟨rfl,hi,q,l⟩;refine⟨_,rfl,?_⟩;replace a:=a_ (FI l a.o j.o);replace b:=a_ (FI l b.o d.o);replace HK:=a_ (Ai.trans (DP HK.o) l (.inl rfl));replace HB:=a_ (q);replace HI0:=a_ (hi);(try clear q l hi))|((with_reducible refine BN (f:=16) rfl ?_);refine BR 55 Tryd.func16 #[.pointer (some ⟨g,0,none⟩),.int .i64 50] ?_;(with_reducible refine(Ac.calls O g i P 50 bc cf w0 _ ?q' ?z' cm.o).mono ?_);(case q'=>exact Al);(case z'=>exact Ad);rintro e fL ⟨rfl,hi,q,l⟩;refine⟨_,rfl,?_⟩;replace a:=a_ (FI l a.o j.o);replace b:=a_ (FI l b.o d.o);replace HK:=a_ (Ai.trans (DP HK.o) l (.inl rfl));replace HB:=a_ (q);replace HI0:=a_ (hi);(try clear q l hi);have eL:=n.o;have e8:=c.o;have eM:=d.o;have e9:=A.o;obtain⟨dF,dG,dH,dI,dJ,cF,cG,cH,cI,cJ⟩:=Cy b.o;have eN:=j.o;have e_:=L.o;obtain⟨dK,dL,dM,dN,dO,cK,cL,cM,cN,cO⟩:=Cy a.o))
        refine bodyPost_ret (results_cell_row rfl _ _ r 30 #[.int .i64 t,.int .i64 bc,.int .i64 v,.int .i64 x,.string m] (0,0) _ rfl (Ll c.o a.o) Tryd.underlying30 rfl (by kernel_rfl)) rfl ?_
        exact⟨C_,Al,Ad,DP HK.o⟩
       ·rw[if_neg ay]at H
        have bQ:(p==1)=false:=Dq ay
        have bR:(p != 1)=true:=bne_iff_ne.mpr ay
        by_cases az:p=2
        ·rw[if_pos az]at H
         have bS:(p==2)=true:=beq_iff_eq.mpr az
         have bT:(p != 2)=false:=Ff az
         clear az
         replace H:=BU H
         obtain⟨⟨bd,cg⟩,a7,H⟩:=H
         try dsimp only at H
         have cn:=a_ a7
         clear a7
         simp only[Option.some.injEq,Prod.mk.injEq]at H
         obtain⟨rfl,rfl,rfl,rfl,rfl,rfl⟩:=H
         go_wp2_with(first|((with_reducible refine BN (f:=16) rfl ?_);refine BR 46 Tryd.func16 #[.pointer (some ⟨g,0,none⟩),.int .i64 30] ?_;(with_reducible refine(Ac.calls O g i J 30 p P w0 _ ?q' ?z' aG.o).mono ?_);(case q'=>exact Al);(case z'=>exact Ad);rintro e fM ⟨rfl,hi,q,l⟩;refine⟨_,rfl,?_⟩;replace a:=a_ (FI l a.o j.o);replace b:=a_ (FI l b.o d.o);replace HK:=a_ (Ai.trans (DP HK.o) l (.inl rfl));replace HB:=a_ (q);replace HI0:=a_ (hi);(try clear q l hi))|((with_reducible refine BN (f:=16) rfl ?_);refine BR 60 Tryd.func16 #[.pointer (some ⟨g,0,none⟩),.int .i64 50] ?_;(with_reducible refine(Ac.calls O g i P 50 bd cg w0 _ ?q' ?z' cn.o).mono ?_);(case q'=>exact Al);(case z'=>exact Ad);rintro e fN ⟨rfl,hi,q,l⟩;refine⟨_,rfl,?_⟩;replace a:=a_ (FI l a.o j.o);replace b:=a_ (FI l b.o d.o);replace HK:=a_ (Ai.trans (DP HK.o) l (.inl rfl));replace HB:=a_ (q);replace HI0:=a_ (hi);(try clear q l hi);have eO:=n.o;have fa:=c.o;have eP:=d.o;have fb:=A.o;obtain⟨dP,dQ,dR,dS,dT,cP,cQ,cR,cS,cT⟩:=Cy b.o;have eQ:=j.o;have fc:=L.o;obtain⟨dU,dV,dW,dX,dY,cU,cV,cW,cX,cY⟩:=Cy a.o))
         refine bodyPost_ret (results_cell_row rfl _ _ r 30 #[.int .i64 t,.int .i64 u,.int .i64 bd,.int .i64 x,.string m] (0,0) _ rfl (Ll c.o a.o) Tryd.underlying30 rfl (by kernel_rfl)) rfl ?_
         exact⟨C_,Al,Ad,DP HK.o⟩
        ·rw[if_neg az]at H
         have bS:(p==2)=false:=Dq az
         have bT:(p != 2)=true:=bne_iff_ne.mpr az
         by_cases aA:p=3
         ·rw[if_pos aA]at H
          have bU:(p==3)=true:=beq_iff_eq.mpr aA
          have bV:(p != 3)=false:=Ff aA
          clear aA
          replace H:=BU H
          obtain⟨⟨be,cj⟩,a8,H⟩:=H
          try dsimp only at H
          have cp:=a_ a8
          clear a8
          simp only[Option.some.injEq,Prod.mk.injEq]at H
          obtain⟨rfl,rfl,rfl,rfl,rfl,rfl⟩:=H
          go_wp2_with(first|((with_reducible refine BN (f:=16) rfl ?_);refine BR 46 Tryd.func16 #[.pointer (some ⟨g,0,none⟩),.int .i64 30] ?_;(with_reducible refine(Ac.calls O g i J 30 p P w0 _ ?q' ?z' aG.o).mono ?_);(case q'=>exact Al);(case z'=>exact Ad);rintro e fO ⟨rfl,hi,q,l⟩;refine⟨_,rfl,?_⟩;replace a:=a_ (FI l a.o j.o);replace b:=a_ (FI l b.o d.o);replace HK:=a_ (Ai.trans (DP HK.o) l (.inl rfl));replace HB:=a_ (q);replace HI0:=a_ (hi);(try clear q l hi))|((with_reducible refine BN (f:=16) rfl ?_);refine BR 65 Tryd.func16 #[.pointer (some ⟨g,0,none⟩),.int .i64 50] ?_;(with_reducible refine(Ac.calls O g i P 50 be cj w0 _ ?q' ?z' cp.o).mono ?_);(case q'=>exact Al);(case z'=>exact Ad);rintro e fP ⟨rfl,hi,q,l⟩;refine⟨_,rfl,?_⟩;replace a:=a_ (FI l a.o j.o);replace b:=a_ (FI l b.o d.o);replace HK:=a_ (Ai.trans (DP HK.o) l (.inl rfl));replace HB:=a_ (q);replace HI0:=a_ (hi);(try clear q l hi);have eR:=n.o;have fe:=c.o;have eS:=d.o;have fg:=A.o;obtain⟨dZ,d_,ea,ec,ed,cZ,c0,c_,da,db⟩:=Cy b.o;have eT:=j.o;have fh:=L.o;obtain⟨ee,ef,eg,eh,ei,dc,dd,de,df,dg⟩:=Cy a.o))
          refine bodyPost_ret (results_cell_row rfl _ _ r 30 #[.int .i64 t,.int .i64 u,.int .i64 v,.int .i64 be,.string m] (0,0) _ rfl (Ll c.o a.o) Tryd.underlying30 rfl (by kernel_rfl)) rfl ?_
          exact⟨C_,Al,Ad,DP HK.o⟩
         ·rw[if_neg aA]at H
          have bU:(p==3)=false:=Dq aA
          have bV:(p != 3)=true:=bne_iff_ne.mpr aA
          simp only[Option.some.injEq,Prod.mk.injEq]at H
          obtain⟨rfl,rfl,rfl,rfl,rfl,rfl⟩:=H
          go_wp2_with(first|((with_reducible refine BN (f:=16) rfl ?_);refine BR 46 Tryd.func16 #[.pointer (some ⟨g,0,none⟩),.int .i64 30] ?_;(with_reducible refine(Ac.calls O g i J 30 p P w0 _ ?q' ?z' aG.o).mono ?_);(case q'=>exact Al);(case z'=>exact Ad);rintro e fQ ⟨rfl,hi,q,l⟩;refine⟨_,rfl,?_⟩;replace a:=a_ (FI l a.o j.o);replace b:=a_ (FI l b.o d.o);replace HK:=a_ (Ai.trans (DP HK.o) l (.inl rfl));replace HB:=a_ (q);replace HI0:=a_ (hi);(try clear q l hi);have eU:=n.o;have fi:=c.o;have eV:=d.o;have fj:=A.o;obtain⟨ej,ek,en,eo,ep,dh,di,dj,dk,dm⟩:=Cy b.o;have eW:=j.o;have fk:=L.o;obtain⟨er,et,eu,ev,ew,dn,dp,dq,dr,du⟩:=Cy a.o))
          refine bodyPost_ret (results_cell_row rfl _ _ r 30 #[.int .i64 t,.int .i64 u,.int .i64 v,.int .i64 x,.string m] (0,0) _ rfl (Gu a.o) Tryd.underlying30 rfl (by kernel_rfl)) rfl ?_
          exact⟨C_,Al,Ad,DP HK.o⟩
    rw[if_neg aF]at H;exact absurd H (by simp)
   rw[if_neg Dr]at H;exact absurd H (by simp)
  rw[if_neg c7]at H;exact absurd H (by simp)
 rw[if_neg c6]at H;exact absurd H (by simp)
def Er.f  : Option ((List (AM))×Int×Bool):=some ((([]:List (AM))),0,true)
theorem Er.calls  (y:List (AM))(z:Int)(A:Bool)(w:World)(h:Er.f  = some (y,z,A)) :
  Calls Tryd.prog 66 #[] w λe w'=>∃r:Value,e=.returned (.agg #[r,.int .i64 z,.bool A])∧Kd.R BT 32 w' w.heap.size (λ_=>True) r y∧Below w.heap.size w w':=by
 have K:=Tryd.underlying60;have HB:=a_ (Below.refl w.heap.size w);unfold Er.f at h;have H:=h;clear h;obtain⟨k,b⟩:∃M:List (AM),M=(([]:List (AM))):=⟨_,rfl⟩
 replace H:(some (k,0,true))=some (y,z,A):=by first|(rw[b];with_reducible exact H)|(have m:=(Option.bind_some _ _).symm.trans H;rw[b];with_reducible exact m)|(have m:=(Option.bind_some _ _).symm.trans H;with_reducible exact m)|with_reducible exact H|(rw[b];exact H)|exact H
 have i:=a_ b;clear b;simp only[Option.some.injEq,Prod.mk.injEq]at H;obtain⟨rfl,rfl,rfl⟩:=H;go_enter Tryd.func66,Tryd.ntmps66;go_wp2_with(first|((with_reducible refine Cd (N:=0) rfl ?_);refine CE 0 (#[.slice none 0 0,.int .i64 0,.bool false]) 60 ?_;intro c hg w1 l o;have a:=a_ (l);have v:=a_ ((by rw[hg];exact(Ab (Ad)):w.heap.size≤c));have u:=a_ ((by rw[hg];exact(Ab (Ad)):w.heap.size≤c));replace HB:=a_ (BA (Ad) o);clear o l hg)|((with_reducible refine Cd (N:=1) rfl ?_);refine Kd.DD BT _ 32 ?hg (N:=1) ?hd (xs:=([]:List (AM))) (inner:=[]) (ok:=λ_=>True) (okp:=λ_=>True) ?hr ?hp (λ_ t=>t) trivial (Below.refl _ _) (Nat.le_refl _) (by simp) ?_;(case hd=>rfl);(case hg=>rfl);(case hr=>first|(go_simp;done)|(go_simp;rfl));(case hp=>exact(Bi.none _ _));intro L O j o Du n;clear Du n;(first|rw[<-i.o]at j|(simp only[Int.reduceToNat]at j;rw[<-i.o]at j));have d:=a_ (Kd.AN j (Ab (Ad)));replace HB:=a_ (BA (Ad) o);replace a:=a_ (C3 a.o o);clear o j;obtain⟨p,q,x⟩:=Kd.Bg d.o;subst x;obtain⟨G,I,J,B,D,E⟩:=DK a.o));refine bodyPost_ret (results_cell_row rfl _ _ c 60 #[.slice p k.length q,.int .i64 0,.bool true] (0,0) _ rfl (NP a.o) Tryd.underlying60 rfl (by kernel_rfl)) rfl ?_;exact⟨_,C_,by(with_reducible repeat(first|apply Kd.R_alloc|apply Kd.An|apply Kd.As));exact Kd.Aj (L6 (g:=c) (Kd.AF d.o a.o (by decide)) (λ_ t=>t.2) (.slice p k.length q) (.int .i64 0) (.bool true)) (λ_ t=>trivial),Ad⟩
def Aq.f(a:Int)(b:Int)(c:Int):Option (Bool):=if a≥b then(some (decide (a≤c)))else(some false)
theorem Aq.calls(a:Int)(b:Int)(d:Int)(r:Bool)(w:World)(h:Aq.f a b d=some r) :
  Calls Tryd.prog 20 #[.int .i64 a,.int .i64 b,.int .i64 d] w λe w'=>e=.returned (.bool r)∧AA w w':=by
 unfold Aq.f at h;have H:=h;clear h;by_cases c4:a≥b
 ·rw[if_pos c4]at H;have c:decide (b≤a)=true:=BJ c4;clear c4;obtain rfl:=C5 H;go_enter Tryd.func20,Tryd.ntmps20;go_wp2;go_ret;exact⟨Cr,by repeat(first|exact AA.refl _|apply AA.step)⟩
 rw[if_neg c4]at H;have c:decide (b≤a)=false:=C1 c4;clear c4;obtain rfl:=C5 H;go_enter Tryd.func20,Tryd.ntmps20;go_wp2;go_ret;exact⟨Cr,by repeat(first|exact AA.refl _|apply AA.step)⟩
def Dc.f  : Option ((List (Ba))):=some (([(⟨1,0,(⟨#[]⟩:ByteArray)⟩:Ba),(⟨2,0,(⟨#[]⟩:ByteArray)⟩:Ba),(⟨3,0,(⟨#[]⟩:ByteArray)⟩:Ba)]:List (Ba)))
theorem Dc.calls  (r:List (Ba))(w:World)(h:Dc.f  = some r) :
  Calls Tryd.prog 62 #[] w λe w'=>∃j:Value,e=.returned (j)∧Kd.R Dj 68 w' w.heap.size (λ_=>True) j r∧Below w.heap.size w w':=by
 have m:=Tryd.underlying68;have HB:=a_ (Below.refl w.heap.size w);unfold Dc.f at h;have H:=h;clear h;obtain⟨k,a⟩:∃p:List (Ba),p=(([(⟨1,0,(⟨#[]⟩:ByteArray)⟩:Ba),(⟨2,0,(⟨#[]⟩:ByteArray)⟩:Ba),(⟨3,0,(⟨#[]⟩:ByteArray)⟩:Ba)]:List (Ba))):=⟨_,rfl⟩
 replace H:(some k)=some r:=by first|(rw[a];with_reducible exact H)|(have d:=(Option.bind_some _ _).symm.trans H;rw[a];with_reducible exact d)|(have d:=(Option.bind_some _ _).symm.trans H;with_reducible exact d)|with_reducible exact H|(rw[a];exact H)|exact H
 have b:=a_ a;clear a;obtain rfl:=C5 H;go_enter Tryd.func62,Tryd.ntmps62;go_wp2_with(first|((with_reducible refine Cd (N:=4) rfl ?_);refine Kd.DD Dj _ 68 ?hg (N:=4) ?hd (xs:=([(⟨1,0,(⟨#[]⟩:ByteArray)⟩:Ba),(⟨2,0,(⟨#[]⟩:ByteArray)⟩:Ba),(⟨3,0,(⟨#[]⟩:ByteArray)⟩:Ba)]:List (Ba))) (inner:=[.int .i64 1,.int .i64 0,.string (⟨#[]⟩:ByteArray),.int .i64 2,.int .i64 0,.string (⟨#[]⟩:ByteArray),.int .i64 3,.int .i64 0,.string (⟨#[]⟩:ByteArray)]) (ok:=λ_=>True) (okp:=λ_=>True) ?hr ?hp (λ_ o=>o) trivial (Below.refl _ _) (Nat.le_refl _) (by simp) ?_;(case hd=>rfl);(case hg=>rfl);(case hr=>first|(go_simp;done)|(go_simp;rfl));(case hp=>exact(Bi.c3 (show Kd.M Dj _ _ _ (⟨1,0,(⟨#[]⟩:ByteArray)⟩:Ba) [.int .i64 1,.int .i64 0,.string (⟨#[]⟩:ByteArray)]from(Gl _ _ _ (⟨1,0,(⟨#[]⟩:ByteArray)⟩:Ba) )) (Bi.c3 (show Kd.M Dj _ _ _ (⟨2,0,(⟨#[]⟩:ByteArray)⟩:Ba) [.int .i64 2,.int .i64 0,.string (⟨#[]⟩:ByteArray)]from(Gl _ _ _ (⟨2,0,(⟨#[]⟩:ByteArray)⟩:Ba) )) (Bi.c3 (show Kd.M Dj _ _ _ (⟨3,0,(⟨#[]⟩:ByteArray)⟩:Ba) [.int .i64 3,.int .i64 0,.string (⟨#[]⟩:ByteArray)]from(Gl _ _ _ (⟨3,0,(⟨#[]⟩:ByteArray)⟩:Ba) )) (Bi.none _ _)))));intro n w1 c l Du i;clear Du i;(first|rw[<-b.o]at c|(simp only[Int.reduceToNat]at c;rw[<-b.o]at c));have g:=a_ (Kd.AN c (Ab (Ad)));replace HB:=a_ (BA (Ad) l);clear l c));go_ret;exact⟨_,C_,by(with_reducible repeat(first|apply Kd.R_alloc|apply Kd.An|apply Kd.As));exact g.o,Ad⟩
def Ep.f(c:Int):Option (Int×Int×(List (Ba))×(List (AM))×Int×Int×Bool):=(Aq.f c 1 3).bind λa=>(if a=true then((Dc.f).bind λb=>(some (c,0,b,(([]:List (AM))),0,0,true)))else(some (0,0,([]:List (Ba)),([]:List (AM)),0,0,false)))
theorem Ep.calls(q:Int)(K:Int)(L:Int)(M:List (Ba))(O:List (AM))(P:Int)(T:Int)(U:Bool)(w:World)(h:Ep.f q=some (K,L,M,O,P,T,U)) :
  Calls Tryd.prog 67 #[.int .i64 q] w λe w'=>∃X Y:Value,e=.returned (.tuple #[.agg #[.int .i64 K,.int .i64 L,X,Y,.int .i64 P,.int .i64 T],.bool U])∧Kd.R Dj 68 w' w.heap.size (λ_=>True) X M∧Kd.R BT 32 w' w.heap.size (λ_=>True) Y O∧Below w.heap.size w w':=by
 have aF:=Tryd.underlying26;have HB:=a_ (Below.refl w.heap.size w);unfold Ep.f at h;have H:=h;clear h;replace H:=BU H;obtain⟨W,E,H⟩:=H;try dsimp only at H
 have A2:=a_ E;clear E;by_cases c3:W=true
 ·subst c3;have H1:((Dc.f).bind λd=>(some (q,0,d,(([]:List (AM))),0,0,true)))=some (K,L,M,O,P,T,U):=by rw[if_pos rfl]at H;exact H
  clear H;have H:=H1;clear H1;replace H:=BU H;obtain⟨d,G,H⟩:=H;try dsimp only at H
  have A4:=a_ G;clear G;obtain⟨m,c⟩:∃y_:List (AM),y_=(([]:List (AM))):=⟨_,rfl⟩
  replace H:(some (q,0,d,m,0,0,true))=some (K,L,M,O,P,T,U):=by first|(rw[c];with_reducible exact H)|(have z:=(Option.bind_some _ _).symm.trans H;rw[c];with_reducible exact z)|(have z:=(Option.bind_some _ _).symm.trans H;with_reducible exact z)|with_reducible exact H|(rw[c];exact H)|exact H
  have p:=a_ c;clear c;simp only[Option.some.injEq,Prod.mk.injEq]at H;obtain⟨rfl,rfl,rfl,rfl,rfl,rfl,rfl⟩:=H;go_enter Tryd.func67,Tryd.ntmps67;go_wp2_with(first|((with_reducible refine Cd (N:=2) rfl ?_);refine CE 2 (#[.int .i64 0,.int .i64 0,.slice none 0 0,.slice none 0 0,.int .i64 0,.int .i64 0]) 26 ?_;intro b hg Z j l;have a:=a_ (j);have y:=a_ ((by rw[hg];exact(Ab (Ad)):w.heap.size≤b));have x:=a_ ((by rw[hg];exact(Ab (Ad)):w.heap.size≤b));replace HB:=a_ (BA (Ad) l);clear l j hg)|((with_reducible refine BN (f:=20) rfl ?_);refine BR 5 Tryd.func20 #[.int .i64 q,.int .i64 1,.int .i64 3] ?_;(with_reducible refine(Aq.calls q 1 3 true _ A2.o).mono ?_);rintro e w' ⟨rfl,⟨nd,rfl⟩⟩;refine⟨_,rfl,?_⟩;(try(rw[En Z];generalize k:World.drewN Z _=Z;replace a:Ae (Z.heap[b]?=some (.cells #[.int .i64 0,.int .i64 0,.slice none 0 0,.slice none 0 0,.int .i64 0,.int .i64 0] 26 (0,0))):=⟨by rw[<-k];exact(Bp a.o)⟩;replace HB:Ae (Below w.heap.size w Z):=⟨by rw[<-k];exact(Ad)⟩;clear k)))|((with_reducible refine BN (f:=62) rfl ?_);refine BR 9 Tryd.func62 #[] ?_;(with_reducible refine(Dc.calls  d _ A4.o).mono ?_);rintro e w6 ⟨aG,rfl,J,l⟩;refine⟨_,rfl,?_⟩;have i:=a_ (Kd.AN J (Ab (Ad)));replace HB:=a_ (BA (Ad) l);replace a:=a_ (C3 a.o l);(try clear l J))|((with_reducible refine Cd (N:=10) rfl ?_);refine Kd.DD BT _ 32 ?hg (N:=10) ?hd (xs:=([]:List (AM))) (inner:=[]) (ok:=λ_=>True) (okp:=λ_=>True) ?hr ?hp (λ_ B=>B) trivial (Below.refl _ _) (Nat.le_refl _) (by simp) ?_;(case hd=>rfl);(case hg=>rfl);(case hr=>first|(go_simp;done)|(go_simp;rfl));(case hp=>exact(Bi.none _ _));intro aH w7 t l Du D;clear Du D;(first|rw[<-p.o]at t|(simp only[Int.reduceToNat]at t;rw[<-p.o]at t));replace i:=a_ (Kd.AZ (BC i.o) l);have o:=a_ (Kd.AN t (Ab (Ad)));replace HB:=a_ (BA (Ad) l);replace a:=a_ (C3 a.o l);clear l t;obtain⟨v,A,aE⟩:=Kd.Bg o.o;subst aE;obtain⟨n,r,I⟩:=Kd.Bg i.o;subst I;obtain⟨aq,ar,au,av,aw,ax,aa,ab,ae,af,ag,ah⟩:=Cs a.o));refine bodyPost_ret (Dh rfl _ _ b 26 #[.int .i64 q,.int .i64 0,.slice n d.length r,.slice v m.length A,.int .i64 0,.int .i64 0] (0,0) _ rfl (GM a.o) Tryd.underlying26 rfl (by kernel_rfl)) rfl ?_;exact⟨_,_,C_,by(with_reducible repeat(first|apply Kd.R_alloc|apply Kd.An|apply Kd.As));exact Kd.Aj (EZ (g:=b) (Kd.AF i.o a.o (by decide)) (λ_ B=>B.2) (.int .i64 q) (.int .i64 0) (.slice n d.length r) (.slice v m.length A) (.int .i64 0) (.int .i64 0)) (λ_ B=>trivial),by(with_reducible repeat(first|apply Kd.R_alloc|apply Kd.An|apply Kd.As));exact Kd.Aj (EZ (g:=b) (Kd.AF o.o a.o (by decide)) (λ_ B=>B.2) (.int .i64 q) (.int .i64 0) (.slice n d.length r) (.slice v m.length A) (.int .i64 0) (.int .i64 0)) (λ_ B=>trivial),Ad⟩
 replace c3:=Bool.eq_false_iff.mpr c3;subst c3;have H1:(some (0,0,([]:List (Ba)),([]:List (AM)),0,0,false))=some (K,L,M,O,P,T,U):=by rw[if_neg (show¬ (false=true) by decide)]at H;exact H
 clear H;have H:=H1;clear H1;simp only[Option.some.injEq,Prod.mk.injEq]at H;obtain⟨rfl,rfl,rfl,rfl,rfl,rfl,rfl⟩:=H;go_enter Tryd.func67,Tryd.ntmps67;go_wp2_with(first|((with_reducible refine Cd (N:=2) rfl ?_);refine CE 2 (#[.int .i64 0,.int .i64 0,.slice none 0 0,.slice none 0 0,.int .i64 0,.int .i64 0]) 26 ?_;intro b hg u j l;have a:=a_ (j);have y:=a_ ((by rw[hg];exact(Ab (Ad)):w.heap.size≤b));have x:=a_ ((by rw[hg];exact(Ab (Ad)):w.heap.size≤b));replace HB:=a_ (BA (Ad) l);clear l j hg)|((with_reducible refine BN (f:=20) rfl ?_);refine BR 5 Tryd.func20 #[.int .i64 q,.int .i64 1,.int .i64 3] ?_;(with_reducible refine(Aq.calls q 1 3 false _ A2.o).mono ?_);rintro e w' ⟨rfl,⟨nd,rfl⟩⟩;refine⟨_,rfl,?_⟩;(try(rw[En u];generalize k:World.drewN u _=u;replace a:Ae (u.heap[b]?=some (.cells #[.int .i64 0,.int .i64 0,.slice none 0 0,.slice none 0 0,.int .i64 0,.int .i64 0] 26 (0,0))):=⟨by rw[<-k];exact(Bp a.o)⟩;replace HB:Ae (Below w.heap.size w u):=⟨by rw[<-k];exact(Ad)⟩;clear k));obtain⟨ay,az,aA,aB,aC,aD,ai,aj,ak,al,an,ao⟩:=Cs a.o));refine bodyPost_ret (Dh rfl _ _ b 26 #[.int .i64 0,.int .i64 0,.slice none 0 0,.slice none 0 0,.int .i64 0,.int .i64 0] (0,0) _ rfl (GM a.o) Tryd.underlying26 rfl (by kernel_rfl)) rfl ?_;exact⟨_,_,C_,by first|exact Kd.JT _ _ _ _ _|exact Kd.N_nil _ _ _ _ _|exact Kd.V_nil _ _ _ _ _|exact Kd.Q_nil _ _ _ _ _|exact Kd.K2 _ _ _ _ _,by first|exact Kd.JT _ _ _ _ _|exact Kd.N_nil _ _ _ _ _|exact Kd.V_nil _ _ _ _ _|exact Kd.Q_nil _ _ _ _ _|exact Kd.K2 _ _ _ _ _,Ad⟩
def Bh.l0:Nat->Int->List (AM)->Int->Bool->List (EI)->List (Dm)->Option ((List (AM))×Int×Bool×(List (EI))×(List (Dm)))
 | 0,_,_,_,_,_,_=>none
 | k+1,i,c,d,e,b,g=>if i≤3 then((Ep.f i).bind λa=>(if b.length<1759218604441 then(Bh.l0 k (wrap64 (i+1)) c d e (b++[(⟨a.1,a.2.1,a.2.2.1,a.2.2.2.1,a.2.2.2.2.1,a.2.2.2.2.2.1⟩:EI)]) g)else(none)))else(some (c,d,e,b,g))
def Bh.f(k:Nat)  : Option ((List (AM))×Int×Bool×(List (EI))×(List (Dm))):=(Er.f).bind λa=>(Bh.l0 k 1 a.1 a.2.1 a.2.2 ([]:List (EI)) (([]:List (Dm))))
theorem Bh.MY:∀k,(∀b c d e g i,GF (Bh.l0 k b c d e g i) (Bh.l0 (k+1) b c d e g i))
 | 0=>λ_ _ _ _ _ _ r h=>by simp[Bh.l0]at h
 | k+1=>by
  have a:=Bh.MY k
  ·intro b c d e g i
   unfold Bh.l0
   repeat' first
   | (with_reducible exact a _ _ _ _ _ _)
   | (with_reducible exact GF.refl _)
   | (with_reducible exact GF.none _)
   | (with_reducible refine GF.ite ?_ ?_)
   | (with_reducible refine GF.bind ?_ (λ_=>?_))
theorem Bh.mono:∀k,GF (Bh.f k ) (Bh.f (k+1) ):=by
 intro  k;have a:=Bh.MY k;unfold Bh.f
 repeat' first
   | (with_reducible exact a _ _ _ _ _ _)
   | (with_reducible exact GF.refl _)
   | (with_reducible exact GF.none _)
   | (with_reducible refine GF.ite ?_ ?_)
   | (with_reducible refine GF.bind ?_ (λ_=>?_))
end Go.Proofs.YtlhlpfnljglhoaaDoor.P
