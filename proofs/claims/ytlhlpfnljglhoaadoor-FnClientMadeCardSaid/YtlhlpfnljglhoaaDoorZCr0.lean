/- Joined by programs (wip/shake.py, wip/mini.py). -/
import Derived.Below
import Derived.Deep.Draws
import Derived.Deep.AppendLies
import Derived.Maps.AppendAt
import Derived.OwnWalk
import Derived.Laws.BytesArg
import Derived.Laws.MakeOwn
import Derived.Laws.OwnMore
import Derived.Deep.OwnRows
import Derived.Tactics
import Derived.Lib.ConvBytes
import Derived.Laws.Slices
import Derived.WalkKit
import Derived.KernelRfl
import Derived.RowKit3
import Derived.Deep.LoopGhost
import Derived.Deep.QuietTactic
import Derived.BigQuiet
import Derived.WideLaws
import Derived.Deep.DeepCutAuto
import Derived.Deep.CutBlock
import Derived.Deep.RegionHeld3
import Derived.Laws.Rows
import Derived.Lib.AppendStr
import Derived.ArgAppend
import Derived.Laws.IdiomCopy
import Derived.OrdersHeld
import Derived.Laws.BitsLemmas
import Derived.RowKit
import Derived.Deep.CutRange
import Derived.Lib.LaidTab
import Derived.Lib.Hide
import Derived.RegionTactic
import Derived.LoopTactic
import Derived.Outline
import Derived.WalkSpells
import Derived.LaidMore
import Derived.LaidLaws
import Derived.ProofKit
import Derived.ChangeVars
import Derived.ChangeSame
import Derived.OpenShut
import Derived.ShutString
import Derived.ChangeOld
import Derived.SizedLaws
import Derived.SevenTiedAt
import Derived.Test.YtlhlpfnljglhoaaDoorCards
import Derived.Test.YtlhlpfnljglhoaaDoorRows
import Derived.Test.YtlhlpfnljglhoaaDoorTie
import Derived.Test.YtlhlpfnljglhoaaDoorZCrV
import Derived.Test.YtlhlpfnljglhoaaDoorWSized
set_option linter.unusedVariables false
set_option linter.unusedSimpArgs false
set_option linter.unusedSectionVars false
set_option maxHeartbeats 8000000
set_option maxRecDepth 100000
open Go.Proofs.YtlhlpfnljglhoaaDoorW
namespace Go.Proofs.YtlhlpfnljglhoaaDoor.P
open Go.RowKit Go.Proofs.YtlhlpfnljglhoaaDoorW.PrintWords Go.Proofs.YtlhlpfnljglhoaaDoorW.Bb Go.Proofs.YtlhlpfnljglhoaaDoorW.Dm
theorem a_{p:Prop}(h:p):Ac p:=⟨h⟩
theorem BM{p:Prop}[Decidable p](h:p):decide p=true:=decide_eq_true h
theorem C9{p:Prop}[Decidable p](h:¬ p):decide p=false:=decide_eq_false h
theorem BR{α β:Type}{o:Option α}{f:α->Option β}{b:β}(h:o.bind f=some b):∃a,o=some a∧f a=some b:=SM.mp h
theorem CW{α:Type}{a b:α}(h:some a=some b):a=b:=S0 h
theorem FV(w:World)(a:Addr){v:Value}(h:w.cell? a=some v):a.block<w.heap.size:=Tc w a h
theorem Dr{α:Type}[BEq α][LawfulBEq α]{a b:α}(h:a≠b):(a==b)=false:=Sx.mpr h
theorem Fc{α:Type}[BEq α][LawfulBEq α]{a b:α}(h:a=b):(a != b)=false:=bne_eq_false_iff_eq.mpr h
theorem Ag{p:Prop}(h:p:=by repeat(first|(with_reducible first|exact HB.o|apply FT|apply Au|apply Ay|refine DK ?_ (Ac.o (by assumption))|refine DK ?_ (Ad.ge (Ac.o (by assumption))))|exact HB.o)):p:=h
theorem BD{W:World}{g:Nat}(w:World)(hg:g=W.heap.size)(h:Below w.heap.size w W:=by repeat(first|(with_reducible first|exact HB.o|apply FT|apply Au|apply Ay|refine DK ?_ (Ac.o (by assumption))|refine DK ?_ (Ad.ge (Ac.o (by assumption))))|exact HB.o)):Ac (w.heap.size≤g):=⟨by rw[hg];exact Af h⟩
theorem Bw{w W W1:World}(a:Below W.heap.size W W1)(h:Below w.heap.size w W:=by repeat(first|(with_reducible first|exact HB.o|apply FT|apply Au|apply Ay|refine DK ?_ (Ac.o (by assumption))|refine DK ?_ (Ad.ge (Ac.o (by assumption))))|exact HB.o)):Ac (Below w.heap.size w W1):=⟨IY h a⟩
theorem EM{α:Type}(a:α):∃y:α,y=a:=⟨a,rfl⟩
theorem EN{p:Prop}(h:p:=by first|(rw[hy_];with_reducible exact H)|(have H2_:=(TB _ _).symm.trans H;rw[hy_];with_reducible exact H2_)|(have H2_:=(TB _ _).symm.trans H;with_reducible exact H2_)|with_reducible exact H|(rw[hy_];exact H)|exact H):p:=h
theorem Bc{p q:Prop}(h:p)(f:p->q:=by intro h_;(with_reducible repeat(first|refine Fz ?_ _|refine Du ?_|refine EG ?_ _));exact h_):q:=f h
theorem AV{p q:Prop}(h:p)(f:p->q:=by intro h_;(with_reducible repeat(first|apply Kd.R_alloc|apply Kd.N2|apply Kd.D_));exact h_):q:=f h
theorem Dj{p q:Prop}(h:p)(f:p->q:=by intro h_;(with_reducible repeat(first|apply Kd.V_alloc|apply Kd.N4|apply Kd.BO));exact h_):q:=f h
theorem FR{p q:Prop}(h:p)(f:p->q:=by intro h_;(with_reducible repeat(first|apply Kd.S_alloc|apply Kd.S_drewN|apply Kd.KY));exact h_):q:=f h
theorem JV{p:Prop}(h:p:=by(try simp only[List.map_toArray,List.map_cons,List.map_nil]);first|done|rfl|(simp only[List.length_drop,List.length_take];rfl)):p:=h
theorem C8{p:Prop}(h:p:=by first|rfl|(simp[Cp,Cq] <;> rfl)|(simp[*,Cp,Cq] <;> rfl)):p:=h
theorem F0{p q:Prop}(h:p)(f:p->q:=by intro h_;repeat(first|exact(Kd.Bu h_ HB.o)|(with_reducible refine Kd.C_alloc ?_ _)|(with_reducible refine Kd.B_ ?_ _)|(with_reducible refine Kd.C_drew ?_))):q:=f h
theorem E4{p:Prop}(h:p:=by repeat(first|(with_reducible first|exact HK.o|apply Ah.QQ|apply I2|apply GH|apply keep_alloc)|exact HK.o)):p:=h
theorem D4{w w1 W:World}{g:Nat}{row:Option Nat}(h0:Ah w w1 g row)(h:Ah w W g row:=by repeat(first|(with_reducible first|exact HK.o|apply Ah.QQ|apply I2|apply GH|apply keep_alloc|refine Nn ?_ (Ac.o (by assumption)) _)|exact HK.o)):Ah w W g row:=h
theorem IH{W:World}{g:Nat}{t:TypeId}{cs:Array Value}(h:W.heap[g]?=some (.cells cs t (0,0)))(i:Nat)(v:Value)(a:cs[i]?=some v:=by exact rfl):W.cell? ⟨g,i,none⟩=some v:=(Ax h i).trans a
theorem FY{w w1 a:World}{g g':Nat}{o:Obj}(b:Ah w w1 g none)(h0:a.heap[g']?=some o)(c:g'≠g)(f:a.heap[g']?=some o->w.heap[g']?=some o:=by intro h_;(with_reducible repeat(first|refine Fz ?_ _|refine Du ?_|refine EG ?_ _));exact h_):w1.heap[g']?=some o:=b.Ex (f h0) c (by simp)
theorem Cr{w w1 a:World}{g:Nat}{o:Obj}(h0:a.heap[g]?=some o)(b:Below w.heap.size w w1)(f:a.heap[g]?=some o->w.heap[g]?=some o:=by intro h_;(with_reducible repeat(first|refine Fz ?_ _|refine Du ?_|refine EG ?_ _));exact h_):w1.heap[g]?=some o:=Ao (f h0) b
theorem Cy{P:Program}{ops:Array Oper}{Q:Exit->Act->World->Prop}{rest:List Oper}{o:Oper}{a:Act}{W:World}(N:Tmp)(cs:Array Value)(t:TypeId)
    (h:∀g,g=W.heap.size->∀w1,w1.heap[g]?=some (.cells cs t (0,0))->Below W.heap.size W w1->wpList P ops Q rest (a.put o.dst (.pointer (some ⟨g,0,none⟩))) w1)(b:o.dst=some N:=by exact rfl)(hg:o.guard=none:=by exact rfl)
    (c:(execOp a.eval o).run P W=.ok (.value (.pointer (some ⟨W.heap.size,0,none⟩))) (W.alloc (.cells cs t (0,0))):=by first|(go_simp;done)|(go_simp;rfl)):wpList P ops Q (o::rest) a W:=Gz hg b c h
theorem E9{p q:Prop}(h:p)(f:p->q:=by intro h_;repeat(first|exact h_|(with_reducible refine Kd.C_alloc ?_ _)|(with_reducible refine Kd.B_ ?_ _)|(with_reducible refine Kd.C_drew ?_))):q:=f h
theorem DN{p:Prop}(h:p:=by repeat(first|(with_reducible first|exact HG.o|apply Cm.drewN|apply Cm.drew)|exact HG.o)):p:=h
theorem Bv{p:Prop}[d:Decidable p](h:decide p=true:=by first|(with_reducible assumption)|assumption):p:=Tw h
theorem CA{p:Prop}(h:p:=by first|rfl|(simp;done)|(simp[*];done)):p:=h
theorem Az{w w':World}{p:Addr}{v:Value}(a:Below w.heap.size w w')(h:w.cell? p=some v):w'.cell? p=some v:=(a.cell (FV w _ h)).trans h
theorem BW{P:Program}{ops:Array Oper}{Q:Exit->Act->World->Prop}{rest:List Oper}{g:Oper}{a:Act}{w:World}(n:Tmp){f:FuncId}{fn:Func}(l:P.funcs[f]?=some fn)(args:Array Value){d:Array Operand}{m:Array TypeId}
    (h:Calls P f args w λe w'=>∃v,e=.returned v∧wpList P ops Q rest (a.put (some n) v) w')(k:g.dst=some n:=by exact rfl)(hg:g.guard=none:=by exact rfl)
    (c:(fn.name == "runtime.NumGoroutine")=false:=by kernel_rfl)(j:fn.body.isSome=true:=by exact rfl)(i:g.op=.call { callee:=.value (.func f),args:=d,argTypes:=m }:=by exact rfl)
    (b:d.map a.eval=args:=by(try simp only[List.map_toArray,List.map_cons,List.map_nil]);first|done|rfl|(simp only[List.length_drop,List.length_take];rfl)):wpList P ops Q (g::rest) a w:=G1 (some n) k hg l c j args i b h
theorem Bf{P:Program}{md:Region.Mode}{ops:Array Oper}{Q:Exit->Act->World->Prop}{S:World->Prop}{ds:List Nat}(i:Nat)(n:Tmp){b:Oper}{v:Value}{fuel:Nat}{l:Array Bool}{a:Act}{w:World}{a':Act}
    (h:AB P md ops Q S ds fuel (l.setIfInBounds i true) a' w)(hi:ops[i]?=some b:=by exact rfl)(hN:b.dst=some n:=by exact rfl)(g:Ma md ops l (l.setIfInBounds i true) i=true:=by first|exact GX HT_.o (by kernel_rfl)|kernel_rfl)
    (d:∀c a w,Q (.panic c) (a.put b.dst v) w->Q (.panic c) a w:=by exact λ_ _ _ h=>h)(j:Yields P ops b v a:=by exact Or.inl ⟨by rfl,by intro w';go_simp;with_reducible rfl⟩)
    (e:a.put (some n) v=a':=by simp only[Act.put,List.setIfInBounds_toArray,List.set_cons_zero,List.set_cons_succ,BJ,BP];rfl):AB P md ops Q S ds (fuel+1) l a w:=It _ hi hN g d j e h
theorem DD{P:Program}{md:Region.Mode}{ops:Array Oper}{Q:Exit->Act->World->Prop}{S:World->Prop}{ds:List Nat}(i:Nat)(n:Tmp){b:Oper}{fuel:Nat}{l:Array Bool}{a:Act}{w:World}{a':Act}
    (h:AB P md ops Q S ds fuel (l.setIfInBounds i true) a' w)(hi:ops[i]?=some b:=by exact rfl)(hN:b.dst=some n:=by exact rfl)(g:Ma md ops l (l.setIfInBounds i true) i=true:=by first|exact GX HT_.o (by kernel_rfl)|kernel_rfl)
    (d:∀c a w,Q (.panic c) (a.put b.dst undef) w->Q (.panic c) a w:=by exact λ_ _ _ h=>h)(j:Yields P ops b undef a:=by exact Or.inr ⟨by rfl,rfl⟩)
    (e:a.put (some n) undef=a':=by simp only[Act.put,List.setIfInBounds_toArray,List.set_cons_zero,List.set_cons_succ,BJ,BP];rfl):AB P md ops Q S ds (fuel+1) l a w:=It _ hi hN g d j e h
theorem E7{P:Program}{md:Region.Mode}{ops:Array Oper}{Q:Exit->Act->World->Prop}{S:World->Prop}{ds:List Nat}(i:Nat)(n:Tmp){b:Oper}{fuel:Nat}{l:Array Bool}{a:Act}{w:World}
    (h:∀K:Act->World->Prop,Shut (∀a' w',S w'->(S w'->AB P md ops Q S ds fuel (l.setIfInBounds i true) a' w')->K a' w')->if Region.wanted b (yielded ops a.tmps)=true then Oper.wp P b a w K Q else K (a.put (some n) undef) w)
    (hi:ops[i]?=some b:=by exact rfl)(hN:b.dst=some n:=by exact rfl)(c:G8 md ops l (l.setIfInBounds i true) i=true:=by first|exact Gc HT_.o (by kernel_rfl)|kernel_rfl)(d:i∉ds:=by decide):AB P md ops Q S ds (fuel+1) l a w:=J_ _ hi hN c d h
theorem Er(n:Tmp){P:Program}{md:Region.Mode}{ops:Array Oper}{Q:Exit->Act->World->Prop}{S:World->Prop}{ds:List Nat}{fuel:Nat}{l:Array Bool}{a a':Act}{v:Value}{w:World}(h:AB P md ops Q S ds fuel l a' w)
    (b:a.put (some n) v=a':=by simp only[Act.put,List.setIfInBounds_toArray,List.set_cons_zero,List.set_cons_succ,BJ,BP];rfl):AB P md ops Q S ds fuel l (a.put (some n) v) w:=FI b h
theorem P0{P:Program}{md:Region.Mode}{ops:Array Oper}{Q:Exit->Act->World->Prop}{S:World->Prop}{ds:List Nat}(i:Nat)(n:Tmp){b:Oper}{v:Value}{fuel:Nat}{l:Array Bool}{a:Act}{w:World}{a':Act}(e:S w)
    (h:AB P md ops Q S ds fuel (l.setIfInBounds i true) a' w)(hi:ops[i]?=some b:=by exact rfl)(hN:b.dst=some n:=by exact rfl)(j:EU md ops ds l (l.setIfInBounds i true) i=true:=by first|exact C2 HT_.o HW_.o (by kernel_rfl)|kernel_rfl)
    (d:∀c a w,Q (.panic c) (a.put b.dst v) w->Q (.panic c) a w:=by exact λ_ _ _ h=>h)(k:YieldsIf P ops S b v a:=by exact Or.inl ⟨by rfl,by intro w' s0;go_simp;with_reducible rfl⟩)
    (g:a.put (some n) v=a':=by simp only[Act.put,List.setIfInBounds_toArray,List.set_cons_zero,List.set_cons_succ,BJ,BP];rfl):AB P md ops Q S ds (fuel+1) l a w:=Es _ hi hN j d k e g h
theorem KQ{P:Program}{md:Region.Mode}{ops:Array Oper}{Q:Exit->Act->World->Prop}{S:World->Prop}{ds:List Nat}(i:Nat)(n:Tmp){b:Oper}{v:Value}{fuel:Nat}{l:Array Bool}{a:Act}{w:World}{a':Act}(e:S w)
    (h:AB P md ops Q S ds fuel (l.setIfInBounds i true) a' w)(hi:ops[i]?=some b:=by exact rfl)(hN:b.dst=some n:=by exact rfl)(j:EU md ops ds l (l.setIfInBounds i true) i=true:=by first|exact C2 HT_.o HW_.o (by kernel_rfl)|kernel_rfl)
    (d:∀c a w,Q (.panic c) (a.put b.dst v) w->Q (.panic c) a w:=by exact λ_ _ _ h=>h)(k:YieldsIf P ops S b v a:=by exact Or.inl ⟨by rfl,by rintro w' ⟨s0,s1⟩;go_simp;with_reducible rfl⟩)
    (g:a.put (some n) v=a':=by simp only[Act.put,List.setIfInBounds_toArray,List.set_cons_zero,List.set_cons_succ,BJ,BP];rfl):AB P md ops Q S ds (fuel+1) l a w:=Es _ hi hN j d k e g h
theorem NH{P:Program}{md:Region.Mode}{ops:Array Oper}{Q:Exit->Act->World->Prop}{S:World->Prop}{ds:List Nat}(i:Nat)(n:Tmp){b:Oper}{v:Value}{fuel:Nat}{l:Array Bool}{a:Act}{w:World}{a':Act}(e:S w)
    (h:AB P md ops Q S ds fuel (l.setIfInBounds i true) a' w)(hi:ops[i]?=some b:=by exact rfl)(hN:b.dst=some n:=by exact rfl)(j:EU md ops ds l (l.setIfInBounds i true) i=true:=by first|exact C2 HT_.o HW_.o (by kernel_rfl)|kernel_rfl)
    (d:∀c a w,Q (.panic c) (a.put b.dst v) w->Q (.panic c) a w:=by exact λ_ _ _ h=>h)(k:YieldsIf P ops S b v a:=by exact Or.inl ⟨by rfl,by rintro w' ⟨s0,s1,s2⟩;go_simp;with_reducible rfl⟩)
    (g:a.put (some n) v=a':=by simp only[Act.put,List.setIfInBounds_toArray,List.set_cons_zero,List.set_cons_succ,BJ,BP];rfl):AB P md ops Q S ds (fuel+1) l a w:=Es _ hi hN j d k e g h
theorem QS{P:Program}{md:Region.Mode}{ops:Array Oper}{Q:Exit->Act->World->Prop}{S:World->Prop}{ds:List Nat}(i:Nat)(n:Tmp){b:Oper}{v:Value}{fuel:Nat}{l:Array Bool}{a:Act}{w:World}{a':Act}(e:S w)
    (h:AB P md ops Q S ds fuel (l.setIfInBounds i true) a' w)(hi:ops[i]?=some b:=by exact rfl)(hN:b.dst=some n:=by exact rfl)(j:EU md ops ds l (l.setIfInBounds i true) i=true:=by first|exact C2 HT_.o HW_.o (by kernel_rfl)|kernel_rfl)
    (d:∀c a w,Q (.panic c) (a.put b.dst v) w->Q (.panic c) a w:=by exact λ_ _ _ h=>h)(k:YieldsIf P ops S b v a:=by exact Or.inl ⟨by rfl,by rintro w' ⟨s0,s1,s2,s3,s4⟩;go_simp;with_reducible rfl⟩)
    (g:a.put (some n) v=a':=by simp only[Act.put,List.setIfInBounds_toArray,List.set_cons_zero,List.set_cons_succ,BJ,BP];rfl):AB P md ops Q S ds (fuel+1) l a w:=Es _ hi hN j d k e g h
theorem NI{P:Program}{md:Region.Mode}{ops:Array Oper}{Q:Exit->Act->World->Prop}{S:World->Prop}{ds:List Nat}(i:Nat)(n:Tmp){b:Oper}{v:Value}{fuel:Nat}{l:Array Bool}{a:Act}{w:World}{a':Act}(e:S w)
    (h:AB P md ops Q S ds fuel (l.setIfInBounds i true) a' w)(hi:ops[i]?=some b:=by exact rfl)(hN:b.dst=some n:=by exact rfl)(j:EU md ops ds l (l.setIfInBounds i true) i=true:=by first|exact C2 HT_.o HW_.o (by kernel_rfl)|kernel_rfl)
    (d:∀c a w,Q (.panic c) (a.put b.dst v) w->Q (.panic c) a w:=by exact λ_ _ _ h=>h)(k:YieldsIf P ops S b v a:=by exact Or.inl ⟨by rfl,by rintro w' ⟨s0,s1,s2,s3,s4,s5⟩;go_simp;with_reducible rfl⟩)
    (g:a.put (some n) v=a':=by simp only[Act.put,List.setIfInBounds_toArray,List.set_cons_zero,List.set_cons_succ,BJ,BP];rfl):AB P md ops Q S ds (fuel+1) l a w:=Es _ hi hN j d k e g h
theorem IE{P:Program}{md:Region.Mode}{ops:Array Oper}{Q:Exit->Act->World->Prop}{S:World->Prop}{ds:List Nat}(i:Nat)(n:Tmp){b:Oper}{v:Value}{fuel:Nat}{l:Array Bool}{a:Act}{w:World}{a':Act}(e:S w)
    (h:AB P md ops Q S ds fuel (l.setIfInBounds i true) a' w)(hi:ops[i]?=some b:=by exact rfl)(hN:b.dst=some n:=by exact rfl)(j:EU md ops ds l (l.setIfInBounds i true) i=true:=by first|exact C2 HT_.o HW_.o (by kernel_rfl)|kernel_rfl)
    (d:∀c a w,Q (.panic c) (a.put b.dst v) w->Q (.panic c) a w:=by exact λ_ _ _ h=>h)(k:YieldsIf P ops S b v a:=by exact Or.inl ⟨by rfl,by rintro w' ⟨s0,s1,s2,s3,s4,s5,s6⟩;go_simp;with_reducible rfl⟩)
    (g:a.put (some n) v=a':=by simp only[Act.put,List.setIfInBounds_toArray,List.set_cons_zero,List.set_cons_succ,BJ,BP];rfl):AB P md ops Q S ds (fuel+1) l a w:=Es _ hi hN j d k e g h
theorem QT{P:Program}{md:Region.Mode}{ops:Array Oper}{Q:Exit->Act->World->Prop}{S:World->Prop}{ds:List Nat}(i:Nat)(n:Tmp){b:Oper}{v:Value}{fuel:Nat}{l:Array Bool}{a:Act}{w:World}{a':Act}(e:S w)
    (h:AB P md ops Q S ds fuel (l.setIfInBounds i true) a' w)(hi:ops[i]?=some b:=by exact rfl)(hN:b.dst=some n:=by exact rfl)(j:EU md ops ds l (l.setIfInBounds i true) i=true:=by first|exact C2 HT_.o HW_.o (by kernel_rfl)|kernel_rfl)
    (d:∀c a w,Q (.panic c) (a.put b.dst v) w->Q (.panic c) a w:=by exact λ_ _ _ h=>h)(k:YieldsIf P ops S b v a:=by exact Or.inl ⟨by rfl,by rintro w' ⟨s0,s1,s2,s3,s4,s5,s6,s7⟩;go_simp;with_reducible rfl⟩)
    (g:a.put (some n) v=a':=by simp only[Act.put,List.setIfInBounds_toArray,List.set_cons_zero,List.set_cons_succ,BJ,BP];rfl):AB P md ops Q S ds (fuel+1) l a w:=Es _ hi hN j d k e g h
theorem P1{P:Program}{md:Region.Mode}{ops:Array Oper}{Q:Exit->Act->World->Prop}{S:World->Prop}{ds:List Nat}(i:Nat)(n:Tmp){b:Oper}{v:Value}{fuel:Nat}{l:Array Bool}{a:Act}{w:World}{a':Act}(e:S w)
    (h:AB P md ops Q S ds fuel (l.setIfInBounds i true) a' w)(hi:ops[i]?=some b:=by exact rfl)(hN:b.dst=some n:=by exact rfl)(j:EU md ops ds l (l.setIfInBounds i true) i=true:=by first|exact C2 HT_.o HW_.o (by kernel_rfl)|kernel_rfl)
    (d:∀c a w,Q (.panic c) (a.put b.dst v) w->Q (.panic c) a w:=by exact λ_ _ _ h=>h)(k:YieldsIf P ops S b v a:=by exact Or.inl ⟨by rfl,by rintro w' ⟨s0,s1,s2,s3,s4,s5,s6,s7,s8⟩;go_simp;with_reducible rfl⟩)
    (g:a.put (some n) v=a':=by simp only[Act.put,List.setIfInBounds_toArray,List.set_cons_zero,List.set_cons_succ,BJ,BP];rfl):AB P md ops Q S ds (fuel+1) l a w:=Es _ hi hN j d k e g h
theorem I7{P:Program}{md:Region.Mode}{ops:Array Oper}{Q:Exit->Act->World->Prop}{S:World->Prop}{ds:List Nat}(i:Nat)(n:Tmp){b:Oper}{v:Value}{fuel:Nat}{l:Array Bool}{a:Act}{w:World}{a':Act}(e:S w)
    (h:AB P md ops Q S ds fuel (l.setIfInBounds i true) a' w)(hi:ops[i]?=some b:=by exact rfl)(hN:b.dst=some n:=by exact rfl)(j:EU md ops ds l (l.setIfInBounds i true) i=true:=by first|exact C2 HT_.o HW_.o (by kernel_rfl)|kernel_rfl)
    (d:∀c a w,Q (.panic c) (a.put b.dst v) w->Q (.panic c) a w:=by exact λ_ _ _ h=>h)(k:YieldsIf P ops S b v a:=by exact Or.inl ⟨by rfl,by rintro w' ⟨s0,s1,s2,s3,s4,s5,s6,s7,s8,s9⟩;go_simp;with_reducible rfl⟩)
    (g:a.put (some n) v=a':=by simp only[Act.put,List.setIfInBounds_toArray,List.set_cons_zero,List.set_cons_succ,BJ,BP];rfl):AB P md ops Q S ds (fuel+1) l a w:=Es _ hi hN j d k e g h
theorem F5{P:Program}{md:Region.Mode}{ops:Array Oper}{Q:Exit->Act->World->Prop}{S:World->Prop}{ds:List Nat}(i:Nat)(n:Tmp){b:Oper}{v:Value}{fuel:Nat}{l:Array Bool}{a:Act}{w:World}{a':Act}(e:S w)
    (h:AB P md ops Q S ds fuel (l.setIfInBounds i true) a' w)(hi:ops[i]?=some b:=by exact rfl)(hN:b.dst=some n:=by exact rfl)(j:EU md ops ds l (l.setIfInBounds i true) i=true:=by first|exact C2 HT_.o HW_.o (by kernel_rfl)|kernel_rfl)
    (d:∀c a w,Q (.panic c) (a.put b.dst v) w->Q (.panic c) a w:=by exact λ_ _ _ h=>h)(k:YieldsIf P ops S b v a:=by exact Or.inl ⟨by rfl,by rintro w' ⟨s0,s1,s2,s3,s4,s5,s6,s7,s8,s9,s10⟩;go_simp;with_reducible rfl⟩)
    (g:a.put (some n) v=a':=by simp only[Act.put,List.setIfInBounds_toArray,List.set_cons_zero,List.set_cons_succ,BJ,BP];rfl):AB P md ops Q S ds (fuel+1) l a w:=Es _ hi hN j d k e g h
theorem O_{P:Program}{md:Region.Mode}{ops:Array Oper}{Q:Exit->Act->World->Prop}{S:World->Prop}{ds:List Nat}(i:Nat)(n:Tmp){b:Oper}{v:Value}{fuel:Nat}{l:Array Bool}{a:Act}{w:World}{a':Act}(e:S w)
    (h:AB P md ops Q S ds fuel (l.setIfInBounds i true) a' w)(hi:ops[i]?=some b:=by exact rfl)(hN:b.dst=some n:=by exact rfl)(j:EU md ops ds l (l.setIfInBounds i true) i=true:=by first|exact C2 HT_.o HW_.o (by kernel_rfl)|kernel_rfl)
    (d:∀c a w,Q (.panic c) (a.put b.dst v) w->Q (.panic c) a w:=by exact λ_ _ _ h=>h)(k:YieldsIf P ops S b v a:=by exact Or.inl ⟨by rfl,by rintro w' ⟨s0,s1,s2,s3,s4,s5,s6,s7,s8,s9,s10,s11⟩;go_simp;with_reducible rfl⟩)
    (g:a.put (some n) v=a':=by simp only[Act.put,List.setIfInBounds_toArray,List.set_cons_zero,List.set_cons_succ,BJ,BP];rfl):AB P md ops Q S ds (fuel+1) l a w:=Es _ hi hN j d k e g h
theorem Fg{P:Program}{md:Region.Mode}{ops:Array Oper}{Q:Exit->Act->World->Prop}{S:World->Prop}{ds:List Nat}(i:Nat)(n:Tmp){b:Oper}{v:Value}{fuel:Nat}{l:Array Bool}{a:Act}{w:World}{a':Act}(e:S w)
    (h:AB P md ops Q S ds fuel (l.setIfInBounds i true) a' w)(hi:ops[i]?=some b:=by exact rfl)(hN:b.dst=some n:=by exact rfl)(j:EU md ops ds l (l.setIfInBounds i true) i=true:=by first|exact C2 HT_.o HW_.o (by kernel_rfl)|kernel_rfl)
    (d:∀c a w,Q (.panic c) (a.put b.dst v) w->Q (.panic c) a w:=by exact λ_ _ _ h=>h)(k:YieldsIf P ops S b v a:=by exact Or.inl ⟨by rfl,by rintro w' ⟨s0,s1,s2,s3,s4,s5,s6,s7,s8,s9,s10,s11,s12⟩;go_simp;with_reducible rfl⟩)
    (g:a.put (some n) v=a':=by simp only[Act.put,List.setIfInBounds_toArray,List.set_cons_zero,List.set_cons_succ,BJ,BP];rfl):AB P md ops Q S ds (fuel+1) l a w:=Es _ hi hN j d k e g h
theorem NG{P:Program}{md:Region.Mode}{ops:Array Oper}{Q:Exit->Act->World->Prop}{S:World->Prop}{ds:List Nat}(i:Nat)(n:Tmp){b:Oper}{v:Value}{fuel:Nat}{l:Array Bool}{a:Act}{w:World}{a':Act}(e:S w)
    (h:AB P md ops Q S ds fuel (l.setIfInBounds i true) a' w)(hi:ops[i]?=some b:=by exact rfl)(hN:b.dst=some n:=by exact rfl)(j:EU md ops ds l (l.setIfInBounds i true) i=true:=by first|exact C2 HT_.o HW_.o (by kernel_rfl)|kernel_rfl)
    (d:∀c a w,Q (.panic c) (a.put b.dst v) w->Q (.panic c) a w:=by exact λ_ _ _ h=>h)(k:YieldsIf P ops S b v a:=by exact Or.inl ⟨by rfl,by rintro w' ⟨s0,s1,s2,s3,s4,s5,s6,s7,s8,s9,s10,s11,s12,s13,s14,s15⟩;go_simp;with_reducible rfl⟩)
    (g:a.put (some n) v=a':=by simp only[Act.put,List.setIfInBounds_toArray,List.set_cons_zero,List.set_cons_succ,BJ,BP];rfl):AB P md ops Q S ds (fuel+1) l a w:=Es _ hi hN j d k e g h
theorem KP{P:Program}{md:Region.Mode}{ops:Array Oper}{Q:Exit->Act->World->Prop}{S:World->Prop}{ds:List Nat}(i:Nat)(n:Tmp){b:Oper}{v:Value}{fuel:Nat}{l:Array Bool}{a:Act}{w:World}{a':Act}(e:S w)
    (h:AB P md ops Q S ds fuel (l.setIfInBounds i true) a' w)(hi:ops[i]?=some b:=by exact rfl)(hN:b.dst=some n:=by exact rfl)(j:EU md ops ds l (l.setIfInBounds i true) i=true:=by first|exact C2 HT_.o HW_.o (by kernel_rfl)|kernel_rfl)
    (d:∀c a w,Q (.panic c) (a.put b.dst v) w->Q (.panic c) a w:=by exact λ_ _ _ h=>h)(k:YieldsIf P ops S b v a:=by exact Or.inl ⟨by rfl,by rintro w' ⟨s0,s1,s2,s3,s4,s5,s6,s7,s8,s9,s10,s11,s12,s13,s14,s15,s16,s17⟩;go_simp;with_reducible rfl⟩)
    (g:a.put (some n) v=a':=by simp only[Act.put,List.setIfInBounds_toArray,List.set_cons_zero,List.set_cons_succ,BJ,BP];rfl):AB P md ops Q S ds (fuel+1) l a w:=Es _ hi hN j d k e g h
theorem Ix{P:Program}{md:Region.Mode}{ops:Array Oper}{Q:Exit->Act->World->Prop}{S:World->Prop}{ds:List Nat}(i:Nat)(n:Tmp){b:Oper}{v:Value}{fuel:Nat}{l:Array Bool}{a:Act}{w:World}{a':Act}(e:S w)
    (h:AB P md ops Q S ds fuel (l.setIfInBounds i true) a' w)(hi:ops[i]?=some b:=by exact rfl)(hN:b.dst=some n:=by exact rfl)(j:EU md ops ds l (l.setIfInBounds i true) i=true:=by first|exact C2 HT_.o HW_.o (by kernel_rfl)|kernel_rfl)
    (d:∀c a w,Q (.panic c) (a.put b.dst v) w->Q (.panic c) a w:=by exact λ_ _ _ h=>h)(k:YieldsIf P ops S b v a:=by exact Or.inl ⟨by rfl,by rintro w' ⟨s0,s1,s2,s3,s4,s5,s6,s7,s8,s9,s10,s11,s12,s13,s14,s15,s16,s17,s18,s19⟩;go_simp;with_reducible rfl⟩)
    (g:a.put (some n) v=a':=by simp only[Act.put,List.setIfInBounds_toArray,List.set_cons_zero,List.set_cons_succ,BJ,BP];rfl):AB P md ops Q S ds (fuel+1) l a w:=Es _ hi hN j d k e g h
theorem JF{P:Program}{md:Region.Mode}{ops:Array Oper}{Q:Exit->Act->World->Prop}{S:World->Prop}{ds:List Nat}(i:Nat)(n:Tmp){b:Oper}{v:Value}{fuel:Nat}{l:Array Bool}{a:Act}{w:World}{a':Act}(e:S w)
    (h:AB P md ops Q S ds fuel (l.setIfInBounds i true) a' w)(hi:ops[i]?=some b:=by exact rfl)(hN:b.dst=some n:=by exact rfl)(j:EU md ops ds l (l.setIfInBounds i true) i=true:=by first|exact C2 HT_.o HW_.o (by kernel_rfl)|kernel_rfl)
    (d:∀c a w,Q (.panic c) (a.put b.dst v) w->Q (.panic c) a w:=by exact λ_ _ _ h=>h)(k:YieldsIf P ops S b v a:=by exact Or.inl ⟨by rfl,by rintro w' ⟨s0,s1,s2,s3,s4,s5,s6,s7,s8,s9,s10,s11,s12,s13,s14,s15,s16,s17,s18,s19,s20⟩;go_simp;with_reducible rfl⟩)
    (g:a.put (some n) v=a':=by simp only[Act.put,List.setIfInBounds_toArray,List.set_cons_zero,List.set_cons_succ,BJ,BP];rfl):AB P md ops Q S ds (fuel+1) l a w:=Es _ hi hN j d k e g h
theorem DV{W:World}{g:Nat}{t:TypeId}{v0 v1 v2:Value}(h:W.heap[g]?=some (.cells #[v0,v1,v2] t (0,0))):W.cell? ⟨g,0,none⟩=some v0∧W.cell? ⟨g,1,none⟩=some v1∧W.cell? ⟨g,2,none⟩=some v2∧W.frozen? ⟨g,0,none⟩=false∧W.frozen? ⟨g,1,none⟩=false∧W.frozen? ⟨g,2,none⟩=false:=⟨(Ax h 0).trans rfl,(Ax h 1).trans rfl,(Ax h 2).trans rfl,BU h 0,BU h 1,BU h 2⟩
theorem CI{W:World}{g:Nat}{t:TypeId}{v0 v1 v2 v3 v4:Value}(h:W.heap[g]?=some (.cells #[v0,v1,v2,v3,v4] t (0,0))):W.cell? ⟨g,0,none⟩=some v0∧W.cell? ⟨g,1,none⟩=some v1∧W.cell? ⟨g,2,none⟩=some v2∧W.cell? ⟨g,3,none⟩=some v3∧W.cell? ⟨g,4,none⟩=some v4∧W.frozen? ⟨g,0,none⟩=false∧W.frozen? ⟨g,1,none⟩=false∧W.frozen? ⟨g,2,none⟩=false∧W.frozen? ⟨g,3,none⟩=false∧W.frozen? ⟨g,4,none⟩=false:=⟨(Ax h 0).trans rfl,(Ax h 1).trans rfl,(Ax h 2).trans rfl,(Ax h 3).trans rfl,(Ax h 4).trans rfl,BU h 0,BU h 1,BU h 2,BU h 3,BU h 4⟩
theorem BT{W:World}{g:Nat}{t:TypeId}{v0 v1 v2 v3 v4 a:Value}(h:W.heap[g]?=some (.cells #[v0,v1,v2,v3,v4,a] t (0,0))):W.cell? ⟨g,0,none⟩=some v0∧W.cell? ⟨g,1,none⟩=some v1∧W.cell? ⟨g,2,none⟩=some v2∧W.cell? ⟨g,3,none⟩=some v3∧W.cell? ⟨g,4,none⟩=some v4∧W.cell? ⟨g,5,none⟩=some a∧W.frozen? ⟨g,0,none⟩=false∧W.frozen? ⟨g,1,none⟩=false∧W.frozen? ⟨g,2,none⟩=false∧W.frozen? ⟨g,3,none⟩=false∧W.frozen? ⟨g,4,none⟩=false∧W.frozen? ⟨g,5,none⟩=false:=⟨(Ax h 0).trans rfl,(Ax h 1).trans rfl,(Ax h 2).trans rfl,(Ax h 3).trans rfl,(Ax h 4).trans rfl,(Ax h 5).trans rfl,BU h 0,BU h 1,BU h 2,BU h 3,BU h 4,BU h 5⟩
theorem DC{W:World}{g:Nat}{t:TypeId}{v0 v1 v2 v3 v4 a v6:Value}(h:W.heap[g]?=some (.cells #[v0,v1,v2,v3,v4,a,v6] t (0,0))):W.cell? ⟨g,0,none⟩=some v0∧W.cell? ⟨g,1,none⟩=some v1∧W.cell? ⟨g,2,none⟩=some v2∧W.cell? ⟨g,3,none⟩=some v3∧W.cell? ⟨g,4,none⟩=some v4∧W.cell? ⟨g,5,none⟩=some a∧W.cell? ⟨g,6,none⟩=some v6∧W.frozen? ⟨g,0,none⟩=false∧W.frozen? ⟨g,1,none⟩=false∧W.frozen? ⟨g,2,none⟩=false∧W.frozen? ⟨g,3,none⟩=false∧W.frozen? ⟨g,4,none⟩=false∧W.frozen? ⟨g,5,none⟩=false∧W.frozen? ⟨g,6,none⟩=false:=⟨(Ax h 0).trans rfl,(Ax h 1).trans rfl,(Ax h 2).trans rfl,(Ax h 3).trans rfl,(Ax h 4).trans rfl,(Ax h 5).trans rfl,(Ax h 6).trans rfl,BU h 0,BU h 1,BU h 2,BU h 3,BU h 4,BU h 5,BU h 6⟩
theorem Rt{W:World}{g:Nat}{t:TypeId}{a b b0 b1:Value}(h:W.heap[g]?=some (.cells #[b0,b1] t (0,0))):((W.setCell ⟨g,0,none⟩ a).setCell ⟨g,1,none⟩ b).heap[g]?=some (.cells #[a,b] t (0,0)):=BF (cs:=#[a,b1]) (BF (cs:=#[b0,b1]) h 0 _ rfl) 1 _ rfl
theorem Qx{W:World}{g:Nat}{t:TypeId}{a b c b0 b1 b2:Value}(h:W.heap[g]?=some (.cells #[b0,b1,b2] t (0,0))):(((W.setCell ⟨g,0,none⟩ a).setCell ⟨g,1,none⟩ b).setCell ⟨g,2,none⟩ c).heap[g]?=some (.cells #[a,b,c] t (0,0)):=BF (cs:=#[a,b,b2]) (BF (cs:=#[a,b1,b2]) (BF (cs:=#[b0,b1,b2]) h 0 _ rfl) 1 _ rfl) 2 _ rfl
theorem Qy{W:World}{g:Nat}{t:TypeId}{a b c d e b0 b1 b2 b3 b4:Value}(h:W.heap[g]?=some (.cells #[b0,b1,b2,b3,b4] t (0,0))):(((((W.setCell ⟨g,0,none⟩ a).setCell ⟨g,1,none⟩ b).setCell ⟨g,2,none⟩ c).setCell ⟨g,3,none⟩ d).setCell ⟨g,4,none⟩ e).heap[g]?=some (.cells #[a,b,c,d,e] t (0,0)):=BF (cs:=#[a,b,c,d,b4]) (BF (cs:=#[a,b,c,b3,b4]) (BF (cs:=#[a,b,b2,b3,b4]) (BF (cs:=#[a,b1,b2,b3,b4]) (BF (cs:=#[b0,b1,b2,b3,b4]) h 0 _ rfl) 1 _ rfl) 2 _ rfl) 3 _ rfl) 4 _ rfl
theorem Qz{W:World}{g:Nat}{t:TypeId}{a b c d e i b0 b1 b2 b3 b4 b5:Value}(h:W.heap[g]?=some (.cells #[b0,b1,b2,b3,b4,b5] t (0,0))):((((((W.setCell ⟨g,0,none⟩ a).setCell ⟨g,1,none⟩ b).setCell ⟨g,2,none⟩ c).setCell ⟨g,3,none⟩ d).setCell ⟨g,4,none⟩ e).setCell ⟨g,5,none⟩ i).heap[g]?=some (.cells #[a,b,c,d,e,i] t (0,0)):=BF (cs:=#[a,b,c,d,e,b5]) (BF (cs:=#[a,b,c,d,b4,b5]) (BF (cs:=#[a,b,c,b3,b4,b5]) (BF (cs:=#[a,b,b2,b3,b4,b5]) (BF (cs:=#[a,b1,b2,b3,b4,b5]) (BF (cs:=#[b0,b1,b2,b3,b4,b5]) h 0 _ rfl) 1 _ rfl) 2 _ rfl) 3 _ rfl) 4 _ rfl) 5 _ rfl
theorem Q4{W:World}{g:Nat}{t:TypeId}{a c d e i j k b0 b1 b2 b3 b4 b5 b:Value}(h:W.heap[g]?=some (.cells #[b0,b1,b2,b3,b4,b5,b] t (0,0))):(((((((W.setCell ⟨g,0,none⟩ a).setCell ⟨g,1,none⟩ c).setCell ⟨g,2,none⟩ d).setCell ⟨g,3,none⟩ e).setCell ⟨g,4,none⟩ i).setCell ⟨g,5,none⟩ j).setCell ⟨g,6,none⟩ k).heap[g]?=some (.cells #[a,c,d,e,i,j,k] t (0,0)):=BF (cs:=#[a,c,d,e,i,j,b]) (BF (cs:=#[a,c,d,e,i,b5,b]) (BF (cs:=#[a,c,d,e,b4,b5,b]) (BF (cs:=#[a,c,d,b3,b4,b5,b]) (BF (cs:=#[a,c,b2,b3,b4,b5,b]) (BF (cs:=#[a,b1,b2,b3,b4,b5,b]) (BF (cs:=#[b0,b1,b2,b3,b4,b5,b]) h 0 _ rfl) 1 _ rfl) 2 _ rfl) 3 _ rfl) 4 _ rfl) 5 _ rfl) 6 _ rfl
theorem CZ{p q a:Prop}(b:a)(h:p)(f:p->a->q:=by intro h_ n0_;(with_reducible repeat(first|refine Fz ?_ _|refine Du ?_|refine EG ?_ _|refine FA ?_ n0_ _));exact h_):q:=f h b
theorem Ol{p q:Prop}(h:p)(f:p->q:=by intro h_;(with_reducible repeat(first|refine Fz ?_ _|refine Du ?_|refine EG ?_ _));apply Qx;(with_reducible repeat(first|refine Fz ?_ _|refine Du ?_|refine EG ?_ _));exact h_):q:=f h
theorem Nl{p q a:Prop}(b:a)(h:p)(f:p->a->q:=by intro h_ n0_;(with_reducible repeat(first|refine Fz ?_ _|refine Du ?_|refine EG ?_ _|refine FA ?_ n0_ _));apply Qx;(with_reducible repeat(first|refine Fz ?_ _|refine Du ?_|refine EG ?_ _|refine FA ?_ n0_ _));exact h_):q:=f h b
theorem GN{p q:Prop}(h:p)(f:p->q:=by intro h_;(with_reducible repeat(first|refine Fz ?_ _|refine Du ?_|refine EG ?_ _));apply Qy;(with_reducible repeat(first|refine Fz ?_ _|refine Du ?_|refine EG ?_ _));exact h_):q:=f h
theorem Hs{p q a:Prop}(b:a)(h:p)(f:p->a->q:=by intro h_ n0_;(with_reducible repeat(first|refine Fz ?_ _|refine Du ?_|refine EG ?_ _|refine FA ?_ n0_ _));apply Qy;(with_reducible repeat(first|refine Fz ?_ _|refine Du ?_|refine EG ?_ _|refine FA ?_ n0_ _));exact h_):q:=f h b
theorem F4{p q:Prop}(h:p)(f:p->q:=by intro h_;(with_reducible repeat(first|refine Fz ?_ _|refine Du ?_|refine EG ?_ _));apply Qz;(with_reducible repeat(first|refine Fz ?_ _|refine Du ?_|refine EG ?_ _));exact h_):q:=f h
theorem Hu{p q a:Prop}(b:a)(h:p)(f:p->a->q:=by intro h_ n0_;(with_reducible repeat(first|refine Fz ?_ _|refine Du ?_|refine EG ?_ _|refine FA ?_ n0_ _));apply Qz;(with_reducible repeat(first|refine Fz ?_ _|refine Du ?_|refine EG ?_ _|refine FA ?_ n0_ _));exact h_):q:=f h b
theorem IB{p q:Prop}(h:p)(f:p->q:=by intro h_;(with_reducible repeat(first|refine Fz ?_ _|refine Du ?_|refine EG ?_ _));apply Q4;(with_reducible repeat(first|refine Fz ?_ _|refine Du ?_|refine EG ?_ _));exact h_):q:=f h
theorem Mu{α:Type}{d:Kd α}{e:Nat}{w:World}{base:Nat}{ok:Nat -> Prop}{v:Value}{xs:List α}{g:Nat}(h:d.R e w base ok v xs)(a:∀k,ok k -> k≠g)(u0 u1 u2:Value):d.R e (((w.setCell ⟨g,0,none⟩ u0).setCell ⟨g,1,none⟩ u1).setCell ⟨g,2,none⟩ u2) base ok v xs:=Kd.CS (p:=⟨g,2,none⟩) (Kd.CS (p:=⟨g,1,none⟩) (Kd.CS (p:=⟨g,0,none⟩) h a u0) a u1) a u2
theorem FL{α:Type}{d:Kd α}{e:Nat}{w:World}{base:Nat}{ok:Nat -> Prop}{v:Value}{xs:List α}{g:Nat}(h:d.R e w base ok v xs)(a:∀k,ok k -> k≠g)(u0 u1 u2 u3 u4:Value):d.R e (((((w.setCell ⟨g,0,none⟩ u0).setCell ⟨g,1,none⟩ u1).setCell ⟨g,2,none⟩ u2).setCell ⟨g,3,none⟩ u3).setCell ⟨g,4,none⟩ u4) base ok v xs:=Kd.CS (p:=⟨g,4,none⟩) (Kd.CS (p:=⟨g,3,none⟩) (Kd.CS (p:=⟨g,2,none⟩) (Kd.CS (p:=⟨g,1,none⟩) (Kd.CS (p:=⟨g,0,none⟩) h a u0) a u1) a u2) a u3) a u4
theorem Dw{α:Type}{d:Kd α}{e:Nat}{w:World}{base:Nat}{ok:Nat -> Prop}{v:Value}{xs:List α}{g:Nat}(h:d.R e w base ok v xs)(a:∀k,ok k -> k≠g)(u0 u1 u2 u3 u4 u5:Value):d.R e ((((((w.setCell ⟨g,0,none⟩ u0).setCell ⟨g,1,none⟩ u1).setCell ⟨g,2,none⟩ u2).setCell ⟨g,3,none⟩ u3).setCell ⟨g,4,none⟩ u4).setCell ⟨g,5,none⟩ u5) base ok v xs:=Kd.CS (p:=⟨g,5,none⟩) (Kd.CS (p:=⟨g,4,none⟩) (Kd.CS (p:=⟨g,3,none⟩) (Kd.CS (p:=⟨g,2,none⟩) (Kd.CS (p:=⟨g,1,none⟩) (Kd.CS (p:=⟨g,0,none⟩) h a u0) a u1) a u2) a u3) a u4) a u5
theorem Mv{α:Type}{d:Kd α}{e:Nat}{w:World}{base:Nat}{ok:Nat -> Prop}{v:Value}{xs:List α}{g:Nat}(h:d.R e w base ok v xs)(a:∀k,ok k -> k≠g)(u0 u1 u2 u3 u4 u5 u6:Value):d.R e (((((((w.setCell ⟨g,0,none⟩ u0).setCell ⟨g,1,none⟩ u1).setCell ⟨g,2,none⟩ u2).setCell ⟨g,3,none⟩ u3).setCell ⟨g,4,none⟩ u4).setCell ⟨g,5,none⟩ u5).setCell ⟨g,6,none⟩ u6) base ok v xs:=Kd.CS (p:=⟨g,6,none⟩) (Kd.CS (p:=⟨g,5,none⟩) (Kd.CS (p:=⟨g,4,none⟩) (Kd.CS (p:=⟨g,3,none⟩) (Kd.CS (p:=⟨g,2,none⟩) (Kd.CS (p:=⟨g,1,none⟩) (Kd.CS (p:=⟨g,0,none⟩) h a u0) a u1) a u2) a u3) a u4) a u5) a u6
theorem Iz{w:World}{a:Addr}{v:Option Value}{g:Nat}{i0 i1 i2 i3 i4:Nat}{u0 u1 u2 u3 u4:Value}(n:a.block≠g)(h:w.cell? a=v):(((((w.setCell ⟨g,i0,none⟩ u0).setCell ⟨g,i1,none⟩ u1).setCell ⟨g,i2,none⟩ u2).setCell ⟨g,i3,none⟩ u3).setCell ⟨g,i4,none⟩ u4).cell? a=v:=(M0 (p:=⟨g,i4,none⟩) n u4).trans ((M0 (p:=⟨g,i3,none⟩) n u3).trans ((M0 (p:=⟨g,i2,none⟩) n u2).trans ((M0 (p:=⟨g,i1,none⟩) n u1).trans ((M0 (p:=⟨g,i0,none⟩) n u0).trans h))))
theorem FG{w:World}{a:Addr}{v:Option Value}{g:Nat}{i0 i1 i2 i3 i4 i5:Nat}{u0 u1 u2 u3 u4 u5:Value}(n:a.block≠g)(h:w.cell? a=v):((((((w.setCell ⟨g,i0,none⟩ u0).setCell ⟨g,i1,none⟩ u1).setCell ⟨g,i2,none⟩ u2).setCell ⟨g,i3,none⟩ u3).setCell ⟨g,i4,none⟩ u4).setCell ⟨g,i5,none⟩ u5).cell? a=v:=(M0 (p:=⟨g,i5,none⟩) n u5).trans ((M0 (p:=⟨g,i4,none⟩) n u4).trans ((M0 (p:=⟨g,i3,none⟩) n u3).trans ((M0 (p:=⟨g,i2,none⟩) n u2).trans ((M0 (p:=⟨g,i1,none⟩) n u1).trans ((M0 (p:=⟨g,i0,none⟩) n u0).trans h)))))
end Go.Proofs.YtlhlpfnljglhoaaDoor.P
namespace Go.Proofs.YtlhlpfnljglhoaaDoor.P
open Go.RowKit Go.Proofs.YtlhlpfnljglhoaaDoorW.PrintWords Go.Proofs.YtlhlpfnljglhoaaDoorW.Bb
def QF:Option Int->Value
 | none=>.nilIface
 | some c=>.iface 0 (.int .i64 c)
theorem Cp:QF none=.nilIface:=rfl
theorem Cq(c:Int):QF (some c)=.iface 0 (.int .i64 c):=rfl
theorem Nc:(Tryd.prog.info? 3).map (λi=>(i.zero,i.size,i.bytes))=some (some (.int .i64 0),1,8):=by kernel_rfl
theorem QI:(Tryd.prog.info? 5).map (λi=>(i.zero,i.size,i.bytes))=some (some (.int .u8 0),1,1):=by kernel_rfl
theorem La:(Tryd.prog.info? 26).map (λi=>(i.zero,i.size,i.bytes))=some (some (.agg #[(.int .i64 0),(.int .i64 0),(.slice none 0 0),(.slice none 0 0),(.int .i64 0),(.int .i64 0)]),6,80):=by kernel_rfl
theorem Dv:(Tryd.prog.info? 32).map (λi=>(i.zero,i.size,i.bytes))=some (some (.agg #[(.int .i64 0),(.int .i64 0),(.int .i64 0),(.int .i64 0),(.int .i64 0),(.int .i64 0),(.string ⟨#[]⟩)]),7,64):=by kernel_rfl
theorem EA:(Tryd.prog.info? 68).map (λi=>(i.zero,i.size,i.bytes))=some (some (.agg #[(.int .i64 0),(.int .i64 0),(.string ⟨#[]⟩)]),3,32):=by kernel_rfl
theorem Hn:(Tryd.prog.info? 114).map (λi=>(i.zero,i.size,i.bytes))=some (some (.agg #[(.int .i64 0),(.int .i64 0),(.slice none 0 0)]),3,40):=by kernel_rfl
structure E0 where
 f0:Int
 f1:Int
 f2:Int
 f3:Int
 f4:ByteArray
def Rx:E0:=⟨(0:Int),(0:Int),(0:Int),(0:Int),(⟨#[]⟩:ByteArray)⟩
def QX:Kd E0:=Kd.QJ (Kd.pair (Kd.int .i64) (Kd.pair (Kd.int .i64) (Kd.pair (Kd.int .i64) (Kd.pair (Kd.int .i64) Kd.string)))) (λx:E0=>(x.f0,x.f1,x.f2,x.f3,x.f4))
theorem Nh{w:World}{x:E0}{cs:List Value}(h:QX.K w x cs):cs=[.int .i64 x.f0,.int .i64 x.f1,.int .i64 x.f2,.int .i64 x.f3,.string x.f4]:=by obtain⟨_,_,rfl,rfl,⟨_,_,rfl,rfl,⟨_,_,rfl,rfl,⟨_,_,rfl,rfl,rfl⟩⟩⟩⟩:=h;exact rfl
theorem Ml{w:World}{base:Nat}{ok:Nat->Prop}{x:E0}{cs:List Value}(h:QX.M w base ok x cs):cs=[.int .i64 x.f0,.int .i64 x.f1,.int .i64 x.f2,.int .i64 x.f3,.string x.f4]:=by obtain⟨_,_,rfl,rfl,⟨_,_,rfl,rfl,⟨_,_,rfl,rfl,⟨_,_,rfl,rfl,rfl⟩⟩⟩⟩:=h;exact rfl
theorem Ok(w:World)(base:Nat)(ok:Nat->Prop)(x:E0)  : QX.M w base ok x [.int .i64 x.f0,.int .i64 x.f1,.int .i64 x.f2,.int .i64 x.f3,.string x.f4]:=⟨[.int .i64 x.f0],[.int .i64 x.f1,.int .i64 x.f2,.int .i64 x.f3,.string x.f4],rfl,rfl,⟨[.int .i64 x.f1],[.int .i64 x.f2,.int .i64 x.f3,.string x.f4],rfl,rfl,⟨[.int .i64 x.f2],[.int .i64 x.f3,.string x.f4],rfl,rfl,⟨[.int .i64 x.f3],[.string x.f4],rfl,rfl,rfl⟩⟩⟩⟩
structure AQ where
 f0:Int
 f1:Int
 f2:E0
def QY:AQ:=⟨(0:Int),(0:Int),Rx⟩
def Ck:Kd AQ:=Kd.QJ (Kd.pair (Kd.int .i64) (Kd.pair (Kd.int .i64) QX)) (λx:AQ=>(x.f0,x.f1,x.f2))
theorem Nk{w:World}{x:AQ}{cs:List Value}(h:Ck.K w x cs):cs=[.int .i64 x.f0,.int .i64 x.f1,.int .i64 x.f2.f0,.int .i64 x.f2.f1,.int .i64 x.f2.f2,.int .i64 x.f2.f3,.string x.f2.f4]:=by obtain⟨_,_,rfl,rfl,⟨_,_,rfl,rfl,s2⟩⟩:=h;obtain rfl:=Nh s2;exact rfl
theorem Jw{w:World}{base:Nat}{ok:Nat->Prop}{x:AQ}{cs:List Value}(h:Ck.M w base ok x cs):cs=[.int .i64 x.f0,.int .i64 x.f1,.int .i64 x.f2.f0,.int .i64 x.f2.f1,.int .i64 x.f2.f2,.int .i64 x.f2.f3,.string x.f2.f4]:=by obtain⟨_,_,rfl,rfl,⟨_,_,rfl,rfl,s2⟩⟩:=h;obtain rfl:=Ml s2;exact rfl
theorem EX(w:World)(base:Nat)(ok:Nat->Prop)(x:AQ)  : Ck.M w base ok x [.int .i64 x.f0,.int .i64 x.f1,.int .i64 x.f2.f0,.int .i64 x.f2.f1,.int .i64 x.f2.f2,.int .i64 x.f2.f3,.string x.f2.f4]:=⟨[.int .i64 x.f0],[.int .i64 x.f1,.int .i64 x.f2.f0,.int .i64 x.f2.f1,.int .i64 x.f2.f2,.int .i64 x.f2.f3,.string x.f2.f4],rfl,rfl,⟨[.int .i64 x.f1],[.int .i64 x.f2.f0,.int .i64 x.f2.f1,.int .i64 x.f2.f2,.int .i64 x.f2.f3,.string x.f2.f4],rfl,rfl,(Ok w base ok x.f2 )⟩⟩
def Aa(xs:List AQ)(i:Int):AQ:=xs.getD i.toNat QY
theorem CQ{w:World}{A:Option Addr}{n:Nat}{xs:List AQ}(h:Kd.C Ck w A n xs)(i:Int)(h0:0≤i)(h1:i<n):∃ad ,A=some ad∧w.cell? (ad.add (i.toNat*7))=some (.int .i64 (Aa xs i).f0)∧w.cell? ⟨(ad.add (i.toNat*7)).block,(ad.add (i.toNat*7)).off+1,none⟩=some (.int .i64 (Aa xs i).f1)∧w.cell? ⟨(ad.add (i.toNat*7)).block,(ad.add (i.toNat*7)).off+2,none⟩=some (.int .i64 (Aa xs i).f2.f0)∧w.cell? ⟨(ad.add (i.toNat*7)).block,(ad.add (i.toNat*7)).off+3,none⟩=some (.int .i64 (Aa xs i).f2.f1)∧w.cell? ⟨(ad.add (i.toNat*7)).block,(ad.add (i.toNat*7)).off+4,none⟩=some (.int .i64 (Aa xs i).f2.f2)∧w.cell? ⟨(ad.add (i.toNat*7)).block,(ad.add (i.toNat*7)).off+5,none⟩=some (.int .i64 (Aa xs i).f2.f3)∧w.cell? ⟨(ad.add (i.toNat*7)).block,(ad.add (i.toNat*7)).off+6,none⟩=some (.string (Aa xs i).f2.f4):=by obtain⟨ad,c,e,_,hK,b⟩:=Kd.IL h QY i h0 h1;have a:∀j u,c[j]?=some u->w.cell? (ad.add (i.toNat*7+j))=some u:=b;obtain rfl:=Nk hK;exact⟨ad,e,a 0 _ rfl,by rw[<-CL _ _ 1 (by omega)];exact a 1 _ rfl,by rw[<-CL _ _ 2 (by omega)];exact a 2 _ rfl,by rw[<-CL _ _ 3 (by omega)];exact a 3 _ rfl,by rw[<-CL _ _ 4 (by omega)];exact a 4 _ rfl,by rw[<-CL _ _ 5 (by omega)];exact a 5 _ rfl,by rw[<-CL _ _ 6 (by omega)];exact a 6 _ rfl⟩
structure Ba where
 f0:Int
 f1:Int
 f2:ByteArray
def Qb:Ba:=⟨(0:Int),(0:Int),(⟨#[]⟩:ByteArray)⟩
def Dd:Kd Ba:=Kd.QJ (Kd.pair (Kd.int .i64) (Kd.pair (Kd.int .i64) Kd.string)) (λx:Ba=>(x.f0,x.f1,x.f2))
theorem Nm{w:World}{x:Ba}{cs:List Value}(h:Dd.K w x cs):cs=[.int .i64 x.f0,.int .i64 x.f1,.string x.f2]:=by obtain⟨_,_,rfl,rfl,⟨_,_,rfl,rfl,rfl⟩⟩:=h;exact rfl
theorem Jx{w:World}{base:Nat}{ok:Nat->Prop}{x:Ba}{cs:List Value}(h:Dd.M w base ok x cs):cs=[.int .i64 x.f0,.int .i64 x.f1,.string x.f2]:=by obtain⟨_,_,rfl,rfl,⟨_,_,rfl,rfl,rfl⟩⟩:=h;exact rfl
theorem GG(w:World)(base:Nat)(ok:Nat->Prop)(x:Ba)  : Dd.M w base ok x [.int .i64 x.f0,.int .i64 x.f1,.string x.f2]:=⟨[.int .i64 x.f0],[.int .i64 x.f1,.string x.f2],rfl,rfl,⟨[.int .i64 x.f1],[.string x.f2],rfl,rfl,rfl⟩⟩
def Ae(xs:List Ba)(i:Int):Ba:=xs.getD i.toNat Qb
theorem BZ{w:World}{A:Option Addr}{n:Nat}{xs:List Ba}(h:Kd.C Dd w A n xs)(i:Int)(h0:0≤i)(h1:i<n):∃ad ,A=some ad∧w.cell? (ad.add (i.toNat*3))=some (.int .i64 (Ae xs i).f0)∧w.cell? ⟨(ad.add (i.toNat*3)).block,(ad.add (i.toNat*3)).off+1,none⟩=some (.int .i64 (Ae xs i).f1)∧w.cell? ⟨(ad.add (i.toNat*3)).block,(ad.add (i.toNat*3)).off+2,none⟩=some (.string (Ae xs i).f2):=by obtain⟨ad,c,e,_,hK,b⟩:=Kd.IL h Qb i h0 h1;have a:∀j u,c[j]?=some u->w.cell? (ad.add (i.toNat*3+j))=some u:=b;obtain rfl:=Nm hK;exact⟨ad,e,a 0 _ rfl,by rw[<-CL _ _ 1 (by omega)];exact a 1 _ rfl,by rw[<-CL _ _ 2 (by omega)];exact a 2 _ rfl⟩
structure EZ where
 f0:Int
 f1:Int
 f2:(List Ba)
 f3:(List AQ)
 f4:Int
 f5:Int
def P8:EZ:=⟨(0:Int),(0:Int),([]:List Ba),([]:List AQ),(0:Int),(0:Int)⟩
def Ha:Kd EZ:=Kd.QJ (Kd.pair (Kd.int .i64) (Kd.pair (Kd.int .i64) (Kd.pair (Kd.slice 68 Dd) (Kd.pair (Kd.slice 32 Ck) (Kd.pair (Kd.int .i64) (Kd.int .i64)))))) (λx:EZ=>(x.f0,x.f1,x.f2,x.f3,x.f4,x.f5))
theorem Hr{w:World}{x:EZ}{cs:List Value}(h:Ha.K w x cs):∃a c2 b c3,cs=[.int .i64 x.f0,.int .i64 x.f1,.slice a x.f2.length c2,.slice b x.f3.length c3,.int .i64 x.f4,.int .i64 x.f5]∧x.f2.length≤c2∧Dd.C w a x.f2.length x.f2∧x.f3.length≤c3∧Ck.C w b x.f3.length x.f3:=by obtain⟨_,_,rfl,rfl,⟨_,_,rfl,rfl,⟨_,_,rfl,⟨a,c2,rfl,e,c⟩,⟨_,_,rfl,⟨b,c3,rfl,l3,d⟩,⟨_,_,rfl,rfl,rfl⟩⟩⟩⟩⟩:=h;exact⟨a,c2,b,c3,rfl,e,c,l3,d⟩
theorem Ij{w:World}{base:Nat}{ok:Nat->Prop}{x:EZ}{cs:List Value}(h:Ha.M w base ok x cs):∃v2 v3,cs=[.int .i64 x.f0,.int .i64 x.f1,v2,v3,.int .i64 x.f4,.int .i64 x.f5]∧Dd.R 68 w base ok v2 x.f2∧Ck.R 32 w base ok v3 x.f3:=by obtain⟨_,_,rfl,rfl,⟨_,_,rfl,rfl,⟨_,_,rfl,⟨v2,rfl,a⟩,⟨_,_,rfl,⟨v3,rfl,b⟩,⟨_,_,rfl,rfl,rfl⟩⟩⟩⟩⟩:=h;exact⟨v2,v3,rfl,a,b⟩
theorem PQ(w:World)(x:EZ){b:Option Addr}{c2:Nat}(e:x.f2.length≤c2)(c:Dd.C w b x.f2.length x.f2){a:Option Addr}{c3:Nat}(l3:x.f3.length≤c3)(d:Ck.C w a x.f3.length x.f3):Ha.K w x [.int .i64 x.f0,.int .i64 x.f1,.slice b x.f2.length c2,.slice a x.f3.length c3,.int .i64 x.f4,.int .i64 x.f5]:=⟨[.int .i64 x.f0],[.int .i64 x.f1,.slice b x.f2.length c2,.slice a x.f3.length c3,.int .i64 x.f4,.int .i64 x.f5],rfl,rfl,⟨[.int .i64 x.f1],[.slice b x.f2.length c2,.slice a x.f3.length c3,.int .i64 x.f4,.int .i64 x.f5],rfl,rfl,⟨[.slice b x.f2.length c2],[.slice a x.f3.length c3,.int .i64 x.f4,.int .i64 x.f5],rfl,⟨b,c2,rfl,e,c⟩,⟨[.slice a x.f3.length c3],[.int .i64 x.f4,.int .i64 x.f5],rfl,⟨a,c3,rfl,l3,d⟩,⟨[.int .i64 x.f4],[.int .i64 x.f5],rfl,rfl,rfl⟩⟩⟩⟩⟩
theorem IJ(w:World)(base:Nat)(ok:Nat->Prop)(x:EZ){v2:Value}(a:Dd.R 68 w base ok v2 x.f2){v3:Value}(b:Ck.R 32 w base ok v3 x.f3):Ha.M w base ok x [.int .i64 x.f0,.int .i64 x.f1,v2,v3,.int .i64 x.f4,.int .i64 x.f5]:=⟨[.int .i64 x.f0],[.int .i64 x.f1,v2,v3,.int .i64 x.f4,.int .i64 x.f5],rfl,rfl,⟨[.int .i64 x.f1],[v2,v3,.int .i64 x.f4,.int .i64 x.f5],rfl,rfl,⟨[v2],[v3,.int .i64 x.f4,.int .i64 x.f5],rfl,⟨v2,rfl,a⟩,⟨[v3],[.int .i64 x.f4,.int .i64 x.f5],rfl,⟨v3,rfl,b⟩,⟨[.int .i64 x.f4],[.int .i64 x.f5],rfl,rfl,rfl⟩⟩⟩⟩⟩
theorem Mk{W:World}{ok:Nat->Prop}{x:EZ}{cs:List Value}(h:Kd.FK Ha W ok x cs):∃b c2 d c3,cs=[.int .i64 x.f0,.int .i64 x.f1,.slice b x.f2.length c2,.slice d x.f3.length c3,.int .i64 x.f4,.int .i64 x.f5]∧x.f2.length≤c2∧Kd.F Dd W ok b x.f2.length x.f2∧x.f3.length≤c3∧Kd.F Ck W ok d x.f3.length x.f3:=by obtain⟨b,c2,d,c3,rfl,q,_,l3,_⟩:=Hr (Kd.FC h);exact⟨b,c2,d,c3,rfl,q,(λm n=>by obtain⟨c,g,e,i,he,o,j,p,k⟩:=Hr (h m n);injection (CW (show some (Value.slice b x.f2.length c2)=some (Value.slice c x.f2.length g)from SJ (λl=>l[2]?) he))with a _ _;rw[a];exact j),l3,(λm n=>by obtain⟨c,g,e,i,he,o,j,p,k⟩:=Hr (h m n);injection (CW (show some (Value.slice d x.f3.length c3)=some (Value.slice e x.f3.length i)from SJ (λl=>l[3]?) he))with a _ _;rw[a];exact k)⟩
theorem Oj(W:World)(ok:Nat->Prop)(x:EZ){a:Option Addr}{c2:Nat}(g:x.f2.length≤c2)(d:Kd.F Dd W ok a x.f2.length x.f2){b:Option Addr}{c3:Nat}(l3:x.f3.length≤c3)(e:Kd.F Ck W ok b x.f3.length x.f3):Kd.FK Ha W ok x [.int .i64 x.f0,.int .i64 x.f1,.slice a x.f2.length c2,.slice b x.f3.length c3,.int .i64 x.f4,.int .i64 x.f5]:=λW2 c=>PQ W2 x g (d W2 c) l3 (e W2 c)
def AE(xs:List EZ)(i:Int):EZ:=xs.getD i.toNat P8
theorem PE{w:World}{A:Option Addr}{n:Nat}{xs:List EZ}(h:Kd.C Ha w A n xs)(i:Int)(h0:0≤i)(h1:i<n):∃ad b c2 d c3,A=some ad∧w.cell? (ad.add (i.toNat*6))=some (.int .i64 (AE xs i).f0)∧w.cell? ⟨(ad.add (i.toNat*6)).block,(ad.add (i.toNat*6)).off+1,none⟩=some (.int .i64 (AE xs i).f1)∧w.cell? ⟨(ad.add (i.toNat*6)).block,(ad.add (i.toNat*6)).off+2,none⟩=some (.slice b (AE xs i).f2.length c2)∧w.cell? ⟨(ad.add (i.toNat*6)).block,(ad.add (i.toNat*6)).off+3,none⟩=some (.slice d (AE xs i).f3.length c3)∧w.cell? ⟨(ad.add (i.toNat*6)).block,(ad.add (i.toNat*6)).off+4,none⟩=some (.int .i64 (AE xs i).f4)∧w.cell? ⟨(ad.add (i.toNat*6)).block,(ad.add (i.toNat*6)).off+5,none⟩=some (.int .i64 (AE xs i).f5)∧(AE xs i).f2.length≤c2∧Dd.C w b (AE xs i).f2.length (AE xs i).f2∧(AE xs i).f3.length≤c3∧Ck.C w d (AE xs i).f3.length (AE xs i).f3:=by obtain⟨ad,c,e,_,hK,g⟩:=Kd.IL h P8 i h0 h1;have a:∀j u,c[j]?=some u->w.cell? (ad.add (i.toNat*6+j))=some u:=g;obtain⟨b,c2,d,c3,rfl,m,k,l3,l⟩:=Hr hK;exact⟨ad,b,c2,d,c3,e,a 0 _ rfl,by rw[<-CL _ _ 1 (by omega)];exact a 1 _ rfl,by rw[<-CL _ _ 2 (by omega)];exact a 2 _ rfl,by rw[<-CL _ _ 3 (by omega)];exact a 3 _ rfl,by rw[<-CL _ _ 4 (by omega)];exact a 4 _ rfl,by rw[<-CL _ _ 5 (by omega)];exact a 5 _ rfl,m,k,l3,l⟩
structure DH where
 f0:Int
 f1:Int
 f2:(List AQ)
def P7:DH:=⟨(0:Int),(0:Int),([]:List AQ)⟩
def Fh:Kd DH:=Kd.QJ (Kd.pair (Kd.int .i64) (Kd.pair (Kd.int .i64) (Kd.slice 32 Ck))) (λx:DH=>(x.f0,x.f1,x.f2))
theorem Ii{w:World}{x:DH}{cs:List Value}(h:Fh.K w x cs):∃a c2,cs=[.int .i64 x.f0,.int .i64 x.f1,.slice a x.f2.length c2]∧x.f2.length≤c2∧Ck.C w a x.f2.length x.f2:=by obtain⟨_,_,rfl,rfl,⟨_,_,rfl,rfl,⟨a,c2,rfl,c,b⟩⟩⟩:=h;exact⟨a,c2,rfl,c,b⟩
theorem Oi(w:World)(x:DH){a:Option Addr}{c2:Nat}(c:x.f2.length≤c2)(b:Ck.C w a x.f2.length x.f2):Fh.K w x [.int .i64 x.f0,.int .i64 x.f1,.slice a x.f2.length c2]:=⟨[.int .i64 x.f0],[.int .i64 x.f1,.slice a x.f2.length c2],rfl,rfl,⟨[.int .i64 x.f1],[.slice a x.f2.length c2],rfl,rfl,⟨a,c2,rfl,c,b⟩⟩⟩
theorem Ng(w:World)(base:Nat)(ok:Nat->Prop)(x:DH){v2:Value}(a:Ck.R 32 w base ok v2 x.f2):Fh.M w base ok x [.int .i64 x.f0,.int .i64 x.f1,v2]:=⟨[.int .i64 x.f0],[.int .i64 x.f1,v2],rfl,rfl,⟨[.int .i64 x.f1],[v2],rfl,rfl,⟨v2,rfl,a⟩⟩⟩
theorem Lc{W:World}{ok:Nat->Prop}{x:DH}{cs:List Value}(h:Kd.FK Fh W ok x cs):∃a c2,cs=[.int .i64 x.f0,.int .i64 x.f1,.slice a x.f2.length c2]∧x.f2.length≤c2∧Kd.F Ck W ok a x.f2.length x.f2:=by obtain⟨a,c2,rfl,j,_⟩:=Ii (Kd.FC h);exact⟨a,c2,rfl,j,(λg i=>by obtain⟨b,c,he,k,d⟩:=Ii (h g i);injection (CW (show some (Value.slice a x.f2.length c2)=some (Value.slice b x.f2.length c)from SJ (λl=>l[2]?) he))with e _ _;rw[e];exact d)⟩
theorem Nf(W:World)(ok:Nat->Prop)(x:DH){a:Option Addr}{c2:Nat}(d:x.f2.length≤c2)(b:Kd.F Ck W ok a x.f2.length x.f2):Kd.FK Fh W ok x [.int .i64 x.f0,.int .i64 x.f1,.slice a x.f2.length c2]:=λW2 c=>Oi W2 x d (b W2 c)
def AG(xs:List DH)(i:Int):DH:=xs.getD i.toNat P7
theorem N6{w:World}{A:Option Addr}{n:Nat}{xs:List DH}(h:Kd.C Fh w A n xs)(i:Int)(h0:0≤i)(h1:i<n):∃ad a c2,A=some ad∧w.cell? (ad.add (i.toNat*3))=some (.int .i64 (AG xs i).f0)∧w.cell? ⟨(ad.add (i.toNat*3)).block,(ad.add (i.toNat*3)).off+1,none⟩=some (.int .i64 (AG xs i).f1)∧w.cell? ⟨(ad.add (i.toNat*3)).block,(ad.add (i.toNat*3)).off+2,none⟩=some (.slice a (AG xs i).f2.length c2)∧(AG xs i).f2.length≤c2∧Ck.C w a (AG xs i).f2.length (AG xs i).f2:=by obtain⟨ad,c,e,_,hK,d⟩:=Kd.IL h P7 i h0 h1;have b:∀j u,c[j]?=some u->w.cell? (ad.add (i.toNat*3+j))=some u:=d;obtain⟨a,c2,rfl,k,g⟩:=Ii hK;exact⟨ad,a,c2,e,b 0 _ rfl,by rw[<-CL _ _ 1 (by omega)];exact b 1 _ rfl,by rw[<-CL _ _ 2 (by omega)];exact b 2 _ rfl,k,g⟩
def Ad(w0 W:World)(g:Nat)(f0:List Int)(f1:Int):Prop:=∃a b,W.heap[g]?=some (.cells #[.slice a f0.length b,.int .i64 f1] 58 (0,0))∧w0.heap.size≤g∧Kd.C (Kd.int .u8) w0 a f0.length f0
theorem Ad.grown{w0 W:World}{g:Nat}{f0:List Int}{f1:Int}{W1:World}{row:Option Nat}(h:Ad w0 W g f0 f1)(hw:W.grownBy W1 row)(a:some g≠row):Ad w0 W1 g f0 f1:=by obtain⟨c,d,e,hg,b⟩:=h;exact⟨c,d,AO e hw a,hg,b⟩
theorem Ad.kept{w0 W:World}{g:Nat}{f0:List Int}{f1:Int}{W1:World}{S:Nat->Prop}(h:Ad w0 W g f0 f1)(i:Kept W W1 S)(a:¬ S g):Ad w0 W1 g f0 f1:=by obtain⟨c,d,e,hg,b⟩:=h;exact⟨c,d,Kw e i a,hg,b⟩
theorem Ad.below{w0 W:World}{g:Nat}{f0:List Int}{f1:Int}{W1:World}(h:Ad w0 W g f0 f1)(hw:Below W.heap.size W W1):Ad w0 W1 g f0 f1:=h.grown (I1 hw none) (by simp)
theorem Ad.drewN{w0 W:World}{g:Nat}{f0:List Int}{f1:Int}(h:Ad w0 W g f0 f1)(m:Nat):Ad w0 (W.drewN m) g f0 f1:=h
theorem Ad.drew{w0 W:World}{g:Nat}{f0:List Int}{f1:Int}(h:Ad w0 W g f0 f1):Ad w0 W.drew g f0 f1:=h
theorem Ad.apart{w0 W:World}{g:Nat}{f0:List Int}{f1:Int}{α:Type}{d:Kd α}{e:Nat}{base:Nat}{ok:Nat->Prop}{v:Value}{xs:List α}(h:Ad w0 W g f0 f1)(b:d.R e W base ok v xs)(i:∀q,q∈e::d.E->q≠58):d.R e W base (λk=>ok k∧k≠g) v xs:=by obtain⟨j,l,a,hg,c⟩:=h;exact Kd.Aj b a i
theorem Ad.Gd{w0 W:World}{g:Nat}{f0:List Int}{f1:Int}{α:Type}{d:Kd α}{e:Nat}{base:Nat}{ok:Nat->Prop}{v:Value}{xs:List α}(h:Ad w0 W g f0 f1)(b:d.R e W base ok v xs)(i:e≠58):some g≠v.ownBlock:=by obtain⟨j,k,a,hg,c⟩:=h;exact Kd.EY b a i
theorem Ad.lt{w0 W:World}{g:Nat}{f0:List Int}{f1:Int}(h:Ad w0 W g f0 f1):g<W.heap.size:=by obtain⟨c,d,a,hg,b⟩:=h;exact Av a
theorem Ad.ge{w0 W:World}{g:Nat}{f0:List Int}{f1:Int}(h:Ad w0 W g f0 f1):w0.heap.size≤g:=by obtain⟨b,c,d,hg,a⟩:=h;exact hg
theorem Ad.J8{w0 W:World}{g:Nat}{f0:List Int}{f1:Int}{a:Nat}{cs:Array Value}{t:TypeId}{fr:Nat×Nat}(h:Ad w0 W g f0 f1)(b:W.heap[a]?=some (.cells cs t fr))(i:t≠58):g≠a:=by obtain⟨j,k,d,hg,e⟩:=h;rintro rfl;rw[d]at b;injection b with b;injection b with _ c;exact i c.symm
theorem Ad.ER{w0 W:World}{g:Nat}{f0:List Int}{f1:Int}{p:Addr}(h:Ad w0 W g f0 f1)(a:g≠p.block)(u:Value):Ad w0 (W.setCell p u) g f0 f1:=by obtain⟨c,d,e,hg,b⟩:=h;exact⟨c,d,FA e a u,hg,b⟩
theorem GB{W:World}{g:Nat}{a:Option Addr}{b:Nat}{f0:List Int}{f1:Int}(h:W.heap[g]?=some (.cells #[.slice a f0.length b,.int .i64 f1] 58 (0,0))):W.cell? ⟨g,0,none⟩=some (.slice a f0.length b):=(Ax h 0).trans rfl
theorem GD{W:World}{g:Nat}{a:Option Addr}{b:Nat}{f0:List Int}{f1:Int}(h:W.heap[g]?=some (.cells #[.slice a f0.length b,.int .i64 f1] 58 (0,0))):W.cell? ⟨g,1,none⟩=some (.int .i64 f1):=(Ax h 1).trans rfl
theorem Ad.EC{w0 W:World}{g:Nat}{f0:List Int}{f1:Int}(h:Ad w0 W g f0 f1)(x:Int):Ad w0 (W.setCell ⟨g,1,none⟩ (.int .i64 x)) g f0 x:=by obtain⟨b,c,d,hg,a⟩:=h;exact⟨b,c,by simpa using Fm d 1 (.int .i64 x),hg,a⟩
theorem An{p:Prop}(h:p:=by repeat(first|(with_reducible first|exact HI0.o|apply Ad.alloc|apply Ad.drewN|apply Ad.drew|apply Ad.EC|refine Ad.ER ?_ (Ac.o (by assumption)) _)|exact HI0.o)):p:=h
theorem Rm{w0 W:World}{g:Nat}{f0:List Int}{f1:Int}{α:Type}{d:Kd α}{e:Nat}{base:Nat}{ok:Nat->Prop}{v:Value}{xs:List α}(h:Ad w0 W g f0 f1)(b:d.R e W base ok v xs){W1:World}(a:Ah W W1 g none)(c:∀q,q∈e::d.E->q≠58:=by decide):Ac (d.R e W1 base ok v xs):=a_ (Kd.Ai (Kd.Br (Ad.apart h b c) a (λ_ h=>h.2)) (λ_ h=>h.1))
def D8.f(l0:List Int):Option (List Int×Int):=if(l0.length:Int)>2000 then(if 2000≤(l0.length:Int)then(some (l0.take 2000,0))else(none))else(some (l0,0))
theorem D8.calls(r:Option Addr)(v:Nat)(l0:List Int)(M:List Int)(O:Int)(w0 w:World)(hB:Below w0.heap.size w0 w)(B:Kd.C (Kd.int .u8) w0 r l0.length l0)(A:l0.length≤v)(h:D8.f l0=some (M,O)) :
  Calls Tryd.prog 14 #[.slice r l0.length v] w λe w'=>∃K:Nat,e=.returned (.pointer (some ⟨K,0,none⟩))∧Ad w0 w' K M O∧Below w0.heap.size w0 w'∧Below w.heap.size w w':=by
 have L:=Tryd.underlying58;have t:=a_ B;have D:=a_ A;clear B A;have a:=a_ (RG w.heap.size w);have u:=a_ hB.size;have HB:=a_ hB;clear hB;unfold D8.f at h;have H:=h;clear h;by_cases c2:(l0.length:Int)>2000
 ·rw[Ry c2]at H;have x:decide (2000<(l0.length:Int))=true:=BM c2;have y:decide (2000<l0.length)=true:=BM (by omega);clear c2;by_cases c3:2000≤(l0.length:Int)
  ·rw[Ry c3]at H;have I:=RA c3;have J:decide (2000≤(l0.length:Int))=true:=BM c3;clear c3;simp only[Option.some.injEq,Prod.mk.injEq]at H;obtain⟨rfl,rfl⟩:=H;obtain⟨T,g,_,i,_⟩:=S3 QI;obtain⟨G,hA4,z⟩:=Jm (P:=Tryd.prog) (Value.int .u8) 0 22 5 .i64 Tv g i r v l0 2000 (by omega) (Bv) D.o;have p:=a_ (Kd.IM (h1:=λ_=>rfl) (hA4 _ (Kd.G7 t.o)));have E:=a_ z;clear hA4 z g i;go_enter Tryd.func14,Tryd.ntmps14;go_wp2_with(first|((with_reducible refine BV (N:=10) rfl ?_);refine Cy 10 (#[.slice r (l0.take 2000).length v,.int .i64 0]) 58 ?_;intro b hg U d q;have j:=a_ (d);have n:=a_ ((by rw[hg];exact(Af (by repeat(first|(with_reducible first|exact a.o|apply FT|apply Au|apply Ay)|exact a.o))):w.heap.size≤b));have l:=a_ ((RJ u.o (by rw[hg];exact(Af (by repeat(first|(with_reducible first|exact a.o|apply FT|apply Au|apply Ay)|exact a.o))):w.heap.size≤b):w0.heap.size≤b));replace a:=a_ (IY a.o q);replace HB:=Bw q;clear q d hg));go_ret;exact⟨_,rfl,(show Ad w0 _ b (l0.take 2000) 0 from⟨_,_,Bc j.o,l.o,p.o⟩),Ag,by repeat(first|(with_reducible first|exact a.o|apply FT|apply Au|apply Ay|refine DK ?_ n.o)|exact a.o)⟩
  rw[Rz c3]at H;exact absurd H (by simp)
 rw[Rz c2]at H;have x:decide (2000<(l0.length:Int))=false:=C9 c2;have y:decide (2000<l0.length)=false:=C9 (by omega);clear c2;simp only[Option.some.injEq,Prod.mk.injEq]at H;obtain⟨rfl,rfl⟩:=H;go_enter Tryd.func14,Tryd.ntmps14;go_wp2_with(first|((with_reducible refine BV (N:=10) rfl ?_);refine Cy 10 (#[.slice r l0.length v,.int .i64 0]) 58 ?_;intro c hg W d q;have k:=a_ (d);have o:=a_ ((by rw[hg];exact(Af (by repeat(first|(with_reducible first|exact a.o|apply FT|apply Au|apply Ay)|exact a.o))):w.heap.size≤c));have m:=a_ ((RJ u.o (by rw[hg];exact(Af (by repeat(first|(with_reducible first|exact a.o|apply FT|apply Au|apply Ay)|exact a.o))):w.heap.size≤c):w0.heap.size≤c));replace a:=a_ (IY a.o q);replace HB:=Bw q;clear q d hg));go_ret;exact⟨_,rfl,(show Ad w0 _ c l0 0 from⟨_,_,Bc k.o,m.o,t.o⟩),Ag,by repeat(first|(with_reducible first|exact a.o|apply FT|apply Au|apply Ay|refine DK ?_ o.o)|exact a.o)⟩
def Ab.j0:Nat->Int->Bool->List Int->Int->Option (Int×Int)
 | 0,_,_,_,_=>none
 | k+1,c,d,a,b=>if d=true then(some (0,b))else(if(wrap64 (b-1))<(a.length:Int)then(if 0≤(wrap64 (b-1))then(if c=0 then(none)else(some (Int.tmod (wrap64 (rd a (wrap64 (b-1)))) c,b)))else(none))else(if(a.length:Int)=0 then(none)else(if 0≤(Int.tmod (wrap64 (b-1)) (a.length:Int))then(if(Int.tmod (wrap64 (b-1)) (a.length:Int))<(a.length:Int)then(if 0≤(Int.tmod (wrap64 ((wrap64 ((wrap64 (b-1))*7))+3)) (a.length:Int))then(if(Int.tmod (wrap64 ((wrap64 ((wrap64 (b-1))*7))+3)) (a.length:Int))<(a.length:Int)then(if c=0 then(none)else(some (Int.tmod (Go.bits .xor .i64 (wrap64 ((wrap64 ((wrap64 ((wrap64 ((wrap64 (rd a (Int.tmod (wrap64 (b-1)) (a.length:Int))))*131))+(wrap64 ((wrap64 (rd a (Int.tmod (wrap64 ((wrap64 ((wrap64 (b-1))*7))+3)) (a.length:Int))))*1117))))+(wrap64 ((wrap64 (b-1))*29))))+(wrap64 ((wrap64 (Int.tdiv (wrap64 (b-1)) (a.length:Int)))*53)))) (wrap64 (Int.tdiv (wrap64 ((wrap64 ((wrap64 ((wrap64 ((wrap64 (rd a (Int.tmod (wrap64 (b-1)) (a.length:Int))))*131))+(wrap64 ((wrap64 (rd a (Int.tmod (wrap64 ((wrap64 ((wrap64 (b-1))*7))+3)) (a.length:Int))))*1117))))+(wrap64 ((wrap64 (b-1))*29))))+(wrap64 ((wrap64 (Int.tdiv (wrap64 (b-1)) (a.length:Int)))*53)))) 64))) c,b)))else(none))else(none))else(none))else(none))))
def Ab.f(k:Nat)(a:List Int)(b:Int)(c:Int):Option (Int×Int):=if c<1 then(Ab.j0 k c true a (wrap64 (b+1)))else(Ab.j0 k c ((a.length:Int)==0) a (wrap64 (b+1)))
theorem Ab.calls(k:Nat)(g:Nat)(a:List Int)(b:Int)(i:Int)(X:Int)(Y:Int)(w0 w:World)(hI:Ad w0 w g a b)(hB:Below w0.heap.size w0 w)(h:Ab.f k a b i=some (X,Y)) :
  Calls Tryd.prog 16 #[.pointer (some ⟨g,0,none⟩),.int .i64 i] w λe w'=>e=.returned (.int .i64 X)∧Ad w0 w' g a Y∧Below w0.heap.size w0 w'∧Ah w w' g none:=by
 have HI0:=a_ hI;have HK:=a_ (Ah.refl w g none);have HL:=a_ hB.size;clear hI;have a2:=a_ hB.size;have HB:=a_ hB;clear hB;unfold Ab.f at h;have H:=h;clear h;have Z:=a_ H;clear H;obtain⟨az,aD,y,ax,aB⟩:=HI0.o;have ak:=GB y;have al:=GD y;have ai:=BU y 1;clear y ax;go_enter Tryd.func16,Tryd.ntmps16;go_upto_region 2 with(fail)
 repeat(go_quiet(fail);go_upto_region 2 with(fail))
 go_cut [24] (λaZ wc=>∃(kq:Nat) (n:Bool),aZ=.bool n∧Ac (Ab.j0 kq i n a (wrap64 (b+1))=some (X,Y))∧Ac (kq≤k)∧Ac (Ad w0 wc g a (wrap64 (b+1)))∧Ac (Ah w wc g none)∧Ac (Below w0.heap.size w0 wc))
 case first =>
  have H:=Z.o;clear Z;by_cases c5:i<1
  ·rw[Ry c5]at H;have j:decide (i<1)=true:=BM c5;clear c5;(first|rw[j]|(simp only[BJ,BP];rw[j])|skip);have H':=a_ H;clear H;go_wp2;repeat(go_quiet(fail);try go_wp2)
   go_meet
   exact⟨_,(true),(CA),H',⟨by first|omega|exact RB _⟩,⟨An⟩,⟨E4⟩,⟨Ag⟩⟩
  rw[Rz c5]at H;have j:decide (i<1)=false:=C9 c5;clear c5;(first|rw[j]|(simp only[BJ,BP];rw[j])|skip);have H':=a_ H;clear H;obtain⟨aA,aE,z,ay,aC⟩:=HI0.o;have an:=GB z;have ao:=GD z;have aj:=BU z 1;clear z ay;go_wp2;repeat(go_quiet(fail);try go_wp2)
  go_meet
  exact⟨_,(((a.length:Int)==0)),(CA),H',⟨by first|omega|exact RB _⟩,⟨An⟩,⟨E4⟩,⟨Ag⟩⟩
 clear Z;try clear c1
 try clear c5
 try clear j
 try clear ak al ai
 try clear an ao aj
 obtain⟨kq,n,rfl,HA,a0,HI0,HK,HB⟩:=hcut;cases kq with
 | zero=>exact absurd HA.o (by simp[Ab.j0])
 | succ a3 =>
  have H:=HA.o
  clear HA
  simp only[Ab.j0]at H
  by_cases c7:n=true
  ·subst c7
   have H1:(some (0,(wrap64 (b+1))))=some (X,Y):=by rw[Ry rfl]at H;exact H
   clear H
   have H:=H1
   clear H1
   simp only[Option.some.injEq,Prod.mk.injEq]at H
   obtain⟨rfl,rfl⟩:=H
   go_wp2
   repeat(go_quiet(fail);try go_wp2)
   go_ret
   exact⟨C8,An,Ag,E4⟩
  ·replace c7:=RE.mpr c7
   subst c7
   have H1:(if(wrap64 ((wrap64 (b+1))-1))<(a.length:Int)then(if 0≤(wrap64 ((wrap64 (b+1))-1))then(if i=0 then(none)else(some (Int.tmod (wrap64 (rd a (wrap64 ((wrap64 (b+1))-1)))) i,(wrap64 (b+1)))))else(none))else(if(a.length:Int)=0 then(none)else(if 0≤(Int.tmod (wrap64 ((wrap64 (b+1))-1)) (a.length:Int))then(if(Int.tmod (wrap64 ((wrap64 (b+1))-1)) (a.length:Int))<(a.length:Int)then(if 0≤(Int.tmod (wrap64 ((wrap64 ((wrap64 ((wrap64 (b+1))-1))*7))+3)) (a.length:Int))then(if(Int.tmod (wrap64 ((wrap64 ((wrap64 ((wrap64 (b+1))-1))*7))+3)) (a.length:Int))<(a.length:Int)then(if i=0 then(none)else(some (Int.tmod (Go.bits .xor .i64 (wrap64 ((wrap64 ((wrap64 ((wrap64 ((wrap64 (rd a (Int.tmod (wrap64 ((wrap64 (b+1))-1)) (a.length:Int))))*131))+(wrap64 ((wrap64 (rd a (Int.tmod (wrap64 ((wrap64 ((wrap64 ((wrap64 (b+1))-1))*7))+3)) (a.length:Int))))*1117))))+(wrap64 ((wrap64 ((wrap64 (b+1))-1))*29))))+(wrap64 ((wrap64 (Int.tdiv (wrap64 ((wrap64 (b+1))-1)) (a.length:Int)))*53)))) (wrap64 (Int.tdiv (wrap64 ((wrap64 ((wrap64 ((wrap64 ((wrap64 (rd a (Int.tmod (wrap64 ((wrap64 (b+1))-1)) (a.length:Int))))*131))+(wrap64 ((wrap64 (rd a (Int.tmod (wrap64 ((wrap64 ((wrap64 ((wrap64 (b+1))-1))*7))+3)) (a.length:Int))))*1117))))+(wrap64 ((wrap64 ((wrap64 (b+1))-1))*29))))+(wrap64 ((wrap64 (Int.tdiv (wrap64 ((wrap64 (b+1))-1)) (a.length:Int)))*53)))) 64))) i,(wrap64 (b+1)))))else(none))else(none))else(none))else(none))))=some (X,Y):=by rw[Rz (show¬ (false=true) by decide)]at H;exact H
   clear H
   have H:=H1
   clear H1
   by_cases c8:(wrap64 ((wrap64 (b+1))-1))<(a.length:Int)
   ·rw[Ry c8]at H
    have W:decide ((wrap64 ((wrap64 (b+1))-1))<(a.length:Int))=true:=BM c8
    clear c8
    obtain⟨u,p⟩:∃j_:Int,(wrap64 ((wrap64 (b+1))-1))=j_:=⟨_,rfl⟩
    replace H:(if 0≤(u)then(if i=0 then(none)else(some (Int.tmod (wrap64 (rd a (u))) i,(wrap64 (b+1)))))else(none))=some (X,Y):=by first|(rw[p]at H;exact H)|(simp only[p]at H⊢;exact H)
    (try rw[p]at W)
    have aY:(IntKind.i64.wrap ((wrap64 (b+1))-1))=u:=(BJ _).trans p
    by_cases DM:0≤(u)
    ·rw[Ry DM]at H
     have aM:decide (0≤(u))=true:=BM DM
     clear DM
     by_cases L:i=0
     ·rw[Ry L]at H
      exact absurd H (by simp)
     ·rw[Rz L]at H
      have aN:(i==0)=false:=Dr L
      have aO:(i != 0)=true:=RX.mpr L
      simp only[Option.some.injEq,Prod.mk.injEq]at H
      obtain⟨rfl,rfl⟩:=H
      obtain⟨ag,aq,l,ae,A⟩:=HI0.o
      have aH:=GB l
      have aI:=GD l
      have aF:=BU l 1
      clear l ae
      have D:0≤((u):Int):=Bv
      have I:(u)<(a.length:Int):=Bv
      obtain⟨aL,au,q⟩:=Kd.Fu A (u) D I
      cases au
      replace q:=Em HB.o q
      replace D:=RA D
      replace I:=RA I
      go_wp2
      repeat(go_quiet(fail);try go_wp2)
      go_ret
      exact⟨by first|rfl|(simp[Cp,Cq] <;> rfl)|(simp only[<-p];first|rfl|(simp[Cp,Cq] <;> rfl))|(simp[*,Cp,Cq] <;> rfl),An,Ag,E4⟩
    ·rw[Rz DM]at H
     exact absurd H (by simp)
   ·rw[Rz c8]at H
    have W:decide ((wrap64 ((wrap64 (b+1))-1))<(a.length:Int))=false:=C9 c8
    clear c8
    by_cases B:(a.length:Int)=0
    ·rw[Ry B]at H
     exact absurd H (by simp)
    ·rw[Rz B]at H
     have aP:((a.length:Int)==0)=false:=Dr B
     have aQ:((a.length:Int) != 0)=true:=RX.mpr B
     have aR:¬ (a=[]):=λh_=>B (by rw[h_];rfl)
     obtain⟨c,v⟩:∃j_:Int,(Int.tmod (wrap64 ((wrap64 (b+1))-1)) (a.length:Int))=j_:=⟨_,rfl⟩
     replace H:(if 0≤(c)then(if(c)<(a.length:Int)then(if 0≤(Int.tmod (wrap64 ((wrap64 ((wrap64 ((wrap64 (b+1))-1))*7))+3)) (a.length:Int))then(if(Int.tmod (wrap64 ((wrap64 ((wrap64 ((wrap64 (b+1))-1))*7))+3)) (a.length:Int))<(a.length:Int)then(if i=0 then(none)else(some (Int.tmod (Go.bits .xor .i64 (wrap64 ((wrap64 ((wrap64 ((wrap64 ((wrap64 (rd a (c)))*131))+(wrap64 ((wrap64 (rd a (Int.tmod (wrap64 ((wrap64 ((wrap64 ((wrap64 (b+1))-1))*7))+3)) (a.length:Int))))*1117))))+(wrap64 ((wrap64 ((wrap64 (b+1))-1))*29))))+(wrap64 ((wrap64 (Int.tdiv (wrap64 ((wrap64 (b+1))-1)) (a.length:Int)))*53)))) (wrap64 (Int.tdiv (wrap64 ((wrap64 ((wrap64 ((wrap64 ((wrap64 (rd a (c)))*131))+(wrap64 ((wrap64 (rd a (Int.tmod (wrap64 ((wrap64 ((wrap64 ((wrap64 (b+1))-1))*7))+3)) (a.length:Int))))*1117))))+(wrap64 ((wrap64 ((wrap64 (b+1))-1))*29))))+(wrap64 ((wrap64 (Int.tdiv (wrap64 ((wrap64 (b+1))-1)) (a.length:Int)))*53)))) 64))) i,(wrap64 (b+1)))))else(none))else(none))else(none))else(none))=some (X,Y):=by first|(rw[v]at H;exact H)|(simp only[v]at H⊢;exact H)
     by_cases M:0≤(c)
     ·rw[Ry M]at H
      have aS:decide (0≤(c))=true:=BM M
      clear M
      by_cases O:(c)<(a.length:Int)
      ·rw[Ry O]at H
       have aT:decide ((c)<(a.length:Int))=true:=BM O
       clear O
       obtain⟨d,x⟩:∃j_:Int,(Int.tmod (wrap64 ((wrap64 ((wrap64 ((wrap64 (b+1))-1))*7))+3)) (a.length:Int))=j_:=⟨_,rfl⟩
       replace H:(if 0≤(d)then(if(d)<(a.length:Int)then(if i=0 then(none)else(some (Int.tmod (Go.bits .xor .i64 (wrap64 ((wrap64 ((wrap64 ((wrap64 ((wrap64 (rd a (c)))*131))+(wrap64 ((wrap64 (rd a (d)))*1117))))+(wrap64 ((wrap64 ((wrap64 (b+1))-1))*29))))+(wrap64 ((wrap64 (Int.tdiv (wrap64 ((wrap64 (b+1))-1)) (a.length:Int)))*53)))) (wrap64 (Int.tdiv (wrap64 ((wrap64 ((wrap64 ((wrap64 ((wrap64 (rd a (c)))*131))+(wrap64 ((wrap64 (rd a (d)))*1117))))+(wrap64 ((wrap64 ((wrap64 (b+1))-1))*29))))+(wrap64 ((wrap64 (Int.tdiv (wrap64 ((wrap64 (b+1))-1)) (a.length:Int)))*53)))) 64))) i,(wrap64 (b+1)))))else(none))else(none))=some (X,Y):=by first|(rw[x]at H;exact H)|(simp only[x]at H⊢;exact H)
       by_cases P:0≤(d)
       ·rw[Ry P]at H
        have aU:decide (0≤(d))=true:=BM P
        clear P
        by_cases T:(d)<(a.length:Int)
        ·rw[Ry T]at H
         have aV:decide ((d)<(a.length:Int))=true:=BM T
         clear T
         by_cases U:i=0
         ·rw[Ry U]at H
          exact absurd H (by simp)
         ·rw[Rz U]at H
          have aW:(i==0)=false:=Dr U
          have aX:(i != 0)=true:=RX.mpr U
          simp only[Option.some.injEq,Prod.mk.injEq]at H
          obtain⟨rfl,rfl⟩:=H
          obtain⟨ah,ar,m,af,o⟩:=HI0.o
          have aJ:=GB m
          have aK:=GD m
          have aG:=BU m 1
          clear m af
          have E:0≤((c):Int):=Bv
          have J:(c)<(a.length:Int):=Bv
          obtain⟨aa,av,r⟩:=Kd.Fu o (c) E J
          cases av
          replace r:=Em HB.o r
          replace E:=RA E
          replace J:=RA J
          have G:0≤((d):Int):=Bv
          have K:(d)<(a.length:Int):=Bv
          obtain⟨ab,aw,t⟩:=Kd.Fu o (d) G K
          obtain rfl:aa=ab:=(by injection aw)
          replace t:=Em HB.o t
          replace G:=RA G
          replace K:=RA K
          go_wp2
          repeat(go_quiet(fail);try go_wp2)
          go_ret
          exact⟨by first|rfl|(simp[Cp,Cq] <;> rfl)|(simp only[<-v,<-x];first|rfl|(simp[Cp,Cq] <;> rfl))|(simp[*,Cp,Cq] <;> rfl),An,Ag,E4⟩
        ·rw[Rz T]at H
         exact absurd H (by simp)
       ·rw[Rz P]at H
        exact absurd H (by simp)
      ·rw[Rz O]at H
       exact absurd H (by simp)
     ·rw[Rz M]at H
      exact absurd H (by simp)
def CH.f(k:Nat)(c:List Int)(d:Int):Option (Int×Int):=(Ab.f k c d 3).bind λa=>((Ab.f k c a.2 4).bind λb=>(some (wrap64 ((wrap64 ((wrap64 (10*(wrap64 (1+a.1))))+1))+b.1),b.2)))
theorem CH.calls(k:Nat)(g:Nat)(a:List Int)(b:Int)(l:Int)(m:Int)(w0 w:World)(hI:Ad w0 w g a b)(hB:Below w0.heap.size w0 w)(h:CH.f k a b=some (l,m)) :
  Calls Tryd.prog 41 #[.pointer (some ⟨g,0,none⟩)] w λe w'=>e=.returned (.int .i64 l)∧Ad w0 w' g a m∧Below w0.heap.size w0 w'∧Ah w w' g none:=by
 have HI0:=a_ hI;have HK:=a_ (Ah.refl w g none);have q:=a_ hB.size;clear hI;have p:=a_ hB.size;have HB:=a_ hB;clear hB;unfold CH.f at h;have H:=h;clear h;replace H:=BR H;obtain⟨⟨t107,t108⟩,c,H⟩:=H;try dsimp only at H
 have n:=a_ c;clear c;replace H:=BR H;obtain⟨⟨t109,t110⟩,d,H⟩:=H;try dsimp only at H
 have o:=a_ d;clear d;simp only[Option.some.injEq,Prod.mk.injEq]at H;obtain⟨rfl,rfl⟩:=H;go_enter Tryd.func41,Tryd.ntmps41;go_wp2_with(first|((with_reducible refine BQ (f:=16) rfl ?_);refine BW 4 R0 #[.pointer (some ⟨g,0,none⟩),.int .i64 3] ?_;(with_reducible refine(Ab.calls k g a b 3 t107 t108 w0 _ ?q' ?z' n.o).mono ?_);(case q'=>exact An);(case z'=>exact Ag);rintro e r ⟨rfl,hi,i,j⟩;refine⟨_,rfl,?_⟩;replace HK:=a_ (Ah.trans (E4) j (.inl rfl));replace HB:=a_ (i);replace HI0:=a_ (hi);(try clear i j hi))|((with_reducible refine BQ (f:=16) rfl ?_);refine BW 9 R0 #[.pointer (some ⟨g,0,none⟩),.int .i64 4] ?_;(with_reducible refine(Ab.calls k g a t108 4 t109 t110 w0 _ ?q' ?z' o.o).mono ?_);(case q'=>exact An);(case z'=>exact Ag);rintro e t ⟨rfl,hi,i,j⟩;refine⟨_,rfl,?_⟩;replace HK:=a_ (Ah.trans (E4) j (.inl rfl));replace HB:=a_ (i);replace HI0:=a_ (hi);(try clear i j hi)));go_ret;exact⟨C8,An,Ag,E4⟩
def De.f(k:Nat)(b:List Int)(c:Int)(l1:List ByteArray):Option (ByteArray×Int):=(Ab.f k b c (l1.length:Int)).bind λa=>(if 0≤a.1 then(if a.1<(l1.length:Int)then(some (KI ByteArray.empty l1 a.1,a.2))else(none))else(none))
theorem De.calls(k:Nat)(g:Nat)(b:List Int)(i:Int)(q:Option Addr)(t:Nat)(l1:List ByteArray)(z:ByteArray)(A:Int)(w0 w:World)(hI:Ad w0 w g b i)(hB:Below w0.heap.size w0 w)(p:Kd.C Kd.string w q l1.length l1)(o:l1.length≤t)(l:∀ad,q=some ad->0<l1.length->ad.block≠g)(h:De.f k b i l1=some (z,A)) :
  Calls Tryd.prog 53 #[.pointer (some ⟨g,0,none⟩),.slice q l1.length t] w λe w'=>e=.returned (.string z)∧Ad w0 w' g b A∧Below w0.heap.size w0 w'∧Ah w w' g none:=by
 have r:=a_ p;have D:=a_ o;clear p o;have HI0:=a_ hI;have HK:=a_ (Ah.refl w g none);have G:=a_ hB.size;clear hI;have E:=a_ hB.size;have HB:=a_ hB;clear hB;unfold De.f at h;have H:=h;clear h;replace H:=BR H;obtain⟨⟨t111,t112⟩,m,H⟩:=H;try dsimp only at H
 have B:=a_ m;clear m;by_cases c4:0≤t111
 ·rw[Ry c4]at H;have u:decide (0≤t111)=true:=BM c4;clear c4;by_cases c5:t111<(l1.length:Int)
  ·rw[Ry c5]at H;have v:decide (t111<(l1.length:Int))=true:=BM c5;clear c5;simp only[Option.some.injEq,Prod.mk.injEq]at H;obtain⟨rfl,rfl⟩:=H;go_enter Tryd.func53,Tryd.ntmps53;go_wp2_with(first|((with_reducible refine BQ (f:=16) rfl ?_);refine BW 9 R0 #[.pointer (some ⟨g,0,none⟩),.int .i64 (l1.length:Int)] ?_;(with_reducible refine(Ab.calls k g b i (l1.length:Int) t111 t112 w0 _ ?q' ?z' B.o).mono ?_);(case q'=>exact An);(case z'=>exact Ag);rintro e I ⟨rfl,hi,x,y⟩;refine⟨_,rfl,?_⟩;replace HK:=a_ (Ah.trans (E4) y (.inl rfl));replace HB:=a_ (x);replace HI0:=a_ (hi);(try clear x y hi);have c:0≤(t111:Int):=Bv;have d:t111<(l1.length:Int):=Bv;obtain⟨j,n,a⟩:=Kd.Mc r.o t111 c d;cases n;replace a:=Mm HK.o a (by first|(rw[FB];exact l _ rfl (by omega))|exact l _ rfl (by omega)|exact l j rfl (by omega));replace c:=RA c;replace d:=RA d));go_ret;exact⟨C8,An,Ag,E4⟩
  rw[Rz c5]at H;exact absurd H (by simp)
 rw[Rz c4]at H;exact absurd H (by simp)
def BK.l0:Nat->ByteArray->Int->List Int->Int->Option (ByteArray×Int)
 | 0,_,_,_,_=>none
 | k+1,g,i,a,e=>if i>0 then((De.f k a e (([(⟨#[97]⟩:ByteArray),(⟨#[98]⟩:ByteArray),(⟨#[99]⟩:ByteArray),(⟨#[100]⟩:ByteArray)]:List ByteArray))).bind λb=>(if g.size+b.1.size≤9223372036854775807 then(BK.l0 k (g++b.1) (wrap64 (i-1)) a b.2)else(none)))else((Ab.f k a e 40).bind λc=>(if c.1=0 then((De.f k a c.2 (([(⟨#[101]⟩:ByteArray),(⟨#[32]⟩:ByteArray),(⟨#[97,97,97,97]⟩:ByteArray),(⟨#[39]⟩:ByteArray)]:List ByteArray))).bind λd=>(if g.size+d.1.size≤9223372036854775807 then(some (g++d.1,d.2))else(none)))else(some (g,c.2))))
def BK.f(k:Nat)(b:List Int)(c:Int):Option (ByteArray×Int):=(Ab.f k b c 4).bind λa=>(BK.l0 k (⟨#[]⟩:ByteArray) a.1 b a.2)
theorem BK.calls(k:Nat)(g:Nat)(b:List Int)(y:Int)(W:ByteArray)(X:Int)(w0 w:World)(hI:Ad w0 w g b y)(hB:Below w0.heap.size w0 w)(h:BK.f k b y=some (W,X)) :
  Calls Tryd.prog 42 #[.pointer (some ⟨g,0,none⟩)] w λe w'=>e=.returned (.string W)∧Ad w0 w' g b X∧Below w0.heap.size w0 w'∧Ah w w' g none:=by
 have HI0:=a_ hI;have HK:=a_ (Ah.refl w g none);have HL:=a_ hB.size;clear hI;have ao:=a_ hB.size;have HB:=a_ hB;clear hB;unfold BK.f at h;have H:=h;clear h;replace H:=BR H;obtain⟨⟨t114,t115⟩,K,H⟩:=H;try dsimp only at H
 have A2:=a_ K;clear K;have Y:=a_ H;clear H;go_enter Tryd.func42,Tryd.ntmps42;go_wp2_with(first|((with_reducible refine BQ (f:=16) rfl ?_);refine BW 6 R0 #[.pointer (some ⟨g,0,none⟩),.int .i64 4] ?_;(with_reducible refine(Ab.calls k g b y 4 t114 t115 w0 _ ?q' ?z' A2.o).mono ?_);(case q'=>exact An);(case z'=>exact Ag);rintro e w3 ⟨rfl,hi,l,m⟩;refine⟨_,rfl,?_⟩;replace HK:=a_ (Ah.trans (E4) m (.inl rfl));replace HB:=a_ (l);replace HI0:=a_ (hi);(try clear l m hi)));go_loopg [3,4] k (λkq v3 v4 w'=>∃(c:ByteArray) (j:Int) (a:Int),v3=.string c∧v4=.int .i64 j∧Ac (BK.l0 kq c j b a=some (W,X))∧Ac (kq≤k)∧Ac (Ad w0 w' g b a)∧Ac (Ah w w' g none)∧Ac (Below w0.heap.size w0 w'))
 case atStart=>exact⟨((⟨#[]⟩:ByteArray)),(t114),(t115),(CA),(CA),Y,⟨RB _⟩,⟨An⟩,⟨E4⟩,⟨Ag⟩⟩
 clear Y;try clear c1
 obtain⟨c,j,a,rfl,rfl,HA,O,HI0,HK,HB⟩:=hrel;cases gk with
 | zero=>exact absurd HA.o (by simp[BK.l0])
 | succ E =>
  have H:=HA.o
  clear HA
  simp only[BK.l0]at H
  by_cases c4:j>0
  ·rw[Ry c4]at H
   have P:decide (0<j)=true:=BM c4
   clear c4
   obtain⟨z,hy_⟩:=EM (([(⟨#[97]⟩:ByteArray),(⟨#[98]⟩:ByteArray),(⟨#[99]⟩:ByteArray),(⟨#[100]⟩:ByteArray)]:List ByteArray))
   replace H:((De.f E b a z).bind λo=>(if c.size+o.1.size≤9223372036854775807 then(BK.l0 E (c++o.1) (wrap64 (j-1)) b o.2)else(none)))=some (W,X):=EN
   have t:=a_ hy_
   clear hy_
   replace H:=BR H
   obtain⟨⟨t119,t120⟩,L,H⟩:=H
   try dsimp only at H
   have A5:=a_ L
   clear L
   by_cases c6:c.size+t119.size≤9223372036854775807
   ·rw[Ry c6]at H
    have ai:=RA c6
    have aj:decide (c.size+t119.size≤9223372036854775807)=true:=BM c6
    try have ak:(9223372036854775807<c.size+t119.size)=False:=eq_false (Nat.not_lt.2 c6)
    have Y:=a_ H
    clear H
    go_wp2_with(first|((with_reducible refine BV (N:=13) rfl ?_);refine Kd.DG Kd.string _ 9 ?hg (N:=13) ?hd (xs:=([(⟨#[97]⟩:ByteArray),(⟨#[98]⟩:ByteArray),(⟨#[99]⟩:ByteArray),(⟨#[100]⟩:ByteArray)]:List ByteArray)) (inner:=[.string (⟨#[97]⟩:ByteArray),.string (⟨#[98]⟩:ByteArray),.string (⟨#[99]⟩:ByteArray),.string (⟨#[100]⟩:ByteArray)]) (ok:=λ_=>True) (okp:=λ_=>True) ?hr ?hp (λ_ m=>m) trivial (RG _ _) (RB _) (by simp) ?_;(case hd=>rfl);(case hg=>rfl);(case hr=>first|(go_simp;done)|(go_simp;rfl));(case hp=>exact(Bn.one (show Kd.M Kd.string _ _ _ (⟨#[97]⟩:ByteArray) [.string (⟨#[97]⟩:ByteArray)]from rfl) (Bn.one (show Kd.M Kd.string _ _ _ (⟨#[98]⟩:ByteArray) [.string (⟨#[98]⟩:ByteArray)]from rfl) (Bn.one (show Kd.M Kd.string _ _ _ (⟨#[99]⟩:ByteArray) [.string (⟨#[99]⟩:ByteArray)]from rfl) (Bn.one (show Kd.M Kd.string _ _ _ (⟨#[100]⟩:ByteArray) [.string (⟨#[100]⟩:ByteArray)]from rfl) (Bn.none _ _))))));intro al w7 x l DN r;clear DN r;(first|rw[<-t.o]at x|(simp only[Int.reduceToNat]at x;rw[<-t.o]at x));have d:=a_ (Kd.AU x (Cw (w:=w) (g:=g) (row:=none) (E4)));replace HK:=a_ (Ah.trans (E4) (Ah.Dl l g none) (.inl rfl));replace HB:=Bw l;replace HI0:=a_ (Ad.below (An) l);clear l x;obtain⟨aa,ag,ah⟩:=Kd.Be d.o;subst ah)|((with_reducible refine BQ (f:=53) rfl ?_);refine BW 14 Tryd.func53 #[.pointer (some ⟨g,0,none⟩),.slice aa z.length ag] ?_;(with_reducible refine(De.calls E g b a _ _ z t119 t120 w0 _ ?q' ?z' ?y' ?v' ?m' A5.o).mono ?_);(case q'=>exact An);(case z'=>exact Ag);(case y'=>exact E9 (Kd.At d.o).2.2);(case v'=>exact(Kd.At d.o).2.1);(case m'=>exact Jv (Ad.Gd HI0.o d.o (by decide)));rintro e aq ⟨rfl,hi,l,m⟩;refine⟨_,rfl,?_⟩;replace d:=a_ (Kd.Ai (Kd.Br (Ad.apart (show Ad w0 _ g b a from An) (AV d.o) (by decide)) m (λ_ h=>h.2)) (λ_ h=>h.1));replace HK:=a_ (Ah.trans (E4) m (.inl rfl));replace HB:=a_ (l);replace HI0:=a_ (hi);(try clear l m hi)))
    go_roundg E
    case measure=>have:=O.o;omega
    case rel=>exact⟨(c++t119),(wrap64 (j-1)),(t120),(CA),(CA),Y,⟨by have:=O.o;omega⟩,⟨An⟩,⟨E4⟩,⟨Ag⟩⟩
   ·rw[Rz c6]at H
    exact absurd H (by simp)
  ·rw[Rz c4]at H
   have P:decide (0<j)=false:=C9 c4
   clear c4
   replace H:=BR H
   obtain⟨⟨t121,t122⟩,B,H⟩:=H
   try dsimp only at H
   have J:=a_ B
   clear B
   by_cases q:t121=0
   ·rw[Ry q]at H
    have G:(t121==0)=true:=RO.mpr q
    have I:(t121 != 0)=false:=Fc q
    clear q
    obtain⟨A,hy_⟩:=EM (([(⟨#[101]⟩:ByteArray),(⟨#[32]⟩:ByteArray),(⟨#[97,97,97,97]⟩:ByteArray),(⟨#[39]⟩:ByteArray)]:List ByteArray))
    replace H:((De.f E b t122 A).bind λp=>(if c.size+p.1.size≤9223372036854775807 then(some (c++p.1,p.2))else(none)))=some (W,X):=EN
    have u:=a_ hy_
    clear hy_
    replace H:=BR H
    obtain⟨⟨t126,t127⟩,D,H⟩:=H
    try dsimp only at H
    have Z:=a_ D
    clear D
    by_cases v:c.size+t126.size≤9223372036854775807
    ·rw[Ry v]at H
     have ab:=RA v
     have ae:decide (c.size+t126.size≤9223372036854775807)=true:=BM v
     try have af:(9223372036854775807<c.size+t126.size)=False:=eq_false (Nat.not_lt.2 v)
     simp only[Option.some.injEq,Prod.mk.injEq]at H
     obtain⟨rfl,rfl⟩:=H
     go_wp2_with(first|((with_reducible refine BQ (f:=16) rfl ?_);refine BW 17 R0 #[.pointer (some ⟨g,0,none⟩),.int .i64 40] ?_;(with_reducible refine(Ab.calls E g b a 40 t121 t122 w0 _ ?q' ?z' J.o).mono ?_);(case q'=>exact An);(case z'=>exact Ag);rintro e ar ⟨rfl,hi,l,m⟩;refine⟨_,rfl,?_⟩;replace HK:=a_ (Ah.trans (E4) m (.inl rfl));replace HB:=a_ (l);replace HI0:=a_ (hi);(try clear l m hi))|((with_reducible refine BV (N:=21) rfl ?_);refine Kd.DG Kd.string _ 9 ?hg (N:=21) ?hd (xs:=([(⟨#[101]⟩:ByteArray),(⟨#[32]⟩:ByteArray),(⟨#[97,97,97,97]⟩:ByteArray),(⟨#[39]⟩:ByteArray)]:List ByteArray)) (inner:=[.string (⟨#[101]⟩:ByteArray),.string (⟨#[32]⟩:ByteArray),.string (⟨#[97,97,97,97]⟩:ByteArray),.string (⟨#[39]⟩:ByteArray)]) (ok:=λ_=>True) (okp:=λ_=>True) ?hr ?hp (λ_ m=>m) trivial (RG _ _) (RB _) (by simp) ?_;(case hd=>rfl);(case hg=>rfl);(case hr=>first|(go_simp;done)|(go_simp;rfl));(case hp=>exact(Bn.one (show Kd.M Kd.string _ _ _ (⟨#[101]⟩:ByteArray) [.string (⟨#[101]⟩:ByteArray)]from rfl) (Bn.one (show Kd.M Kd.string _ _ _ (⟨#[32]⟩:ByteArray) [.string (⟨#[32]⟩:ByteArray)]from rfl) (Bn.one (show Kd.M Kd.string _ _ _ (⟨#[97,97,97,97]⟩:ByteArray) [.string (⟨#[97,97,97,97]⟩:ByteArray)]from rfl) (Bn.one (show Kd.M Kd.string _ _ _ (⟨#[39]⟩:ByteArray) [.string (⟨#[39]⟩:ByteArray)]from rfl) (Bn.none _ _))))));intro an au n l DN r;clear DN r;(first|rw[<-u.o]at n|(simp only[Int.reduceToNat]at n;rw[<-u.o]at n));have i:=a_ (Kd.AU n (Cw (w:=w) (g:=g) (row:=none) (E4)));replace HK:=a_ (Ah.trans (E4) (Ah.Dl l g none) (.inl rfl));replace HB:=Bw l;replace HI0:=a_ (Ad.below (An) l);clear l n;obtain⟨M,T,U⟩:=Kd.Be i.o;subst U)|((with_reducible refine BQ (f:=53) rfl ?_);refine BW 22 Tryd.func53 #[.pointer (some ⟨g,0,none⟩),.slice M A.length T] ?_;(with_reducible refine(De.calls E g b t122 _ _ A t126 t127 w0 _ ?q' ?z' ?y' ?v' ?m' Z.o).mono ?_);(case q'=>exact An);(case z'=>exact Ag);(case y'=>exact E9 (Kd.At i.o).2.2);(case v'=>exact(Kd.At i.o).2.1);(case m'=>exact Jv (Ad.Gd HI0.o i.o (by decide)));rintro e av ⟨rfl,hi,l,m⟩;refine⟨_,rfl,?_⟩;replace i:=a_ (Kd.Ai (Kd.Br (Ad.apart (show Ad w0 _ g b t122 from An) (AV i.o) (by decide)) m (λ_ h=>h.2)) (λ_ h=>h.1));replace HK:=a_ (Ah.trans (E4) m (.inl rfl));replace HB:=a_ (l);replace HI0:=a_ (hi);(try clear l m hi)))
     go_ret
     exact⟨C8,An,Ag,E4⟩
    ·rw[Rz v]at H
     exact absurd H (by simp)
   ·rw[Rz q]at H
    have G:(t121==0)=false:=Dr q
    have I:(t121 != 0)=true:=RX.mpr q
    simp only[Option.some.injEq,Prod.mk.injEq]at H
    obtain⟨rfl,rfl⟩:=H
    go_wp2_with(first|((with_reducible refine BQ (f:=16) rfl ?_);refine BW 17 R0 #[.pointer (some ⟨g,0,none⟩),.int .i64 40] ?_;(with_reducible refine(Ab.calls E g b a 40 t121 t122 w0 _ ?q' ?z' J.o).mono ?_);(case q'=>exact An);(case z'=>exact Ag);rintro e aw ⟨rfl,hi,l,m⟩;refine⟨_,rfl,?_⟩;replace HK:=a_ (Ah.trans (E4) m (.inl rfl));replace HB:=a_ (l);replace HI0:=a_ (hi);(try clear l m hi)))
    go_ret
    exact⟨C8,An,Ag,E4⟩
mutual
def AX.j1:Nat->List Int->Int->Int->Int->Int->Int->ByteArray->Option (Int×Int×Int×Int×ByteArray×Int)
 | 0,_,_,_,_,_,_,_=>none
 | k+1,i,o,c,d,e,g,b=>(Ab.f k i o 30).bind λa=>(if a.1=0 then((Ab.f k i a.2 5).bind λj=>(some (j.1,d,e,g,b,j.2)))else(if a.1=1 then((Ab.f k i a.2 50).bind λl=>(some (c,l.1,e,g,b,l.2)))else(if a.1=2 then((Ab.f k i a.2 50).bind λm=>(some (c,d,m.1,g,b,m.2)))else(if a.1=3 then((Ab.f k i a.2 50).bind λn=>(some (c,d,e,n.1,b,n.2)))else(some (c,d,e,g,b,a.2))))))
def AX.j0:Nat->Int->Int->Int->Bool->List Int->Int->Int->Int->Int->Int->ByteArray->Option (Int×Int×Int×Int×ByteArray×Int)
 | 0,_,_,_,_,_,_,_,_,_,_,_=>none
 | k+1,m,n,j,l,b,c,e,a,g,i,d=>if l=true then(AX.j1 k b c 1 a m n d)else(if j=2 then(AX.j1 k b c 3 a m n (⟨#[]⟩:ByteArray))else(if j=3 then(AX.j1 k b c 3 a m n (⟨#[]⟩:ByteArray))else(AX.j1 k b c e a g i d)))
end
def AX.f(k:Nat)(b:List Int)(n:Int):Option (Int×Int×Int×Int×ByteArray×Int):=(CH.f k b n).bind λe=>((BK.f k b e.2).bind λg=>((CH.f k b g.2).bind λi=>((some (([1,1,i.1,2,3]:List Int):List Int)).bind λl=>((Ab.f k b i.2 5).bind λc=>(if 0≤c.1 then(if c.1<(l.length:Int)then((CH.f k b c.2).bind λj=>((some (([0,j.1]:List Int):List Int)).bind λm=>((Ab.f k b j.2 2).bind λd=>(if 0≤d.1 then(if d.1<(m.length:Int)then((Ab.f k b d.2 5).bind λa=>(if a.1=0 then(AX.j0 k (rd l c.1) (rd m d.1) a.1 (a.1==0) b a.2 2 e.1 0 0 g.1)else(AX.j0 k (rd l c.1) (rd m d.1) a.1 (a.1==1) b a.2 2 e.1 0 0 g.1)))else(none))else(none)))))else(none))else(none))))))
theorem AX.calls(k:Nat)(g:Nat)(i:List Int)(ao:Int)(r1:Int)(r2:Int)(r3:Int)(r4:Int)(r5:ByteArray)(r6:Int)(w0 w:World)(hI:Ad w0 w g i ao)(hB:Below w0.heap.size w0 w)(h:AX.f k i ao=some (r1,r2,r3,r4,r5,r6)) :
  Calls Tryd.prog 23 #[.pointer (some ⟨g,0,none⟩)] w λe w'=>e=.returned (.agg #[.int .i64 r1,.int .i64 r2,.int .i64 r3,.int .i64 r4,.string r5])∧Ad w0 w' g i r6∧Below w0.heap.size w0 w'∧Ah w w' g none:=by
 have fp:=RW;have HI0:=a_ hI;have HK:=a_ (Ah.refl w g none);have HL:=a_ hB.size;clear hI;have bZ:=a_ hB.size;have HB:=a_ hB;clear hB;unfold AX.f at h;have H:=h;clear h;replace H:=BR H;obtain⟨⟨t129,t130⟩,bT,H⟩:=H;try dsimp only at H
 have A2:=a_ bT;clear bT;replace H:=BR H;obtain⟨⟨t131,t132⟩,bU,H⟩:=H;try dsimp only at H
 have A3:=a_ bU;clear bU;replace H:=BR H;obtain⟨⟨t134,t135⟩,bV,H⟩:=H;try dsimp only at H
 have A4:=a_ bV;clear bV;obtain⟨I,hy_⟩:=EM (([1,1,t134,2,3]:List Int));replace H:((Ab.f k i t135 5).bind λX=>(if 0≤X.1 then(if X.1<(I.length:Int)then((CH.f k i X.2).bind λaS=>((some (([0,aS.1]:List Int):List Int)).bind λD=>((Ab.f k i aS.2 2).bind λE=>(if 0≤E.1 then(if E.1<(D.length:Int)then((Ab.f k i E.2 5).bind λz=>(if z.1=0 then(AX.j0 k (rd I X.1) (rd D E.1) z.1 (z.1==0) i z.2 2 t129 0 0 t131)else(AX.j0 k (rd I X.1) (rd D E.1) z.1 (z.1==1) i z.2 2 t129 0 0 t131)))else(none))else(none)))))else(none))else(none)))=some (r1,r2,r3,r4,r5,r6):=EN;have aG:=a_ hy_;clear hy_;replace H:=BR H;obtain⟨⟨t139,t140⟩,bW,H⟩:=H;try dsimp only at H
 have A5:=a_ bW;clear bW;by_cases c6:0≤t139
 ·rw[Ry c6]at H;have a6:decide (0≤t139)=true:=BM c6;clear c6;by_cases c7:t139<(I.length:Int)
  ·rw[Ry c7]at H;have a7:decide (t139<(I.length:Int))=true:=BM c7;clear c7;replace H:=BR H;obtain⟨⟨Z,aq⟩,bX,H⟩:=H;try dsimp only at H
   have A8:=a_ bX;clear bX;obtain⟨D,hy_⟩:=EM (([0,Z]:List Int));replace H:((Ab.f k i aq 2).bind λE=>(if 0≤E.1 then(if E.1<(D.length:Int)then((Ab.f k i E.2 5).bind λz=>(if z.1=0 then(AX.j0 k (rd I t139) (rd D E.1) z.1 (z.1==0) i z.2 2 t129 0 0 t131)else(AX.j0 k (rd I t139) (rd D E.1) z.1 (z.1==1) i z.2 2 t129 0 0 t131)))else(none))else(none)))=some (r1,r2,r3,r4,r5,r6):=EN;have aH:=a_ hy_;clear hy_;replace H:=BR H;obtain⟨⟨G,aB⟩,bY,H⟩:=H;try dsimp only at H
   have A9:=a_ bY;clear bY;by_cases DM:0≤G
   ·rw[Ry DM]at H;have aT:decide (0≤G)=true:=BM DM;clear DM;by_cases aC:G<(D.length:Int)
    ·rw[Ry aC]at H;have aU:decide (G<(D.length:Int))=true:=BM aC;clear aC;replace H:=BR H;obtain⟨⟨y,J⟩,a0,H⟩:=H;try dsimp only at H
     have cf:=a_ a0;clear a0;have aE:=a_ H;clear H;go_enter Tryd.func23,Tryd.ntmps23;go_upto_block 0 with(first|((with_reducible refine BV (N:=2) rfl ?_);refine Cy 2 (#[.int .i64 0,.int .i64 0,.int .i64 0,.int .i64 0,.string (⟨#[]⟩:ByteArray)]) 30 ?_;intro r hg fu af q;have a:=a_ (af);have cp:=a_ ((by rw[hg];exact(Cw (w:=w) (g:=g) (row:=none) (E4)):w.heap.size≤r));have cm:=a_ ((RJ bZ.o (by rw[hg];exact(Cw (w:=w) (g:=g) (row:=none) (E4)):w.heap.size≤r):w0.heap.size≤r));have L:=a_ ((by rw[hg];exact RN (Ad.lt (show Ad w0 _ g i ao from An)):g≠r));have j:=a_ ((by rw[hg];exact RM (Ad.lt (show Ad w0 _ g i ao from An)):r≠g));replace HI0:=a_ (Ad.below (An) q);replace HK:=a_ (Ah.trans (E4) (Ah.Dl q g none) (.inl rfl));replace HB:=Bw q;clear q af hg)|((with_reducible refine BQ (f:=41) rfl ?_);refine BW 7 TH #[.pointer (some ⟨g,0,none⟩)] ?_;(with_reducible refine(CH.calls k g i ao t129 t130 w0 _ ?q' ?z' A2.o).mono ?_);(case q'=>exact An);(case z'=>exact Ag);rintro e fv ⟨rfl,hi,q,l⟩;refine⟨_,rfl,?_⟩;replace a:=a_ (FY l a.o j.o);replace HK:=a_ (Ah.trans (D4 HK.o) l (.inl rfl));replace HB:=a_ (q);replace HI0:=a_ (hi);(try clear q l hi))|((with_reducible refine BQ (f:=42) rfl ?_);refine BW 9 Tryd.func42 #[.pointer (some ⟨g,0,none⟩)] ?_;(with_reducible refine(BK.calls k g i t130 t131 t132 w0 _ ?q' ?z' A3.o).mono ?_);(case q'=>exact An);(case z'=>exact Ag);rintro e fw ⟨rfl,hi,q,l⟩;refine⟨_,rfl,?_⟩;replace a:=a_ (FY l a.o j.o);replace HK:=a_ (Ah.trans (D4 HK.o) l (.inl rfl));replace HB:=a_ (q);replace HI0:=a_ (hi);(try clear q l hi))|((with_reducible refine BV (N:=3) rfl ?_);refine Cy 3 (#[.int .i64 0,.int .i64 0,.int .i64 0,.int .i64 0,.string (⟨#[]⟩:ByteArray)]) 30 ?_;intro K hg fx af q;have b:=a_ (af);have cq:=a_ ((by rw[hg];exact(Cw (w:=w) (g:=g) (row:=none) (D4 HK.o)):w.heap.size≤K));have cn:=a_ ((RJ bZ.o (by rw[hg];exact(Cw (w:=w) (g:=g) (row:=none) (D4 HK.o)):w.heap.size≤K):w0.heap.size≤K));have c:=a_ ((by rw[hg];exact RN (Av (g:=r) (o:=.cells #[.int .i64 0,.int .i64 0,.int .i64 0,.int .i64 0,.string (⟨#[]⟩:ByteArray)] 30 (0,0)) (Bc a.o)):r≠K));have n:=a_ ((by rw[hg];exact RM (Av (g:=r) (o:=.cells #[.int .i64 0,.int .i64 0,.int .i64 0,.int .i64 0,.string (⟨#[]⟩:ByteArray)] 30 (0,0)) (Bc a.o)):K≠r));have A:=a_ ((by rw[hg];exact RN (Ad.lt (show Ad w0 _ g i t132 from An)):g≠K));have d:=a_ ((by rw[hg];exact RM (Ad.lt (show Ad w0 _ g i t132 from An)):K≠g));replace HI0:=a_ (Ad.below (An) q);replace a:=a_ (Cr a.o q);replace HK:=a_ (Ah.trans (D4 HK.o) (Ah.Dl q g none) (.inl rfl));replace HB:=Bw q;clear q af hg;have ew:=n.o;have eU:=c.o;have ey:=d.o;have eV:=A.o;obtain⟨aN,aO,aP,aQ,aR,aI,aJ,aK,aL,aM⟩:=CI b.o)|((with_reducible refine BQ (f:=41) rfl ?_);refine BW 12 TH #[.pointer (some ⟨g,0,none⟩)] ?_;(with_reducible refine(CH.calls k g i t132 t134 t135 w0 _ ?q' ?z' A4.o).mono ?_);(case q'=>exact An);(case z'=>exact Ag);rintro e fy ⟨rfl,hi,q,l⟩;refine⟨_,rfl,?_⟩;replace a:=a_ (Ah.Ex l (g':=r) (o:=.cells #[.int .i64 0,.int .i64 0,.int .i64 0,.int .i64 0,.string (⟨#[]⟩:ByteArray)] 30 (0,0)) (CZ c.o a.o) j.o (by simp));replace b:=a_ (Ah.Ex l (g':=K) (o:=.cells #[.int .i64 2,.int .i64 t129,.int .i64 0,.int .i64 0,.string t131] 30 (0,0)) (GN b.o) d.o (by simp));replace HK:=a_ (Ah.trans (D4 HK.o) l (.inl rfl));replace HB:=a_ (q);replace HI0:=a_ (hi);(try clear q l hi))|((with_reducible refine BV (N:=13) rfl ?_);refine Kd.DG (Kd.int .i64) _ 3 ?hg (N:=13) ?hd (xs:=([1,1,t134,2,3]:List Int)) (inner:=[.int .i64 1,.int .i64 1,.int .i64 t134,.int .i64 2,.int .i64 3]) (ok:=λ_=>True) (okp:=λ_=>True) ?hr ?hp (λ_ l=>l) trivial (RG _ _) (RB _) (by simp) ?_;(case hd=>rfl);(case hg=>rfl);(case hr=>first|(go_simp;done)|(go_simp;rfl));(case hp=>exact(Bn.one (show Kd.M (Kd.int .i64) _ _ _ 1 [.int .i64 1]from rfl) (Bn.one (show Kd.M (Kd.int .i64) _ _ _ 1 [.int .i64 1]from rfl) (Bn.one (show Kd.M (Kd.int .i64) _ _ _ t134 [.int .i64 t134]from rfl) (Bn.one (show Kd.M (Kd.int .i64) _ _ _ 2 [.int .i64 2]from rfl) (Bn.one (show Kd.M (Kd.int .i64) _ _ _ 3 [.int .i64 3]from rfl) (Bn.none _ _)))))));intro fq fz ag q DN ay;clear DN ay;(first|rw[<-aG.o]at ag|(simp only[Int.reduceToNat]at ag;rw[<-aG.o]at ag));have B:=a_ (Kd.AU ag (Cw (w:=w) (g:=g) (row:=none) (D4 HK.o)));replace HK:=a_ (Ah.trans (D4 HK.o) (Ah.Dl q g none) (.inl rfl));replace HB:=Bw q;replace HI0:=a_ (Ad.below (An) q);replace a:=a_ (Cr a.o q);replace b:=a_ (Cr b.o q);clear q ag)|((with_reducible refine BQ (f:=16) rfl ?_);refine BW 15 R0 #[.pointer (some ⟨g,0,none⟩),.int .i64 5] ?_;(with_reducible refine(Ab.calls k g i t135 5 t139 t140 w0 _ ?q' ?z' A5.o).mono ?_);(case q'=>exact An);(case z'=>exact Ag);rintro e fA ⟨rfl,hi,q,l⟩;refine⟨_,rfl,?_⟩;replace a:=a_ (FY l a.o j.o);replace b:=a_ (FY l b.o d.o);replace B:=a_ (Kd.Ai (Kd.Br (Ad.apart (show Ad w0 _ g i t135 from An) (AV B.o) (by decide)) l (λ_ h=>h.2)) (λ_ h=>h.1));replace HK:=a_ (Ah.trans (D4 HK.o) l (.inl rfl));replace HB:=a_ (q);replace HI0:=a_ (hi);(try clear q l hi);obtain⟨fj,fm,b8⟩:=Kd.Be B.o;subst b8;have aj:0≤(t139:Int):=Bv;have al:t139<(I.length:Int):=Bv;obtain⟨eu,b6,ah⟩:=Kd.Fu (Kd.At B.o).2.2 t139 aj al;cases b6;replace aj:=RA aj;replace al:=RA al)|((with_reducible refine BQ (f:=41) rfl ?_);refine BW 19 TH #[.pointer (some ⟨g,0,none⟩)] ?_;(with_reducible refine(CH.calls k g i t140 Z aq w0 _ ?q' ?z' A8.o).mono ?_);(case q'=>exact An);(case z'=>exact Ag);rintro e fB ⟨rfl,hi,q,l⟩;refine⟨_,rfl,?_⟩;replace a:=a_ (FY l a.o j.o);replace b:=a_ (FY l b.o d.o);replace B:=a_ (Kd.Ai (Kd.Br (Ad.apart (show Ad w0 _ g i t140 from An) (AV B.o) (by decide)) l (λ_ h=>h.2)) (λ_ h=>h.1));replace HK:=a_ (Ah.trans (D4 HK.o) l (.inl rfl));replace HB:=a_ (q);replace HI0:=a_ (hi);(try clear q l hi))|((with_reducible refine BV (N:=20) rfl ?_);refine Kd.DG (Kd.int .i64) _ 3 ?hg (N:=20) ?hd (xs:=([0,Z]:List Int)) (inner:=[.int .i64 0,.int .i64 Z]) (ok:=λ_=>True) (okp:=λ_=>True) ?hr ?hp (λ_ l=>l) trivial (RG _ _) (RB _) (by simp) ?_;(case hd=>rfl);(case hg=>rfl);(case hr=>first|(go_simp;done)|(go_simp;rfl));(case hp=>exact(Bn.one (show Kd.M (Kd.int .i64) _ _ _ 0 [.int .i64 0]from rfl) (Bn.one (show Kd.M (Kd.int .i64) _ _ _ Z [.int .i64 Z]from rfl) (Bn.none _ _))));intro ft fC Y q DN ay;clear DN ay;(first|rw[<-aH.o]at Y|(simp only[Int.reduceToNat]at Y;rw[<-aH.o]at Y));have T:=a_ (Kd.AU (Kd.Et Y (Kd.EH (AV B.o))) (Cw (w:=w) (g:=g) (row:=none) (D4 HK.o)));replace B:=a_ (Kd.Dq (AV B.o) (Kd.Ch Y) q);replace HK:=a_ (Ah.trans (D4 HK.o) (Ah.Dl q g none) (.inl rfl));replace HB:=Bw q;replace HI0:=a_ (Ad.below (An) q);replace a:=a_ (Cr a.o q);replace b:=a_ (Cr b.o q);clear q Y)|((with_reducible refine BQ (f:=16) rfl ?_);refine BW 22 R0 #[.pointer (some ⟨g,0,none⟩),.int .i64 2] ?_;(with_reducible refine(Ab.calls k g i aq 2 G aB w0 _ ?q' ?z' A9.o).mono ?_);(case q'=>exact An);(case z'=>exact Ag);rintro e fD ⟨rfl,hi,q,l⟩;refine⟨_,rfl,?_⟩;replace a:=a_ (FY l a.o j.o);replace b:=a_ (FY l b.o d.o);replace B:=a_ (Kd.Ai (Kd.Br (Ad.apart (show Ad w0 _ g i aq from An) (AV B.o) (by decide)) l (λ_ h=>h.2)) (λ_ h=>h.1));replace T:=a_ (Kd.Ai (Kd.Br (Ad.apart (show Ad w0 _ g i aq from An) (AV T.o) (by decide)) l (λ_ h=>h.2)) (λ_ h=>h.1));replace HK:=a_ (Ah.trans (D4 HK.o) l (.inl rfl));replace HB:=a_ (q);replace HI0:=a_ (hi);(try clear q l hi);obtain⟨fk,fo,b9⟩:=Kd.Be T.o;subst b9;have ak:0≤(G:Int):=Bv;have an:G<(D.length:Int):=Bv;obtain⟨ev,b7,ai⟩:=Kd.Fu (Kd.At T.o).2.2 G ak an;cases b7;replace ak:=RA ak;replace an:=RA an)|((with_reducible refine BQ (f:=16) rfl ?_);refine BW 26 R0 #[.pointer (some ⟨g,0,none⟩),.int .i64 5] ?_;(with_reducible refine(Ab.calls k g i aB 5 y J w0 _ ?q' ?z' cf.o).mono ?_);(case q'=>exact An);(case z'=>exact Ag);rintro e fE ⟨rfl,hi,q,l⟩;refine⟨_,rfl,?_⟩;replace a:=a_ (FY l a.o j.o);replace b:=a_ (FY l b.o d.o);replace B:=a_ (Kd.Ai (Kd.Br (Ad.apart (show Ad w0 _ g i aB from An) (AV B.o) (by decide)) l (λ_ h=>h.2)) (λ_ h=>h.1));replace T:=a_ (Kd.Ai (Kd.Br (Ad.apart (show Ad w0 _ g i aB from An) (AV T.o) (by decide)) l (λ_ h=>h.2)) (λ_ h=>h.1));replace HK:=a_ (Ah.trans (D4 HK.o) l (.inl rfl));replace HB:=a_ (q);replace HI0:=a_ (hi);(try clear q l hi)))
     (try simp only[Act.put,List.setIfInBounds_toArray,List.set_cons_zero,List.set_cons_succ]);go_cut [] (λwc=>∃(kq:Nat) (t:Int) (u:Int) (v:Int) (x:Int) (m:ByteArray),Ac (AX.j1 kq i J t u v x m=some (r1,r2,r3,r4,r5,r6))∧Ac (kq≤k)∧Ac (wc.heap[r]?=some (.cells #[.int .i64 0,.int .i64 0,.int .i64 0,.int .i64 0,.string (⟨#[]⟩:ByteArray)] 30 (0,0)))∧Ac (wc.heap[K]?=some (.cells #[.int .i64 t,.int .i64 u,.int .i64 v,.int .i64 x,.string m] 30 (0,0)))∧Ac (Ad w0 wc g i J)∧Ac (Ah w wc g none)∧Ac (Below w0.heap.size w0 wc))
     case first =>
      have H:=aE.o;clear aE;have aF:=a_ H;clear H;go_upto_if 27 with(fail)
      go_cut [27] (λfi wc=>∃(kq:Nat) (U:Bool),fi=.bool U∧Ac (AX.j0 kq (rd I t139) (rd D G) y U i J 2 t129 0 0 t131=some (r1,r2,r3,r4,r5,r6))∧Ac (kq≤k)∧Ac (wc.heap[r]?=some (.cells #[.int .i64 0,.int .i64 0,.int .i64 0,.int .i64 0,.string (⟨#[]⟩:ByteArray)] 30 (0,0)))∧Ac (wc.heap[K]?=some (.cells #[.int .i64 2,.int .i64 t129,.int .i64 0,.int .i64 0,.string t131] 30 (0,0)))∧Ac (Ad w0 wc g i J)∧Ac (Ah w wc g none)∧Ac (Below w0.heap.size w0 wc))
      case first =>
       have H:=aF.o;clear aF;by_cases aa:y=0
       ·rw[Ry aa]at H;have M:(y==0)=true:=RO.mpr aa;have ar:(y != 0)=false:=Fc aa;clear aa;(first|rw[M]|(simp only[BJ,BP];rw[M])|skip);have H':=a_ H;clear H;go_wp2;go_meet
        exact⟨_,((y==0)),(CA),H',⟨by first|omega|exact RB _⟩,⟨Bc a.o⟩,⟨Bc b.o⟩,⟨An⟩,⟨D4 HK.o⟩,⟨Ag⟩⟩
       rw[Rz aa]at H;have M:(y==0)=false:=Dr aa;have ar:(y != 0)=true:=RX.mpr aa;(first|rw[M]|(simp only[BJ,BP];rw[M])|skip);have H':=a_ H;clear H;go_wp2;go_meet
       exact⟨_,((y==1)),(CA),H',⟨by first|omega|exact RB _⟩,⟨Bc a.o⟩,⟨Bc b.o⟩,⟨An⟩,⟨D4 HK.o⟩,⟨Ag⟩⟩
      clear aF;try clear c1
      try clear c6
      try clear a6
      try clear c7
      try clear a7
      try clear DM
      try clear aT
      try clear aC
      try clear aU
      try clear aa
      try clear M
      try clear ar
      try clear ah
      try clear ai
      try clear aj
      try clear ak
      try clear al
      try clear an
      try clear aN aO aP aQ aR aI aJ aK aL aM
      obtain⟨kq,U,rfl,HA,az,a,b,HI0,HK,HB⟩:=hcut;cases kq with
      | zero=>exact absurd HA.o (by simp[AX.j0])
      | succ aA =>
       have H:=HA.o
       clear HA
       simp only[AX.j0]at H
       by_cases aV:U=true
       ·subst aV
        have H1:(AX.j1 aA i J 1 t129 (rd I t139) (rd D G) t131)=some (r1,r2,r3,r4,r5,r6):=by rw[Ry rfl]at H;exact H
        clear H
        have H:=H1
        clear H1
        have H':=a_ H
        clear H
        have ez:=n.o
        have eW:=c.o
        have eA:=d.o
        have eX:=A.o
        obtain⟨bu,bw,bx,bz,bA,bc,bd,be,bf,bg⟩:=CI (W:=wc) b.o
        go_wp2
        go_meet
        case rel=>exact⟨_,(1),(t129),((rd I t139)),((rd D G)),(t131),H',⟨by have:=az.o;first|omega|exact RB _⟩,⟨CZ c.o a.o⟩,⟨GN b.o⟩,⟨An⟩,⟨D4 HK.o⟩,⟨Ag⟩⟩
       ·replace aV:=RE.mpr aV
        subst aV
        have H1:(if y=2 then(AX.j1 aA i J 3 t129 (rd I t139) (rd D G) (⟨#[]⟩:ByteArray))else(if y=3 then(AX.j1 aA i J 3 t129 (rd I t139) (rd D G) (⟨#[]⟩:ByteArray))else(AX.j1 aA i J 2 t129 0 0 t131)))=some (r1,r2,r3,r4,r5,r6):=by rw[Rz (show¬ (false=true) by decide)]at H;exact H
        clear H
        have H:=H1
        clear H1
        by_cases ab:y=2
        ·rw[Ry ab]at H
         have aW:(y==2)=true:=RO.mpr ab
         have aX:(y != 2)=false:=Fc ab
         clear ab
         have H':=a_ H
         clear H
         have eB:=n.o
         have eY:=c.o
         have eC:=d.o
         have eZ:=A.o
         obtain⟨bB,bC,bD,bE,bF,bh,bj,bk,bl,bm⟩:=CI (W:=wc) b.o
         go_wp2
         go_meet
         case rel=>exact⟨_,(3),(t129),((rd I t139)),((rd D G)),((⟨#[]⟩:ByteArray)),H',⟨by have:=az.o;first|omega|exact RB _⟩,⟨CZ c.o a.o⟩,⟨GN b.o⟩,⟨An⟩,⟨D4 HK.o⟩,⟨Ag⟩⟩
        ·rw[Rz ab]at H
         have aW:(y==2)=false:=Dr ab
         have aX:(y != 2)=true:=RX.mpr ab
         by_cases ae:y=3
         ·rw[Ry ae]at H
          have aY:(y==3)=true:=RO.mpr ae
          have aZ:(y != 3)=false:=Fc ae
          clear ae
          have H':=a_ H
          clear H
          have eD:=n.o
          have e0:=c.o
          have eE:=d.o
          have e1:=A.o
          obtain⟨bG,bH,bI,bJ,bK,bn,bo,bp,bq,br⟩:=CI (W:=wc) b.o
          go_wp2
          go_meet
          case rel=>exact⟨_,(3),(t129),((rd I t139)),((rd D G)),((⟨#[]⟩:ByteArray)),H',⟨by have:=az.o;first|omega|exact RB _⟩,⟨CZ c.o a.o⟩,⟨GN b.o⟩,⟨An⟩,⟨D4 HK.o⟩,⟨Ag⟩⟩
         ·rw[Rz ae]at H
          have aY:(y==3)=false:=Dr ae
          have aZ:(y != 3)=true:=RX.mpr ae
          have H':=a_ H
          clear H
          go_wp2
          go_meet
          case rel=>exact⟨_,(2),(t129),(0),(0),(t131),H',⟨by have:=az.o;first|omega|exact RB _⟩,⟨Bc a.o⟩,⟨Bc b.o⟩,⟨An⟩,⟨D4 HK.o⟩,⟨Ag⟩⟩
     clear aE;try clear c1
     try clear c6
     try clear a6
     try clear c7
     try clear a7
     try clear DM
     try clear aT
     try clear aC
     try clear aU
     try clear aa
     try clear M
     try clear ar
     try clear aV
     try clear ab
     try clear aW
     try clear aX
     try clear ae
     try clear aY
     try clear aZ
     try clear ah
     try clear ai
     try clear aj
     try clear ak
     try clear al
     try clear an
     try clear aN aO aP aQ aR aI aJ aK aL aM
     try clear bu bw bx bz bA bc bd be bf bg
     try clear bB bC bD bE bF bh bj bk bl bm
     try clear bG bH bI bJ bK bn bo bp bq br
     obtain⟨kq,t,u,v,x,m,HA,fl,a,b,HI0,HK,HB⟩:=hcut;cases kq with
     | zero=>exact absurd HA.o (by simp[AX.j1])
     | succ O =>
      have H:=HA.o
      clear HA
      simp only[AX.j1]at H
      replace H:=BR H
      obtain⟨⟨p,P⟩,a1,H⟩:=H
      try dsimp only at H
      have aD:=a_ a1
      clear a1
      by_cases au:p=0
      ·rw[Ry au]at H
       have bL:(p==0)=true:=RO.mpr au
       have bM:(p != 0)=false:=Fc au
       clear au
       replace H:=BR H
       obtain⟨⟨a8,b_⟩,a2,H⟩:=H
       try dsimp only at H
       have cg:=a_ a2
       clear a2
       simp only[Option.some.injEq,Prod.mk.injEq]at H
       obtain⟨rfl,rfl,rfl,rfl,rfl,rfl⟩:=H
       go_wp2_with(first|((with_reducible refine BQ (f:=16) rfl ?_);refine BW 46 R0 #[.pointer (some ⟨g,0,none⟩),.int .i64 30] ?_;(with_reducible refine(Ab.calls O g i J 30 p P w0 _ ?q' ?z' aD.o).mono ?_);(case q'=>exact An);(case z'=>exact Ag);rintro e fF ⟨rfl,hi,q,l⟩;refine⟨_,rfl,?_⟩;replace a:=a_ (FY l a.o j.o);replace b:=a_ (FY l b.o d.o);replace HK:=a_ (Ah.trans (D4 HK.o) l (.inl rfl));replace HB:=a_ (q);replace HI0:=a_ (hi);(try clear q l hi))|((with_reducible refine BQ (f:=16) rfl ?_);refine BW 50 R0 #[.pointer (some ⟨g,0,none⟩),.int .i64 5] ?_;(with_reducible refine(Ab.calls O g i P 5 a8 b_ w0 _ ?q' ?z' cg.o).mono ?_);(case q'=>exact An);(case z'=>exact Ag);rintro e fG ⟨rfl,hi,q,l⟩;refine⟨_,rfl,?_⟩;replace a:=a_ (FY l a.o j.o);replace b:=a_ (FY l b.o d.o);replace HK:=a_ (Ah.trans (D4 HK.o) l (.inl rfl));replace HB:=a_ (q);replace HI0:=a_ (hi);(try clear q l hi);have eF:=n.o;have e2:=c.o;have eG:=d.o;have e3:=A.o;obtain⟨dq,dr,du,dv,dw,cr,ct,cu,cv,cw⟩:=CI b.o;have eH:=j.o;have e4:=L.o;obtain⟨dx,dy,dz,dA,dB,cx,cy,cz,cA,cB⟩:=CI a.o))
       refine RH (RF rfl _ _ r 30 #[.int .i64 a8,.int .i64 u,.int .i64 v,.int .i64 x,.string m] (0,0) _ rfl (Hs c.o a.o) RW rfl (by kernel_rfl)) rfl ?_
       exact⟨C8,An,Ag,D4 HK.o⟩
      ·rw[Rz au]at H
       have bL:(p==0)=false:=Dr au
       have bM:(p != 0)=true:=RX.mpr au
       by_cases av:p=1
       ·rw[Ry av]at H
        have bN:(p==1)=true:=RO.mpr av
        have bO:(p != 1)=false:=Fc av
        clear av
        replace H:=BR H
        obtain⟨⟨a9,ca⟩,a3,H⟩:=H
        try dsimp only at H
        have cj:=a_ a3
        clear a3
        simp only[Option.some.injEq,Prod.mk.injEq]at H
        obtain⟨rfl,rfl,rfl,rfl,rfl,rfl⟩:=H
        go_wp2_with(first|((with_reducible refine BQ (f:=16) rfl ?_);refine BW 46 R0 #[.pointer (some ⟨g,0,none⟩),.int .i64 30] ?_;(with_reducible refine(Ab.calls O g i J 30 p P w0 _ ?q' ?z' aD.o).mono ?_);(case q'=>exact An);(case z'=>exact Ag);rintro e fH ⟨rfl,hi,q,l⟩;refine⟨_,rfl,?_⟩;replace a:=a_ (FY l a.o j.o);replace b:=a_ (FY l b.o d.o);replace HK:=a_ (Ah.trans (D4 HK.o) l (.inl rfl));replace HB:=a_ (q);replace HI0:=a_ (hi);(try clear q l hi))|((with_reducible refine BQ (f:=16) rfl ?_);refine BW 55 R0 #[.pointer (some ⟨g,0,none⟩),.int .i64 50] ?_;(with_reducible refine(Ab.calls O g i P 50 a9 ca w0 _ ?q' ?z' cj.o).mono ?_);(case q'=>exact An);(case z'=>exact Ag);rintro e fI ⟨rfl,hi,q,l⟩;refine⟨_,rfl,?_⟩;replace a:=a_ (FY l a.o j.o);replace b:=a_ (FY l b.o d.o);replace HK:=a_ (Ah.trans (D4 HK.o) l (.inl rfl));replace HB:=a_ (q);replace HI0:=a_ (hi);(try clear q l hi);have eI:=n.o;have e5:=c.o;have eJ:=d.o;have e6:=A.o;obtain⟨dC,dD,dE,dF,dG,cC,cD,cE,cF,cG⟩:=CI b.o;have eK:=j.o;have e7:=L.o;obtain⟨dH,dI,dJ,dK,dL,cH,cI,cJ,cK,cL⟩:=CI a.o))
        refine RH (RF rfl _ _ r 30 #[.int .i64 t,.int .i64 a9,.int .i64 v,.int .i64 x,.string m] (0,0) _ rfl (Hs c.o a.o) RW rfl (by kernel_rfl)) rfl ?_
        exact⟨C8,An,Ag,D4 HK.o⟩
       ·rw[Rz av]at H
        have bN:(p==1)=false:=Dr av
        have bO:(p != 1)=true:=RX.mpr av
        by_cases aw:p=2
        ·rw[Ry aw]at H
         have bP:(p==2)=true:=RO.mpr aw
         have bQ:(p != 2)=false:=Fc aw
         clear aw
         replace H:=BR H
         obtain⟨⟨ba,cb⟩,a4,H⟩:=H
         try dsimp only at H
         have ck:=a_ a4
         clear a4
         simp only[Option.some.injEq,Prod.mk.injEq]at H
         obtain⟨rfl,rfl,rfl,rfl,rfl,rfl⟩:=H
         go_wp2_with(first|((with_reducible refine BQ (f:=16) rfl ?_);refine BW 46 R0 #[.pointer (some ⟨g,0,none⟩),.int .i64 30] ?_;(with_reducible refine(Ab.calls O g i J 30 p P w0 _ ?q' ?z' aD.o).mono ?_);(case q'=>exact An);(case z'=>exact Ag);rintro e fJ ⟨rfl,hi,q,l⟩;refine⟨_,rfl,?_⟩;replace a:=a_ (FY l a.o j.o);replace b:=a_ (FY l b.o d.o);replace HK:=a_ (Ah.trans (D4 HK.o) l (.inl rfl));replace HB:=a_ (q);replace HI0:=a_ (hi);(try clear q l hi))|((with_reducible refine BQ (f:=16) rfl ?_);refine BW 60 R0 #[.pointer (some ⟨g,0,none⟩),.int .i64 50] ?_;(with_reducible refine(Ab.calls O g i P 50 ba cb w0 _ ?q' ?z' ck.o).mono ?_);(case q'=>exact An);(case z'=>exact Ag);rintro e fK ⟨rfl,hi,q,l⟩;refine⟨_,rfl,?_⟩;replace a:=a_ (FY l a.o j.o);replace b:=a_ (FY l b.o d.o);replace HK:=a_ (Ah.trans (D4 HK.o) l (.inl rfl));replace HB:=a_ (q);replace HI0:=a_ (hi);(try clear q l hi);have eL:=n.o;have e8:=c.o;have eM:=d.o;have e9:=A.o;obtain⟨dM,dN,dO,dP,dQ,cM,cN,cO,cP,cQ⟩:=CI b.o;have eN:=j.o;have e_:=L.o;obtain⟨dR,dS,dT,dU,dV,cR,cS,cT,cU,cV⟩:=CI a.o))
         refine RH (RF rfl _ _ r 30 #[.int .i64 t,.int .i64 u,.int .i64 ba,.int .i64 x,.string m] (0,0) _ rfl (Hs c.o a.o) RW rfl (by kernel_rfl)) rfl ?_
         exact⟨C8,An,Ag,D4 HK.o⟩
        ·rw[Rz aw]at H
         have bP:(p==2)=false:=Dr aw
         have bQ:(p != 2)=true:=RX.mpr aw
         by_cases ax:p=3
         ·rw[Ry ax]at H
          have bR:(p==3)=true:=RO.mpr ax
          have bS:(p != 3)=false:=Fc ax
          clear ax
          replace H:=BR H
          obtain⟨⟨bb,cd⟩,a5,H⟩:=H
          try dsimp only at H
          have cl:=a_ a5
          clear a5
          simp only[Option.some.injEq,Prod.mk.injEq]at H
          obtain⟨rfl,rfl,rfl,rfl,rfl,rfl⟩:=H
          go_wp2_with(first|((with_reducible refine BQ (f:=16) rfl ?_);refine BW 46 R0 #[.pointer (some ⟨g,0,none⟩),.int .i64 30] ?_;(with_reducible refine(Ab.calls O g i J 30 p P w0 _ ?q' ?z' aD.o).mono ?_);(case q'=>exact An);(case z'=>exact Ag);rintro e fL ⟨rfl,hi,q,l⟩;refine⟨_,rfl,?_⟩;replace a:=a_ (FY l a.o j.o);replace b:=a_ (FY l b.o d.o);replace HK:=a_ (Ah.trans (D4 HK.o) l (.inl rfl));replace HB:=a_ (q);replace HI0:=a_ (hi);(try clear q l hi))|((with_reducible refine BQ (f:=16) rfl ?_);refine BW 65 R0 #[.pointer (some ⟨g,0,none⟩),.int .i64 50] ?_;(with_reducible refine(Ab.calls O g i P 50 bb cd w0 _ ?q' ?z' cl.o).mono ?_);(case q'=>exact An);(case z'=>exact Ag);rintro e fM ⟨rfl,hi,q,l⟩;refine⟨_,rfl,?_⟩;replace a:=a_ (FY l a.o j.o);replace b:=a_ (FY l b.o d.o);replace HK:=a_ (Ah.trans (D4 HK.o) l (.inl rfl));replace HB:=a_ (q);replace HI0:=a_ (hi);(try clear q l hi);have eO:=n.o;have fa:=c.o;have eP:=d.o;have fb:=A.o;obtain⟨dW,dX,dY,dZ,d_,cW,cX,cY,cZ,c0⟩:=CI b.o;have eQ:=j.o;have fc:=L.o;obtain⟨ea,ec,ed,ee,ef,c_,da,db,dc,dd⟩:=CI a.o))
          refine RH (RF rfl _ _ r 30 #[.int .i64 t,.int .i64 u,.int .i64 v,.int .i64 bb,.string m] (0,0) _ rfl (Hs c.o a.o) RW rfl (by kernel_rfl)) rfl ?_
          exact⟨C8,An,Ag,D4 HK.o⟩
         ·rw[Rz ax]at H
          have bR:(p==3)=false:=Dr ax
          have bS:(p != 3)=true:=RX.mpr ax
          simp only[Option.some.injEq,Prod.mk.injEq]at H
          obtain⟨rfl,rfl,rfl,rfl,rfl,rfl⟩:=H
          go_wp2_with(first|((with_reducible refine BQ (f:=16) rfl ?_);refine BW 46 R0 #[.pointer (some ⟨g,0,none⟩),.int .i64 30] ?_;(with_reducible refine(Ab.calls O g i J 30 p P w0 _ ?q' ?z' aD.o).mono ?_);(case q'=>exact An);(case z'=>exact Ag);rintro e fN ⟨rfl,hi,q,l⟩;refine⟨_,rfl,?_⟩;replace a:=a_ (FY l a.o j.o);replace b:=a_ (FY l b.o d.o);replace HK:=a_ (Ah.trans (D4 HK.o) l (.inl rfl));replace HB:=a_ (q);replace HI0:=a_ (hi);(try clear q l hi);have eR:=n.o;have fe:=c.o;have eS:=d.o;have fg:=A.o;obtain⟨eg,eh,ei,ej,ek,de,df,dg,dh,di⟩:=CI b.o;have eT:=j.o;have fh:=L.o;obtain⟨en,eo,ep,er,et,dj,dk,dm,dn,dp⟩:=CI a.o))
          refine RH (RF rfl _ _ r 30 #[.int .i64 t,.int .i64 u,.int .i64 v,.int .i64 x,.string m] (0,0) _ rfl (GN a.o) RW rfl (by kernel_rfl)) rfl ?_
          exact⟨C8,An,Ag,D4 HK.o⟩
    rw[Rz aC]at H;exact absurd H (by simp)
   rw[Rz DM]at H;exact absurd H (by simp)
  rw[Rz c7]at H;exact absurd H (by simp)
 rw[Rz c6]at H;exact absurd H (by simp)
def EE.f  : Option ((List (AQ))×Int×Bool):=some ((([]:List (AQ))),0,true)
theorem EE.calls  (v:List (AQ))(x:Int)(y:Bool)(w:World)(h:EE.f  = some (v,x,y)) :
  Calls Tryd.prog 66 #[] w λe w'=>∃p:Value,e=.returned (.agg #[p,.int .i64 x,.bool y])∧Kd.R Ck 32 w' w.heap.size (λ_=>True) p v∧Below w.heap.size w w':=by have I:=Sh;have HB:=a_ (RG w.heap.size w);unfold EE.f at h;have H:=h;clear h;obtain⟨j,hy_⟩:=EM (([]:List (AQ)));replace H:(some (j,0,true))=some (v,x,y):=EN;have c:=a_ hy_;clear hy_;simp only[Option.some.injEq,Prod.mk.injEq]at H;obtain⟨rfl,rfl,rfl⟩:=H;go_enter Tryd.func66,Tryd.ntmps66;go_wp2_with(first|((with_reducible refine BV (N:=0) rfl ?_);refine Cy 0 (#[.slice none 0 0,.int .i64 0,.bool false]) 60 ?_;intro d hg w1 k m;have a:=a_ (k);have t:=BD w hg;have r:=BD w hg;replace HB:=Bw m;clear m k hg)|((with_reducible refine BV (N:=1) rfl ?_);refine Kd.DG Ck _ 32 ?hg (N:=1) ?hd (xs:=([]:List (AQ))) (inner:=[]) (ok:=λ_=>True) (okp:=λ_=>True) ?hr ?hp (λ_ q=>q) trivial (RG _ _) (RB _) (by simp) ?_;(case hd=>rfl);(case hg=>rfl);(case hr=>first|(go_simp;done)|(go_simp;rfl));(case hp=>exact(Bn.none _ _));intro J K i m DN l;clear DN l;(first|rw[<-c.o]at i|(simp only[Int.reduceToNat]at i;rw[<-c.o]at i));have b:=a_ (Kd.AU i (Af (Ag)));replace HB:=Bw m;replace a:=a_ (Cr a.o m);clear m i;obtain⟨n,o,u⟩:=Kd.Be b.o;subst u;obtain⟨D,E,G,z,A,B⟩:=DV a.o));refine RH (RF rfl _ _ d 60 #[.slice n j.length o,.int .i64 0,.bool true] (0,0) _ rfl (Ol a.o) Sh rfl (by kernel_rfl)) rfl ?_;exact⟨_,C8,by refine AV ?_;exact Kd.Ai (Mu (g:=d) (Kd.Aj b.o a.o (by decide)) (λ_ q=>q.2) (.slice n j.length o) (.int .i64 0) (.bool true)) (λ_ q=>trivial),Ag⟩
def Ar.f(a:Int)(b:Int)(c:Int):Option (Bool):=if a≥b then(some (decide (a≤c)))else(some false)
theorem Ar.calls(a:Int)(b:Int)(d:Int)(r:Bool)(w:World)(h:Ar.f a b d=some r) :
  Calls Tryd.prog 20 #[.int .i64 a,.int .i64 b,.int .i64 d] w λe w'=>e=.returned (.bool r)∧As w w':=by
 unfold Ar.f at h;have H:=h;clear h;by_cases c4:a≥b
 ·rw[Ry c4]at H;have c:decide (b≤a)=true:=BM c4;clear c4;obtain rfl:=CW H;go_enter Tryd.func20,Tryd.ntmps20;go_wp2;go_ret;exact⟨CA,by repeat(first|exact As.refl _|apply As.step)⟩
 rw[Rz c4]at H;have c:decide (b≤a)=false:=C9 c4;clear c4;obtain rfl:=CW H;go_enter Tryd.func20,Tryd.ntmps20;go_wp2;go_ret;exact⟨CA,by repeat(first|exact As.refl _|apply As.step)⟩
def Dp.f  : Option ((List (Ba))):=some (([(⟨1,0,(⟨#[]⟩:ByteArray)⟩:Ba),(⟨2,0,(⟨#[]⟩:ByteArray)⟩:Ba),(⟨3,0,(⟨#[]⟩:ByteArray)⟩:Ba)]:List (Ba)))
theorem Dp.calls  (r:List (Ba))(w:World)(h:Dp.f  = some r) :
  Calls Tryd.prog 62 #[] w λe w'=>∃g:Value,e=.returned (g)∧Kd.R Dd 68 w' w.heap.size (λ_=>True) g r∧Below w.heap.size w w':=by have k:=SI;have HB:=a_ (RG w.heap.size w);unfold Dp.f at h;have H:=h;clear h;obtain⟨i,hy_⟩:=EM (([(⟨1,0,(⟨#[]⟩:ByteArray)⟩:Ba),(⟨2,0,(⟨#[]⟩:ByteArray)⟩:Ba),(⟨3,0,(⟨#[]⟩:ByteArray)⟩:Ba)]:List (Ba)));replace H:(some i)=some r:=EN;have a:=a_ hy_;clear hy_;obtain rfl:=CW H;go_enter Tryd.func62,Tryd.ntmps62;go_wp2_with(first|((with_reducible refine BV (N:=4) rfl ?_);refine Kd.DG Dd _ 68 ?hg (N:=4) ?hd (xs:=([(⟨1,0,(⟨#[]⟩:ByteArray)⟩:Ba),(⟨2,0,(⟨#[]⟩:ByteArray)⟩:Ba),(⟨3,0,(⟨#[]⟩:ByteArray)⟩:Ba)]:List (Ba))) (inner:=[.int .i64 1,.int .i64 0,.string (⟨#[]⟩:ByteArray),.int .i64 2,.int .i64 0,.string (⟨#[]⟩:ByteArray),.int .i64 3,.int .i64 0,.string (⟨#[]⟩:ByteArray)]) (ok:=λ_=>True) (okp:=λ_=>True) ?hr ?hp (λ_ m=>m) trivial (RG _ _) (RB _) (by simp) ?_;(case hd=>rfl);(case hg=>rfl);(case hr=>first|(go_simp;done)|(go_simp;rfl));(case hp=>exact(Bn.c3 (show Kd.M Dd _ _ _ (⟨1,0,(⟨#[]⟩:ByteArray)⟩:Ba) [.int .i64 1,.int .i64 0,.string (⟨#[]⟩:ByteArray)]from(GG _ _ _ (⟨1,0,(⟨#[]⟩:ByteArray)⟩:Ba) )) (Bn.c3 (show Kd.M Dd _ _ _ (⟨2,0,(⟨#[]⟩:ByteArray)⟩:Ba) [.int .i64 2,.int .i64 0,.string (⟨#[]⟩:ByteArray)]from(GG _ _ _ (⟨2,0,(⟨#[]⟩:ByteArray)⟩:Ba) )) (Bn.c3 (show Kd.M Dd _ _ _ (⟨3,0,(⟨#[]⟩:ByteArray)⟩:Ba) [.int .i64 3,.int .i64 0,.string (⟨#[]⟩:ByteArray)]from(GG _ _ _ (⟨3,0,(⟨#[]⟩:ByteArray)⟩:Ba) )) (Bn.none _ _)))));intro l w1 b j DN d;clear DN d;(first|rw[<-a.o]at b|(simp only[Int.reduceToNat]at b;rw[<-a.o]at b));have c:=a_ (Kd.AU b (Af (Ag)));replace HB:=Bw j;clear j b));go_ret;exact⟨_,C8,by refine AV ?_;exact c.o,Ag⟩
def ED.f(c:Int):Option (Int×Int×(List (Ba))×(List (AQ))×Int×Int×Bool):=(Ar.f c 1 3).bind λa=>(if a=true then((Dp.f).bind λb=>(some (c,0,b,(([]:List (AQ))),0,0,true)))else(some (0,0,([]:List (Ba)),([]:List (AQ)),0,0,false)))
theorem ED.calls(p:Int)(I:Int)(J:Int)(K:List (Ba))(L:List (AQ))(M:Int)(O:Int)(P:Bool)(w:World)(h:ED.f p=some (I,J,K,L,M,O,P)) :
  Calls Tryd.prog 67 #[.int .i64 p] w λe w'=>∃U W:Value,e=.returned (.tuple #[.agg #[.int .i64 I,.int .i64 J,U,W,.int .i64 M,.int .i64 O],.bool P])∧Kd.R Dd 68 w' w.heap.size (λ_=>True) U K∧Kd.R Ck 32 w' w.heap.size (λ_=>True) W L∧Below w.heap.size w w':=by
 have aD:=RP;have HB:=a_ (RG w.heap.size w);unfold ED.f at h;have H:=h;clear h;replace H:=BR H;obtain⟨T,B,H⟩:=H;try dsimp only at H
 have A2:=a_ B;clear B;by_cases c3:T=true
 ·subst c3;have H1:((Dp.f).bind λc=>(some (p,0,c,(([]:List (AQ))),0,0,true)))=some (I,J,K,L,M,O,P):=by rw[Ry rfl]at H;exact H
  clear H;have H:=H1;clear H1;replace H:=BR H;obtain⟨c,D,H⟩:=H;try dsimp only at H
  have A4:=a_ D;clear D;obtain⟨l,hy_⟩:=EM (([]:List (AQ)));replace H:(some (p,0,c,l,0,0,true))=some (I,J,K,L,M,O,P):=EN;have o:=a_ hy_;clear hy_;simp only[Option.some.injEq,Prod.mk.injEq]at H;obtain⟨rfl,rfl,rfl,rfl,rfl,rfl,rfl⟩:=H;go_enter Tryd.func67,Tryd.ntmps67;go_wp2_with(first|((with_reducible refine BV (N:=2) rfl ?_);refine Cy 2 (#[.int .i64 0,.int .i64 0,.slice none 0 0,.slice none 0 0,.int .i64 0,.int .i64 0]) 26 ?_;intro b hg X i k;have a:=a_ (i);have x:=BD w hg;have v:=BD w hg;replace HB:=Bw k;clear k i hg)|((with_reducible refine BQ (f:=20) rfl ?_);refine BW 5 Sw #[.int .i64 p,.int .i64 1,.int .i64 3] ?_;(with_reducible refine(Ar.calls p 1 3 true _ A2.o).mono ?_);rintro e w' ⟨rfl,⟨nd,rfl⟩⟩;refine⟨_,rfl,?_⟩;(try(rw[Ey X];generalize j:World.drewN X _=X;replace a:Ac (X.heap[b]?=some (.cells #[.int .i64 0,.int .i64 0,.slice none 0 0,.slice none 0 0,.int .i64 0,.int .i64 0] 26 (0,0))):=⟨by rw[<-j];exact(Bc a.o)⟩;replace HB:Ac (Below w.heap.size w X):=⟨by rw[<-j];exact(Ag)⟩;clear j)))|((with_reducible refine BQ (f:=62) rfl ?_);refine BW 9 Tryd.func62 #[] ?_;(with_reducible refine(Dp.calls  c _ A4.o).mono ?_);rintro e w6 ⟨aE,rfl,G,k⟩;refine⟨_,rfl,?_⟩;have d:=a_ (Kd.AU G (Af (Ag)));replace HB:=Bw k;replace a:=a_ (Cr a.o k);(try clear k G))|((with_reducible refine BV (N:=10) rfl ?_);refine Kd.DG Ck _ 32 ?hg (N:=10) ?hd (xs:=([]:List (AQ))) (inner:=[]) (ok:=λ_=>True) (okp:=λ_=>True) ?hr ?hp (λ_ z=>z) trivial (RG _ _) (RB _) (by simp) ?_;(case hd=>rfl);(case hg=>rfl);(case hr=>first|(go_simp;done)|(go_simp;rfl));(case hp=>exact(Bn.none _ _));intro aF w7 r k DN A;clear DN A;(first|rw[<-o.o]at r|(simp only[Int.reduceToNat]at r;rw[<-o.o]at r));replace d:=a_ (Kd.AJ (AV d.o) k);have n:=a_ (Kd.AU r (Af (Ag)));replace HB:=Bw k;replace a:=a_ (Cr a.o k);clear k r;obtain⟨u,y,aC⟩:=Kd.Be n.o;subst aC;obtain⟨m,q,E⟩:=Kd.Be d.o;subst E;obtain⟨an,ao,aq,ar,au,av,Y,Z,aa,ab,ae,af⟩:=BT a.o));refine RH (CJ rfl _ _ b 26 #[.int .i64 p,.int .i64 0,.slice m c.length q,.slice u l.length y,.int .i64 0,.int .i64 0] (0,0) _ rfl (F4 a.o) RP rfl (by kernel_rfl)) rfl ?_;exact⟨_,_,C8,by refine AV ?_;exact Kd.Ai (Dw (g:=b) (Kd.Aj d.o a.o (by decide)) (λ_ z=>z.2) (.int .i64 p) (.int .i64 0) (.slice m c.length q) (.slice u l.length y) (.int .i64 0) (.int .i64 0)) (λ_ z=>trivial),by refine AV ?_;exact Kd.Ai (Dw (g:=b) (Kd.Aj n.o a.o (by decide)) (λ_ z=>z.2) (.int .i64 p) (.int .i64 0) (.slice m c.length q) (.slice u l.length y) (.int .i64 0) (.int .i64 0)) (λ_ z=>trivial),Ag⟩
 replace c3:=RE.mpr c3;subst c3;have H1:(some (0,0,([]:List (Ba)),([]:List (AQ)),0,0,false))=some (I,J,K,L,M,O,P):=by rw[Rz (show¬ (false=true) by decide)]at H;exact H
 clear H;have H:=H1;clear H1;simp only[Option.some.injEq,Prod.mk.injEq]at H;obtain⟨rfl,rfl,rfl,rfl,rfl,rfl,rfl⟩:=H;go_enter Tryd.func67,Tryd.ntmps67;go_wp2_with(first|((with_reducible refine BV (N:=2) rfl ?_);refine Cy 2 (#[.int .i64 0,.int .i64 0,.slice none 0 0,.slice none 0 0,.int .i64 0,.int .i64 0]) 26 ?_;intro b hg t i k;have a:=a_ (i);have x:=BD w hg;have v:=BD w hg;replace HB:=Bw k;clear k i hg)|((with_reducible refine BQ (f:=20) rfl ?_);refine BW 5 Sw #[.int .i64 p,.int .i64 1,.int .i64 3] ?_;(with_reducible refine(Ar.calls p 1 3 false _ A2.o).mono ?_);rintro e w' ⟨rfl,⟨nd,rfl⟩⟩;refine⟨_,rfl,?_⟩;(try(rw[Ey t];generalize j:World.drewN t _=t;replace a:Ac (t.heap[b]?=some (.cells #[.int .i64 0,.int .i64 0,.slice none 0 0,.slice none 0 0,.int .i64 0,.int .i64 0] 26 (0,0))):=⟨by rw[<-j];exact(Bc a.o)⟩;replace HB:Ac (Below w.heap.size w t):=⟨by rw[<-j];exact(Ag)⟩;clear j));obtain⟨aw,ax,ay,az,aA,aB,ag,ah,ai,aj,ak,al⟩:=BT a.o));refine RH (CJ rfl _ _ b 26 #[.int .i64 0,.int .i64 0,.slice none 0 0,.slice none 0 0,.int .i64 0,.int .i64 0] (0,0) _ rfl (F4 a.o) RP rfl (by kernel_rfl)) rfl ?_;exact⟨_,_,C8,by first|exact Kd.He _ _ _ _ _|exact Kd.N_nil _ _ _ _ _|exact Kd.Ip _ _ _ _ _|exact Kd.Q_nil _ _ _ _ _|exact Kd.Jq _ _ _ _ _,by first|exact Kd.He _ _ _ _ _|exact Kd.N_nil _ _ _ _ _|exact Kd.Ip _ _ _ _ _|exact Kd.Q_nil _ _ _ _ _|exact Kd.Jq _ _ _ _ _,Ag⟩
def Bl.l0:Nat->Int->List (AQ)->Int->Bool->List (EZ)->List (DH)->Option ((List (AQ))×Int×Bool×(List (EZ))×(List (DH)))
 | 0,_,_,_,_,_,_=>none
 | k+1,i,c,d,e,b,g=>if i≤3 then((ED.f i).bind λa=>(if b.length<1759218604441 then(Bl.l0 k (wrap64 (i+1)) c d e (b++[(⟨a.1,a.2.1,a.2.2.1,a.2.2.2.1,a.2.2.2.2.1,a.2.2.2.2.2.1⟩:EZ)]) g)else(none)))else(some (c,d,e,b,g))
def Bl.f(k:Nat)  : Option ((List (AQ))×Int×Bool×(List (EZ))×(List (DH))):=(EE.f).bind λa=>(Bl.l0 k 1 a.1 a.2.1 a.2.2 ([]:List (EZ)) (([]:List (DH))))
theorem Bl.Ns:∀k,(∀b c d e g i,GV (Bl.l0 k b c d e g i) (Bl.l0 (k+1) b c d e g i))
 | 0=>λ_ _ _ _ _ _ r h=>by simp[Bl.l0]at h
 | k+1=>by
  have a:=Bl.Ns k
  ·intro b c d e g i
   unfold Bl.l0
   repeat' first
   | (with_reducible exact a _ _ _ _ _ _)
   | (with_reducible exact GV.refl _)
   | (with_reducible exact GV.none _)
   | (with_reducible refine GV.ite ?_ ?_)
   | (with_reducible refine GV.bind ?_ (λ_=>?_))
theorem Bl.mono:∀k,GV (Bl.f k ) (Bl.f (k+1) ):=by
 intro  k;have a:=Bl.Ns k;unfold Bl.f
 repeat' first
   | (with_reducible exact a _ _ _ _ _ _)
   | (with_reducible exact GV.refl _)
   | (with_reducible exact GV.none _)
   | (with_reducible refine GV.ite ?_ ?_)
   | (with_reducible refine GV.bind ?_ (λ_=>?_))
theorem Bl.calls(k:Nat)  (r1:List (AQ))(r2:Int)(r3:Bool)(r4:List (EZ))(r5:List (DH))(w:World)(h:Bl.f k  = some (r1,r2,r3,r4,r5)) :
  Calls Tryd.prog 58 #[] w λe w'=>∃aH a8 a9:Value,e=.returned (.agg #[aH,.int .i64 r2,.bool r3,a8,a9])∧Kd.R Ck 32 w' w.heap.size (λ_=>True) aH r1∧Kd.S Ha 26 w' w.heap.size (λy=>some y≠(aH:Value).ownBlock) a8 r4∧Kd.S Fh 114 w' w.heap.size (λy=>some y≠(aH:Value).ownBlock) a9 r5∧Below w.heap.size w w':=by
 have cP:=RK;have cO:=RP;have HB:=a_ (RG w.heap.size w);unfold Bl.f at h;have H:=h;clear h;replace H:=BR H;obtain⟨⟨q,D,E⟩,a1,H⟩:=H;try dsimp only at H
 have A1:=a_ a1;clear a1;obtain⟨A,hy_⟩:=EM (([]:List (DH)));replace H:(Bl.l0 k 1 q D E ([]:List (EZ)) A)=some (r1,r2,r3,r4,r5):=EN;have aC:=a_ hy_;clear hy_;have H':=a_ H;clear H;go_enter Tryd.func58,Tryd.ntmps58;go_wp2_with(first|((with_reducible refine BV (N:=0) rfl ?_);refine Cy 0 (#[.slice none 0 0,.int .i64 0,.bool false,.slice none 0 0,.slice none 0 0]) 64 ?_;intro m hg w2 ai Y;have j:=a_ (ai);have be:=BD w hg;have bb:=BD w hg;replace HB:=Bw Y;clear Y ai hg)|((with_reducible refine BQ (f:=66) rfl ?_);refine BW 5 Tryd.func66 #[] ?_;(with_reducible refine(EE.calls  q D E _ A1.o).mono ?_);rintro e w3 ⟨cQ,rfl,az,Y⟩;refine⟨_,rfl,?_⟩;have ae:=a_ (Kd.AU az (Af (Ag)));replace HB:=Bw Y;replace j:=a_ (Cr j.o Y);(try clear Y az))|((with_reducible refine BV (N:=6) rfl ?_);refine Kd.OQ Fh _ 114 ?hg (N:=6) ?hd (xs:=([]:List (DH))) (inner:=[]) (ok:=λ_=>True) (okp:=λ_=>True) ?hr ?hp (λ_ d=>d) trivial (RG _ _) (RB _) (by simp) ?_;(case hd=>rfl);(case hg=>rfl);(case hr=>first|(go_simp;done)|(go_simp;rfl));(case hp=>exact(Bn.none _ _));intro cR w4 aE Y DN a0;clear DN a0;(first|rw[<-aC.o]at aE|(simp only[Int.reduceToNat]at aE;rw[<-aC.o]at aE));have an:=a_ (Kd.Ea (Kd.MN aE (Kd.EH (AV ae.o))) (Af (Ag)));replace ae:=a_ (Kd.AJ (AV ae.o) Y);replace HB:=Bw Y;replace j:=a_ (Cr j.o Y);clear Y aE;obtain⟨ag,ah,cz⟩:=Kd.Ep an.o;subst cz;obtain⟨G,I,cA⟩:=Kd.Be ae.o;subst cA)|((with_reducible refine BV (N:=1) rfl ?_);refine Cy 1 (#[.slice none 0 0,.int .i64 0,.bool false,.slice none 0 0,.slice none 0 0]) 64 ?_;intro u hg w8 ai Y;have l:=a_ (ai);have bf:=BD w hg;have bc:=BD w hg;have K:=a_ ((by rw[hg];exact RN (Av (g:=m) (o:=.cells #[.slice none 0 0,.int .i64 0,.bool false,.slice none 0 0,.slice none 0 0] 64 (0,0)) (Bc j.o)):m≠u));have af:=a_ ((by rw[hg];exact RM (Av (g:=m) (o:=.cells #[.slice none 0 0,.int .i64 0,.bool false,.slice none 0 0,.slice none 0 0] 64 (0,0)) (Bc j.o)):u≠m));replace ae:=a_ (Kd.AJ (AV ae.o) Y);replace an:=a_ (Kd.FN (FR an.o) Y);replace j:=a_ (Cr j.o Y);replace HB:=Bw Y;clear Y ai hg;have cM:=af.o;have cN:=K.o;obtain⟨aU,aV,aW,aX,aY,aM,aN,aQ,aR,aT⟩:=CI l.o));go_loopg [2] k (λkq v2 w'=>∃(ab:Int) (n:List (EZ)) (u187003:Value),v2=.int .i64 ab∧Ac (Bl.l0 kq ab q D E n A=some (r1,r2,r3,r4,r5))∧Ac (kq≤k)∧Ac (Kd.R Ck 32 w' w.heap.size (λ_=>True) (.slice G q.length I) q)∧Ac (Kd.S Ha 26 w' w.heap.size (λy=>some y≠((.slice G q.length I):Value).ownBlock) u187003 n)∧Ac (Kd.S Fh 114 w' w.heap.size (λy=>some y≠((.slice G q.length I):Value).ownBlock) (.slice ag A.length ah) A)∧Ac (w'.heap[m]?=some (.cells #[(.slice none 0 0),.int .i64 0,.bool false,(.slice none 0 0),(.slice none 0 0)] 64 (0,0)))∧Ac (w'.heap[u]?=some (.cells #[(.slice G q.length I),.int .i64 D,.bool E,u187003,(.slice ag A.length ah)] 64 (0,0)))∧Ac (Below w.heap.size w w'))
 case atStart=>exact⟨(1),(([]:List (EZ))),(.slice none 0 0),(CA),H',⟨RB _⟩,⟨by refine AV ?_;exact Kd.Ai (FL (g:=u) (Kd.Aj ae.o l.o (by decide)) (λ_ d=>d.2) (.slice G q.length I) (.int .i64 D) (.bool E) (.slice none 0 0) (.slice ag A.length ah)) (λ_ d=>trivial)⟩,⟨by first|exact Kd.Jq _ _ _ _ _|exact Kd.N_nil _ _ _ _ _|exact Kd.Ip _ _ _ _ _|exact Kd.Q_nil _ _ _ _ _|exact Kd.He _ _ _ _ _⟩,⟨by refine FR ?_;exact Kd.CM (Kd.Cj (p:=⟨u,4,none⟩) (Kd.Cj (p:=⟨u,3,none⟩) (Kd.Cj (p:=⟨u,2,none⟩) (Kd.Cj (p:=⟨u,1,none⟩) (Kd.Cj (p:=⟨u,0,none⟩) (Kd.Eb an.o l.o (by decide)) (λ_ d=>d.2) (.slice G q.length I)) (λ_ d=>d.2) (.int .i64 D)) (λ_ d=>d.2) (.bool E)) (λ_ d=>d.2) (.slice none 0 0)) (λ_ d=>d.2) (.slice ag A.length ah)) (λ_ d=>d.1.2)⟩,⟨CZ K.o j.o⟩,⟨GN l.o⟩,⟨Ag⟩⟩
 clear H';try clear p2
 try clear aU aV aW aX aY aM aN aQ aR aT
 obtain⟨ab,n,u187003,rfl,HA,a2,i,a,r,j,l,HB⟩:=hrel;cases gk with
 | zero=>exact absurd HA.o (by simp[Bl.l0])
 | succ k1 =>
  have H:=HA.o
  clear HA
  simp only[Bl.l0]at H
  by_cases ay:ab≤3
  ·rw[Ry ay]at H
   have aZ:decide (ab≤3)=true:=BM ay
   clear ay
   replace H:=BR H
   obtain⟨⟨M,O,B,z,P,T,a7⟩,aI,H⟩:=H
   try dsimp only at H
   have ba:=a_ aI
   clear aI
   by_cases aG:n.length<1759218604441
   ·rw[Ry aG]at H
    have aJ:=a_ aG
    clear aG
    obtain⟨al,hy_⟩:=EM (n++[(⟨M,O,B,z,P,T⟩:EZ)])
    replace H:(Bl.l0 k1 (wrap64 (ab+1)) q D E al A)=some (r1,r2,r3,r4,r5):=EN
    have aK:=a_ hy_
    clear hy_
    have H':=a_ H
    clear H
    go_wp2_with(first|((with_reducible refine BQ (f:=67) rfl ?_);refine BW 14 Tryd.func67 #[.int .i64 ab] ?_;(with_reducible refine(ED.calls ab M O B z P T a7 _ ba.o).mono ?_);rintro e cV ⟨cS,cT,rfl,az,aD,Y⟩;refine⟨_,rfl,?_⟩;replace a:=a_ (Kd.CM (Kd.JS (Kd.JS (Kd.OR (FR a.o) Y) (Kd.Ch az)) (Kd.Ch aD)) (λ_ h_=>h_.1));replace r:=a_ (Kd.Hf (FR r.o) (Kd.Ch aD) Y);have Z:=a_ (Kd.AU az (Af (Ag)));have aa:=a_ (Kd.AU (Kd.Et aD (Kd.EH (AV i.o))) (Af (Ag)));replace i:=a_ (Kd.Dq (AV i.o) (Kd.Ch aD) Y);replace HB:=Bw Y;replace j:=a_ (Cr j.o Y);replace l:=a_ (Cr l.o Y);(try clear Y az aD))|((with_reducible refine BV (N:=3) rfl ?_);refine Cy 3 (#[.int .i64 0,.int .i64 0,.slice none 0 0,.slice none 0 0,.int .i64 0,.int .i64 0]) 26 ?_;intro c hg cL ai Y;have x:=a_ (ai);have bg:=BD w hg;have bd:=BD w hg;have aj:=a_ ((by rw[hg];exact RN (Av (g:=m) (o:=.cells #[.slice none 0 0,.int .i64 0,.bool false,.slice none 0 0,.slice none 0 0] 64 (0,0)) (Bc j.o)):m≠c));have aq:=a_ ((by rw[hg];exact RM (Av (g:=m) (o:=.cells #[.slice none 0 0,.int .i64 0,.bool false,.slice none 0 0,.slice none 0 0] 64 (0,0)) (Bc j.o)):c≠m));have ak:=a_ ((by rw[hg];exact RN (Av (g:=u) (o:=.cells #[.slice G q.length I,.int .i64 D,.bool E,u187003,.slice ag A.length ah] 64 (0,0)) (Bc l.o)):u≠c));have ar:=a_ ((by rw[hg];exact RM (Av (g:=u) (o:=.cells #[.slice G q.length I,.int .i64 D,.bool E,u187003,.slice ag A.length ah] 64 (0,0)) (Bc l.o)):c≠u));replace i:=a_ (Kd.AJ (AV i.o) Y);replace a:=a_ (Kd.FN (Kd.Kt (FR a.o) c (Sd hg.symm)) Y);replace r:=a_ (Kd.FN (FR r.o) Y);replace Z:=a_ (Kd.AJ (AV Z.o) Y);replace aa:=a_ (Kd.AJ (AV aa.o) Y);replace j:=a_ (Cr j.o Y);replace l:=a_ (Cr l.o Y);replace HB:=Bw Y;clear Y ai hg;have cD:=aq.o;have cH:=aj.o;have cE:=ar.o;have cI:=ak.o;obtain⟨bS,bT,bU,bV,bW,bX,bh,bj,bk,bl,bm,bn⟩:=BT x.o;obtain⟨U,X,a3⟩:=Kd.Be Z.o;subst a3;obtain⟨J,L,a4⟩:=Kd.Be aa.o;subst a4)|((with_reducible refine Dc (t:=26) (p:=3) rfl ?_);refine CY (t:=26) (p:=3) (v:=?q') (w1:=((((((cL.setCell ⟨c,0,none⟩ (.int .i64 M)).setCell ⟨c,1,none⟩ (.int .i64 O)).setCell ⟨c,2,none⟩ (.slice U B.length X)).setCell ⟨c,3,none⟩ (.slice J z.length L)).setCell ⟨c,4,none⟩ (.int .i64 P)).setCell ⟨c,5,none⟩ (.int .i64 T))) ?hg ?ho ?hn ?hr ?_;(case ho=>rfl);(case hg=>rfl);(case hn=>rfl);(case hr=>first|(go_simp;done)|(go_simp;rfl));intro ao hw;replace i:Ac (Kd.R Ck 32 ao w.heap.size (λy=>some y≠(.slice J z.length L:Value).ownBlock) (.slice G q.length I) q):=⟨(by rw[hw];exact(by refine AV ?_;exact Kd.Ai (Dw (g:=c) (Kd.Aj i.o x.o (by decide)) (λ_ d=>d.2) (.int .i64 M) (.int .i64 O) (.slice U B.length X) (.slice J z.length L) (.int .i64 P) (.int .i64 T)) (λ_ d=>d.1.2)))⟩;replace a:Ac (Kd.S Ha 26 ao w.heap.size (λy=>some y≠(.slice G q.length I:Value).ownBlock∧some y≠(.slice U B.length X:Value).ownBlock∧some y≠(.slice J z.length L:Value).ownBlock∧y≠c) u187003 n):=⟨(by rw[hw];exact(by refine FR ?_;exact Kd.CM (Kd.Cj (p:=⟨c,5,none⟩) (Kd.Cj (p:=⟨c,4,none⟩) (Kd.Cj (p:=⟨c,3,none⟩) (Kd.Cj (p:=⟨c,2,none⟩) (Kd.Cj (p:=⟨c,1,none⟩) (Kd.Cj (p:=⟨c,0,none⟩) (Kd.CM a.o (λy d=>(⟨d,d.2⟩:_∧y≠c))) (λ_ d=>d.2) (.int .i64 M)) (λ_ d=>d.2) (.int .i64 O)) (λ_ d=>d.2) (.slice U B.length X)) (λ_ d=>d.2) (.slice J z.length L)) (λ_ d=>d.2) (.int .i64 P)) (λ_ d=>d.2) (.int .i64 T)) (λ_ d=>⟨d.1.1.1.1,⟨d.1.1.1.2,⟨d.1.1.2,d.1.2⟩⟩⟩)))⟩;replace r:Ac (Kd.S Fh 114 ao w.heap.size (λy=>some y≠(.slice G q.length I:Value).ownBlock∧some y≠(.slice J z.length L:Value).ownBlock) (.slice ag A.length ah) A):=⟨(by rw[hw];exact(by refine FR ?_;exact Kd.CM (Kd.Cj (p:=⟨c,5,none⟩) (Kd.Cj (p:=⟨c,4,none⟩) (Kd.Cj (p:=⟨c,3,none⟩) (Kd.Cj (p:=⟨c,2,none⟩) (Kd.Cj (p:=⟨c,1,none⟩) (Kd.Cj (p:=⟨c,0,none⟩) (Kd.Eb r.o x.o (by decide)) (λ_ d=>d.2) (.int .i64 M)) (λ_ d=>d.2) (.int .i64 O)) (λ_ d=>d.2) (.slice U B.length X)) (λ_ d=>d.2) (.slice J z.length L)) (λ_ d=>d.2) (.int .i64 P)) (λ_ d=>d.2) (.int .i64 T)) (λ_ d=>⟨d.1.1,d.1.2⟩)))⟩;replace Z:Ac (Kd.R Dd 68 ao w.heap.size (λ_=>True) (.slice U B.length X) B):=⟨(by rw[hw];exact(by refine AV ?_;exact Kd.Ai (Dw (g:=c) (Kd.Aj Z.o x.o (by decide)) (λ_ d=>d.2) (.int .i64 M) (.int .i64 O) (.slice U B.length X) (.slice J z.length L) (.int .i64 P) (.int .i64 T)) (λ_ d=>trivial)))⟩;replace aa:Ac (Kd.R Ck 32 ao w.heap.size (λy=>some y≠(.slice G q.length I:Value).ownBlock) (.slice J z.length L) z):=⟨(by rw[hw];exact(by refine AV ?_;exact Kd.Ai (Dw (g:=c) (Kd.Aj aa.o x.o (by decide)) (λ_ d=>d.2) (.int .i64 M) (.int .i64 O) (.slice U B.length X) (.slice J z.length L) (.int .i64 P) (.int .i64 T)) (λ_ d=>d.1.2)))⟩;replace j:Ac (ao.heap[m]?=some (.cells #[.slice none 0 0,.int .i64 0,.bool false,.slice none 0 0,.slice none 0 0] 64 (0,0))):=⟨(by rw[hw];exact(CZ aj.o j.o))⟩;replace l:Ac (ao.heap[u]?=some (.cells #[.slice G q.length I,.int .i64 D,.bool E,u187003,.slice ag A.length ah] 64 (0,0))):=⟨(by rw[hw];exact(CZ ak.o l.o))⟩;replace x:Ac (ao.heap[c]?=some (.cells #[.int .i64 M,.int .i64 O,.slice U B.length X,.slice J z.length L,.int .i64 P,.int .i64 T] 26 (0,0))):=⟨(by rw[hw];exact(F4 x.o))⟩;replace HB:Ac (Below w.heap.size w ao):=⟨(by rw[hw];exact(Ag))⟩;clear hw;have cF:=af.o;have cJ:=K.o;obtain⟨bY,bZ,b6,b7,b8,bo,bp,bq,br,bu⟩:=CI l.o;obtain⟨b9,b_,ca,cb,cd,cf,bw,bx,bz,bA,bB,bC⟩:=BT x.o)|((with_reducible refine Bo (b:=.append) (xs:=#[.tmp 18,.tmp 20]) rfl ?_);at_builtin;refine Kd.Ks Ha (w0:=w) w.heap.size rfl (.tmp 18) (.tmp 20) 61 26 (.agg #[(.int .i64 0),(.int .i64 0),(.slice none 0 0),(.slice none 0 0),(.int .i64 0),(.int .i64 0)]) 80 rfl Tryd.underlying61 La rfl (by decide) (by omega) u187003 n (⟨M,O,B,z,P,T⟩:EZ) [.int .i64 M,.int .i64 O,.slice U B.length X,.slice J z.length L,.int .i64 P,.int .i64 T] (λy=>some y≠(.slice G q.length I:Value).ownBlock∧y≠c) (λy=>some y=(.slice U B.length X:Value).ownBlock∨some y=(.slice J z.length L:Value).ownBlock) rfl rfl ?aP (λy cC=>cC.elim (λh_=>((Kd.Ai (Fi:=λy=>((λy=>some y≠(.slice G q.length I:Value).ownBlock∧y≠c)) y∧some y≠(u187003:Value).ownBlock) (Kd.Aj (Kd.BE (Kd.BE (Z.o) (Kd.Ca i.o) (by decide)) (Kd.Ds a.o) (by decide)) x.o (by decide)) (λy d=>⟨⟨d.1.1.2,d.2⟩,d.1.2⟩))).1 y h_.symm) (λh_=>((Kd.Ai (Fi:=λy=>((λy=>some y≠(.slice G q.length I:Value).ownBlock∧y≠c)) y∧some y≠(u187003:Value).ownBlock) (Kd.Aj (Kd.BE (aa.o) (Kd.Ds a.o) (by decide)) x.o (by decide)) (λy d=>⟨⟨d.1.1,d.2⟩,d.1.2⟩))).1 y h_.symm)) ?aF ?aO ?aB ?aS ?aL ?_;(case aP=>exact IJ _ _ _ (⟨M,O,B,z,P,T⟩:EZ) (Kd.Ai (Kd.E_ rfl (Kd.Ai (Fi:=λy=>((λy=>some y≠(.slice G q.length I:Value).ownBlock∧y≠c)) y∧some y≠(u187003:Value).ownBlock) (Kd.Aj (Kd.BE (Kd.BE (Z.o) (Kd.Ca i.o) (by decide)) (Kd.Ds a.o) (by decide)) x.o (by decide)) (λy d=>⟨⟨d.1.1.2,d.2⟩,d.1.2⟩))) (λ_ h_=>Or.inl h_)) (Kd.Ai (Kd.E_ rfl (Kd.Ai (Fi:=λy=>((λy=>some y≠(.slice G q.length I:Value).ownBlock∧y≠c)) y∧some y≠(u187003:Value).ownBlock) (Kd.Aj (Kd.BE (aa.o) (Kd.Ds a.o) (by decide)) x.o (by decide)) (λy d=>⟨⟨d.1.1,d.2⟩,d.1.2⟩))) (λ_ h_=>Or.inr (h_))));(case aB=>exact(Ag));(case aF=>exact(λy d=>⟨Kd.Fk (Kd.EH (AV i.o)) y d,Kd.Dk (g:=c) (o:=.cells #[.int .i64 M,.int .i64 O,.slice U B.length X,.slice J z.length L,.int .i64 P,.int .i64 T] 26 (0,0)) (Bc x.o) y d⟩));(case aO=>exact(by refine FR ?_;exact Kd.CM a.o (λy d=>⟨⟨d.1,d.2.2.2⟩,λe_=>e_.elim (λh_=>d.2.1 h_) (λh_=>d.2.2.1 h_)⟩)));(case aS=>exact(Af (Ag)));(case aL=>have:=aJ.o;omega);intro cU cW ho Y hg cB;rw[<-aK.o]at ho;replace i:=a_ (Kd.DL (AV i.o) (Kd.Ds (FR a.o)) (by decide) hg);replace r:=a_ (Kd.JR (FR r.o) (Kd.Ds (FR a.o)) (by decide) hg);replace j:=a_ (AO (g:=m) (o:=.cells #[.slice none 0 0,.int .i64 0,.bool false,.slice none 0 0,.slice none 0 0] 64 (0,0)) (Bc j.o) hg (Kd.Ku a.o j.o (by decide)));replace l:=a_ (AO (g:=u) (o:=.cells #[.slice G q.length I,.int .i64 D,.bool E,u187003,.slice ag A.length ah] 64 (0,0)) (Bc l.o) hg (Kd.Ku a.o l.o (by decide)));replace x:=a_ (AO (g:=c) (o:=.cells #[.int .i64 M,.int .i64 O,.slice U B.length X,.slice J z.length L,.int .i64 P,.int .i64 T] 26 (0,0)) (Bc x.o) hg (Kd.MJ a.o (λ_ d=>d.2.2.2)));replace HB:=a_ (Y);have aA:=a_ (ho);clear a Z aa;clear ho Y hg cB;obtain⟨au,aw,a5⟩:=Kd.Ep aA.o;subst a5;obtain⟨cg,cj,ck,cl,cm,bD,bE,bF,bG,bH⟩:=CI l.o))
    go_roundg k1
    case measure=>have:=a2.o;omega
    case rel=>exact⟨(wrap64 (ab+1)),(al),(.slice au al.length aw),(CA),H',⟨by have:=a2.o;omega⟩,⟨by refine AV ?_;exact Kd.Ai (Kd.CS (p:=⟨u,3,none⟩) (Kd.Aj i.o l.o (by decide)) (λ_ d=>d.2) (.slice au al.length aw)) (λ_ d=>trivial)⟩,⟨by refine FR ?_;exact Kd.CM (Kd.Cj (p:=⟨u,3,none⟩) (Kd.Eb aA.o l.o (by decide)) (λ_ d=>d.2) (.slice au al.length aw)) (λ_ d=>d.1.1)⟩,⟨by refine FR ?_;exact Kd.CM (Kd.Cj (p:=⟨u,3,none⟩) (Kd.Eb r.o l.o (by decide)) (λ_ d=>d.2) (.slice au al.length aw)) (λ_ d=>d.1.1)⟩,⟨CZ K.o j.o⟩,⟨by(with_reducible repeat(first|refine Fz ?_ _|refine Du ?_|refine EG ?_ _));refine BF (cs:=#[.slice G q.length I,.int .i64 D,.bool E,u187003,.slice ag A.length ah]) ?_ 3 _ rfl;(with_reducible repeat(first|refine Fz ?_ _|refine Du ?_|refine EG ?_ _));exact l.o⟩,⟨Ag⟩⟩
   ·rw[Rz aG]at H
    exact absurd H (by simp)
  ·rw[Rz ay]at H
   have aZ:decide (ab≤3)=false:=C9 ay
   clear ay
   simp only[Option.some.injEq,Prod.mk.injEq]at H
   obtain⟨rfl,rfl,rfl,rfl,rfl⟩:=H
   have cG:=af.o
   have cK:=K.o
   obtain⟨cn,cp,cq,cr,ct,bI,bJ,bK,bL,bM⟩:=CI (W:=wr) l.o
   obtain⟨cu,cv,cw,cx,cy,bN,bO,bP,bQ,bR⟩:=CI (W:=wr) j.o
   obtain⟨av,ax,a6⟩:=Kd.Ep a.o
   subst a6
   go_wp2
   refine RH (RF rfl _ _ m 64 #[.slice G q.length I,.int .i64 D,.bool E,.slice av n.length ax,.slice ag A.length ah] (0,0) _ rfl (GN j.o) RK rfl (by kernel_rfl)) rfl ?_
   exact⟨_,_,_,C8,by refine AV ?_;exact Kd.Ai (FL (g:=m) (Kd.Aj i.o j.o (by decide)) (λ_ d=>d.2) (.slice G q.length I) (.int .i64 D) (.bool E) (.slice av n.length ax) (.slice ag A.length ah)) (λ_ d=>trivial),by refine FR ?_;exact Kd.CM (Kd.Cj (p:=⟨m,4,none⟩) (Kd.Cj (p:=⟨m,3,none⟩) (Kd.Cj (p:=⟨m,2,none⟩) (Kd.Cj (p:=⟨m,1,none⟩) (Kd.Cj (p:=⟨m,0,none⟩) (Kd.Eb a.o j.o (by decide)) (λ_ d=>d.2) (.slice G q.length I)) (λ_ d=>d.2) (.int .i64 D)) (λ_ d=>d.2) (.bool E)) (λ_ d=>d.2) (.slice av n.length ax)) (λ_ d=>d.2) (.slice ag A.length ah)) (λ_ d=>d.1),by refine FR ?_;exact Kd.CM (Kd.Cj (p:=⟨m,4,none⟩) (Kd.Cj (p:=⟨m,3,none⟩) (Kd.Cj (p:=⟨m,2,none⟩) (Kd.Cj (p:=⟨m,1,none⟩) (Kd.Cj (p:=⟨m,0,none⟩) (Kd.Eb r.o j.o (by decide)) (λ_ d=>d.2) (.slice G q.length I)) (λ_ d=>d.2) (.int .i64 D)) (λ_ d=>d.2) (.bool E)) (λ_ d=>d.2) (.slice av n.length ax)) (λ_ d=>d.2) (.slice ag A.length ah)) (λ_ d=>d.1),Ag⟩
def Bk.f(c:Int):Option (Bool):=(Ar.f (wrap64 (Int.tdiv c 10)) 1 3).bind λa=>(if a=true then((Ar.f (Int.tmod c 10) 1 6).bind λb=>(some b))else(some false))
theorem Bk.calls(b:Int)(r:Bool)(w:World)(h:Bk.f b=some r) :
  Calls Tryd.prog 31 #[.int .i64 b] w λe w'=>e=.returned (.bool r)∧As w w':=by
 unfold Bk.f at h;have H:=h;clear h;replace H:=BR H;obtain⟨g,c,H⟩:=H;try dsimp only at H
 have i:=a_ c;clear c;by_cases c3:g=true
 ·subst c3;have H1:((Ar.f (Int.tmod b 10) 1 6).bind λa=>(some a))=some r:=by rw[Ry rfl]at H;exact H
  clear H;have H:=H1;clear H1;replace H:=BR H;obtain⟨a,d,H⟩:=H;try dsimp only at H
  have j:=a_ d;clear d;obtain rfl:=CW H;go_enter Tryd.func31,Tryd.ntmps31;go_wp2_with(first|((with_reducible refine BQ (f:=20) rfl ?_);refine BW 5 Sw #[.int .i64 (wrap64 (Int.tdiv b 10)),.int .i64 1,.int .i64 3] ?_;(with_reducible refine(Ar.calls (wrap64 (Int.tdiv b 10)) 1 3 true _ i.o).mono ?_);rintro e w' ⟨rfl,⟨nd,rfl⟩⟩;refine⟨_,rfl,?_⟩)|(go_at_call 20;(with_reducible refine(Ar.calls (Int.tmod b 10) 1 6 a _ j.o).mono ?_);rintro e w' ⟨rfl,⟨nd,rfl⟩⟩));go_ret;exact⟨CA,by repeat(first|exact As.refl _|apply As.step)⟩
 replace c3:=RE.mpr c3;subst c3;have H1:(some false)=some r:=by rw[Rz (show¬ (false=true) by decide)]at H;exact H
 clear H;have H:=H1;clear H1;obtain rfl:=CW H;go_enter Tryd.func31,Tryd.ntmps31;go_wp2_with(first|((with_reducible refine BQ (f:=20) rfl ?_);refine BW 5 Sw #[.int .i64 (wrap64 (Int.tdiv b 10)),.int .i64 1,.int .i64 3] ?_;(with_reducible refine(Ar.calls (wrap64 (Int.tdiv b 10)) 1 3 false _ i.o).mono ?_);rintro e w' ⟨rfl,⟨nd,rfl⟩⟩;refine⟨_,rfl,?_⟩));go_ret;exact⟨CA,by repeat(first|exact As.refl _|apply As.step)⟩
end Go.Proofs.YtlhlpfnljglhoaaDoor.P
